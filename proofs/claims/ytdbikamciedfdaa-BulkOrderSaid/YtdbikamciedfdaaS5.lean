/- Parts of a proof, joined: GT E0 E1 K1 K2 K3 K4 K5 K6 K7 K8 K9 K10 K11 K12 K13 K14 K15 K16 K17 K18 K19 K20 K21 K22 K23 K24 K25 K26 K27 K28 K29 K30 K31 K32 K33 K34 K35 K36 K37 K38 K39 K40 K41 K42 K43 K44 K45 K46 K47 K48 K49 K50 K51. No statement of the seed is proved here. -/
import Derived.KernelRfl
import Derived.Test.YtdbikamciedfdaaS4
set_option linter.unusedSimpArgs false
set_option linter.unusedVariables false
set_option linter.unusedSectionVars false
namespace Go.Proofs.Ytdbikamciedfdaa
open Go Go.DL Go.Proofs.Try

def progX : Nat → Option XFn
  | 3 => some x3
  | 4 => some x4
  | 5 => some x5
  | 6 => some x6
  | 7 => some x7
  | 8 => some x8
  | 9 => some x9
  | 10 => some x10
  | 11 => some x11
  | 12 => some x12
  | 13 => some x13
  | 14 => some x14
  | 15 => some x15
  | 16 => some x16
  | 17 => some x17
  | 18 => some x18
  | 19 => some x19
  | 20 => some x20
  | 21 => some x21
  | 22 => some x22
  | 23 => some x23
  | 24 => some x24
  | 25 => some x25
  | 26 => some x26
  | 27 => some x27
  | 28 => some x28
  | 29 => some x29
  | 30 => some x30
  | 31 => some x31
  | 32 => some x32
  | 33 => some x33
  | 34 => some x34
  | 35 => some x35
  | 36 => some x36
  | 37 => some x37
  | 38 => some x38
  | 39 => some x39
  | 40 => some x40
  | 41 => some x41
  | 42 => some x42
  | 43 => some x43
  | 44 => some x44
  | 45 => some x45
  | 46 => some x46
  | 47 => some x47
  | 48 => some x48
  | 49 => some x49
  | 50 => some x50
  | 51 => some x51
  | 52 => some x52
  | 53 => some x53
  | 54 => some x54
  | 55 => some x55
  | 56 => some x56
  | 57 => some x57
  | 58 => some x58
  | 59 => some x59
  | 60 => some x60
  | 61 => some x61
  | 62 => some x62
  | 63 => some x63
  | 64 => some x64
  | 65 => some x65
  | 66 => some x66
  | 67 => some x67
  | 68 => some x68
  | 69 => some x69
  | 70 => some x70
  | 71 => some x71
  | 72 => some x72
  | 73 => some x73
  | 74 => some x74
  | 75 => some x75
  | 76 => some x76
  | 77 => some x77
  | 78 => some x78
  | 79 => some x79
  | 80 => some x80
  | _ => none
theorem progX_ok : XOk prog progX := by
  refine ⟨rfl, fun k d h => ?_, fun k d h => ?_, fun k d h => ?_⟩
  · unfold progX at h
    split at h <;> first | (cases h; done) | (simp only [Option.some.injEq] at h; subst h; first | exact is3 | exact is4 | exact is5 | exact is6 | exact is7 | exact is8 | exact is9 | exact is10 | exact is11 | exact is12 | exact is13 | exact is14 | exact is15 | exact is16 | exact is17 | exact is18 | exact is19 | exact is20 | exact is21 | exact is22 | exact is23 | exact is24 | exact is25 | exact is26 | exact is27 | exact is28 | exact is29 | exact is30 | exact is31 | exact is32 | exact is33 | exact is34 | exact is35 | exact is36 | exact is37 | exact is38 | exact is39 | exact is40 | exact is41 | exact is42 | exact is43 | exact is44 | exact is45 | exact is46 | exact is47 | exact is48 | exact is49 | exact is50 | exact is51 | exact is52 | exact is53 | exact is54 | exact is55 | exact is56 | exact is57 | exact is58 | exact is59 | exact is60 | exact is61 | exact is62 | exact is63 | exact is64 | exact is65 | exact is66 | exact is67 | exact is68 | exact is69 | exact is70 | exact is71 | exact is72 | exact is73 | exact is74 | exact is75 | exact is76 | exact is77 | exact is78 | exact is79 | exact is80)
  · unfold progX at h
    split at h <;> first | (cases h; done) | (simp only [Option.some.injEq] at h; subst h; first | exact ok3 | exact ok4 | exact ok5 | exact ok6 | exact ok7 | exact ok8 | exact ok9 | exact ok10 | exact ok11 | exact ok12 | exact ok13 | exact ok14 | exact ok15 | exact ok16 | exact ok17 | exact ok18 | exact ok19 | exact ok20 | exact ok21 | exact ok22 | exact ok23 | exact ok24 | exact ok25 | exact ok26 | exact ok27 | exact ok28 | exact ok29 | exact ok30 | exact ok31 | exact ok32 | exact ok33 | exact ok34 | exact ok35 | exact ok36 | exact ok37 | exact ok38 | exact ok39 | exact ok40 | exact ok41 | exact ok42 | exact ok43 | exact ok44 | exact ok45 | exact ok46 | exact ok47 | exact ok48 | exact ok49 | exact ok50 | exact ok51 | exact ok52 | exact ok53 | exact ok54 | exact ok55 | exact ok56 | exact ok57 | exact ok58 | exact ok59 | exact ok60 | exact ok61 | exact ok62 | exact ok63 | exact ok64 | exact ok65 | exact ok66 | exact ok67 | exact ok68 | exact ok69 | exact ok70 | exact ok71 | exact ok72 | exact ok73 | exact ok74 | exact ok75 | exact ok76 | exact ok77 | exact ok78 | exact ok79 | exact ok80)
  · unfold progX at h
    split at h <;> first | (cases h; done) | (simp only [Option.some.injEq] at h; subst h; first | exact st3 | exact st4 | exact st5 | exact st6 | exact st7 | exact st8 | exact st9 | exact st10 | exact st11 | exact st12 | exact st13 | exact st14 | exact st15 | exact st16 | exact st17 | exact st18 | exact st19 | exact st20 | exact st21 | exact st22 | exact st23 | exact st24 | exact st25 | exact st26 | exact st27 | exact st28 | exact st29 | exact st30 | exact st31 | exact st32 | exact st33 | exact st34 | exact st35 | exact st36 | exact st37 | exact st38 | exact st39 | exact st40 | exact st41 | exact st42 | exact st43 | exact st44 | exact st45 | exact st46 | exact st47 | exact st48 | exact st49 | exact st50 | exact st51 | exact st52 | exact st53 | exact st54 | exact st55 | exact st56 | exact st57 | exact st58 | exact st59 | exact st60 | exact st61 | exact st62 | exact st63 | exact st64 | exact st65 | exact st66 | exact st67 | exact st68 | exact st69 | exact st70 | exact st71 | exact st72 | exact st73 | exact st74 | exact st75 | exact st76 | exact st77 | exact st78 | exact st79 | exact st80)
theorem r3 {vs : List AV} {h : XH} (hl : vs.length ≤ 90) : runW progX 3 vs h = retX x3.res x3.ownR h.length (execW progX 3 h.length none x3.body (argEnv (if x3.ownA then vs else nzL vs)) h) := runW_eq rfl hl h
theorem r4 {vs : List AV} {h : XH} (hl : vs.length ≤ 65) : runW progX 4 vs h = retX x4.res x4.ownR h.length (execW progX 4 h.length none x4.body (argEnv (if x4.ownA then vs else nzL vs)) h) := runW_eq rfl hl h
theorem r9 {vs : List AV} {h : XH} (hl : vs.length ≤ 215) : runW progX 9 vs h = retX x9.res x9.ownR h.length (execW progX 9 h.length none x9.body (argEnv (if x9.ownA then vs else nzL vs)) h) := runW_eq rfl hl h
theorem r20 {vs : List AV} {h : XH} (hl : vs.length ≤ 18) : runW progX 20 vs h = retX x20.res x20.ownR h.length (execW progX 20 h.length none x20.body (argEnv (if x20.ownA then vs else nzL vs)) h) := runW_eq rfl hl h
theorem r23 {vs : List AV} {h : XH} (hl : vs.length ≤ 56) : runW progX 23 vs h = retX x23.res x23.ownR h.length (execW progX 23 h.length none x23.body (argEnv (if x23.ownA then vs else nzL vs)) h) := runW_eq rfl hl h
theorem r29 {vs : List AV} {h : XH} (hl : vs.length ≤ 180) : runW progX 29 vs h = retX x29.res x29.ownR h.length (execW progX 29 h.length none x29.body (argEnv (if x29.ownA then vs else nzL vs)) h) := runW_eq rfl hl h
theorem r31 {vs : List AV} {h : XH} (hl : vs.length ≤ 15) : runW progX 31 vs h = retX x31.res x31.ownR h.length (execW progX 31 h.length none x31.body (argEnv (if x31.ownA then vs else nzL vs)) h) := runW_eq rfl hl h
theorem r36 {vs : List AV} {h : XH} (hl : vs.length ≤ 4) : runW progX 36 vs h = retX x36.res x36.ownR h.length (execW progX 36 h.length none x36.body (argEnv (if x36.ownA then vs else nzL vs)) h) := runW_eq rfl hl h
theorem r39 {vs : List AV} {h : XH} (hl : vs.length ≤ 54) : runW progX 39 vs h = retX x39.res x39.ownR h.length (execW progX 39 h.length none x39.body (argEnv (if x39.ownA then vs else nzL vs)) h) := runW_eq rfl hl h
theorem r42 {vs : List AV} {h : XH} (hl : vs.length ≤ 15) : runW progX 42 vs h = retX x42.res x42.ownR h.length (execW progX 42 h.length none x42.body (argEnv (if x42.ownA then vs else nzL vs)) h) := runW_eq rfl hl h
theorem r43 {vs : List AV} {h : XH} (hl : vs.length ≤ 21) : runW progX 43 vs h = retX x43.res x43.ownR h.length (execW progX 43 h.length none x43.body (argEnv (if x43.ownA then vs else nzL vs)) h) := runW_eq rfl hl h
theorem r44 {vs : List AV} {h : XH} (hl : vs.length ≤ 37) : runW progX 44 vs h = retX x44.res x44.ownR h.length (execW progX 44 h.length none x44.body (argEnv (if x44.ownA then vs else nzL vs)) h) := runW_eq rfl hl h
theorem r47 {vs : List AV} {h : XH} (hl : vs.length ≤ 28) : runW progX 47 vs h = retX x47.res x47.ownR h.length (execW progX 47 h.length none x47.body (argEnv (if x47.ownA then vs else nzL vs)) h) := runW_eq rfl hl h
theorem r48 {vs : List AV} {h : XH} (hl : vs.length ≤ 44) : runW progX 48 vs h = retX x48.res x48.ownR h.length (execW progX 48 h.length none x48.body (argEnv (if x48.ownA then vs else nzL vs)) h) := runW_eq rfl hl h
theorem r54 {vs : List AV} {h : XH} (hl : vs.length ≤ 23) : runW progX 54 vs h = retX x54.res x54.ownR h.length (execW progX 54 h.length none x54.body (argEnv (if x54.ownA then vs else nzL vs)) h) := runW_eq rfl hl h
theorem r55 {vs : List AV} {h : XH} (hl : vs.length ≤ 11) : runW progX 55 vs h = retX x55.res x55.ownR h.length (execW progX 55 h.length none x55.body (argEnv (if x55.ownA then vs else nzL vs)) h) := runW_eq rfl hl h
theorem r57 {vs : List AV} {h : XH} (hl : vs.length ≤ 22) : runW progX 57 vs h = retX x57.res x57.ownR h.length (execW progX 57 h.length none x57.body (argEnv (if x57.ownA then vs else nzL vs)) h) := runW_eq rfl hl h
theorem r58 {vs : List AV} {h : XH} (hl : vs.length ≤ 21) : runW progX 58 vs h = retX x58.res x58.ownR h.length (execW progX 58 h.length none x58.body (argEnv (if x58.ownA then vs else nzL vs)) h) := runW_eq rfl hl h
theorem r61 {vs : List AV} {h : XH} (hl : vs.length ≤ 23) : runW progX 61 vs h = retX x61.res x61.ownR h.length (execW progX 61 h.length none x61.body (argEnv (if x61.ownA then vs else nzL vs)) h) := runW_eq rfl hl h
theorem r66 {vs : List AV} {h : XH} (hl : vs.length ≤ 39) : runW progX 66 vs h = retX x66.res x66.ownR h.length (execW progX 66 h.length none x66.body (argEnv (if x66.ownA then vs else nzL vs)) h) := runW_eq rfl hl h
theorem r67 {vs : List AV} {h : XH} (hl : vs.length ≤ 33) : runW progX 67 vs h = retX x67.res x67.ownR h.length (execW progX 67 h.length none x67.body (argEnv (if x67.ownA then vs else nzL vs)) h) := runW_eq rfl hl h
theorem r69 {vs : List AV} {h : XH} (hl : vs.length ≤ 9) : runW progX 69 vs h = retX x69.res x69.ownR h.length (execW progX 69 h.length none x69.body (argEnv (if x69.ownA then vs else nzL vs)) h) := runW_eq rfl hl h
theorem r70 {vs : List AV} {h : XH} (hl : vs.length ≤ 7) : runW progX 70 vs h = retX x70.res x70.ownR h.length (execW progX 70 h.length none x70.body (argEnv (if x70.ownA then vs else nzL vs)) h) := runW_eq rfl hl h
theorem r71 {vs : List AV} {h : XH} (hl : vs.length ≤ 10) : runW progX 71 vs h = retX x71.res x71.ownR h.length (execW progX 71 h.length none x71.body (argEnv (if x71.ownA then vs else nzL vs)) h) := runW_eq rfl hl h
theorem r72 {vs : List AV} {h : XH} (hl : vs.length ≤ 10) : runW progX 72 vs h = retX x72.res x72.ownR h.length (execW progX 72 h.length none x72.body (argEnv (if x72.ownA then vs else nzL vs)) h) := runW_eq rfl hl h
theorem r74 {vs : List AV} {h : XH} (hl : vs.length ≤ 9) : runW progX 74 vs h = retX x74.res x74.ownR h.length (execW progX 74 h.length none x74.body (argEnv (if x74.ownA then vs else nzL vs)) h) := runW_eq rfl hl h
theorem r75 {vs : List AV} {h : XH} (hl : vs.length ≤ 10) : runW progX 75 vs h = retX x75.res x75.ownR h.length (execW progX 75 h.length none x75.body (argEnv (if x75.ownA then vs else nzL vs)) h) := runW_eq rfl hl h
theorem r79 {vs : List AV} {h : XH} (hl : vs.length ≤ 19) : runW progX 79 vs h = retX x79.res x79.ownR h.length (execW progX 79 h.length none x79.body (argEnv (if x79.ownA then vs else nzL vs)) h) := runW_eq rfl hl h
theorem r80 {vs : List AV} {h : XH} (hl : vs.length ≤ 19) : runW progX 80 vs h = retX x80.res x80.ownR h.length (execW progX 80 h.length none x80.body (argEnv (if x80.ownA then vs else nzL vs)) h) := runW_eq rfl hl h

end Go.Proofs.Ytdbikamciedfdaa
namespace Go.Proofs.Ytdbikamciedfdaa
open Go Go.DL
theorem wk_0 : runW progX 32 [] [] = some (.agg [I (3), .sl 0 0 7 7], [some (.blk true (.cells true [I (-1), I (0), .bool true, I (100), I (600), I (130), I (20), I (0), I (1), .bool false, I (0), I (0), I (0), I (0), I (0), I (-1), .bool true, I (5), I (150), I (125), I (8), I (1), I (2), .bool true, I (90), I (40), I (0), I (6), I (1), I (-1), .bool false, I (0), I (0), I (0), I (0), I (2), I (-1), .bool false, I (0), I (0), I (0), I (0), I (2), I (-1), .bool true, I (80), I (1), I (0), I (1)]))]) := runW_iff.2 ⟨100, by kernel_rfl⟩
theorem wk_1 : runW progX 13 [.agg [I (3), .fs [[I (-1), I (0), .bool true, I (100), I (600), I (130), I (20)], [I (0), I (1), .bool false, I (0), I (0), I (0), I (0)], [I (0), I (-1), .bool true, I (5), I (150), I (125), I (8)], [I (1), I (2), .bool true, I (90), I (40), I (0), I (6)], [I (1), I (-1), .bool false, I (0), I (0), I (0), I (0)], [I (2), I (-1), .bool false, I (0), I (0), I (0), I (0)], [I (2), I (-1), .bool true, I (80), I (1), I (0), I (1)]]]] [] = some (.tup [.fs [[I (-1)], [I (-1)], [I (-1)]], I (0)], []) := runW_iff.2 ⟨100, by kernel_rfl⟩
theorem wk_2 : runW progX 23 [.agg [I (3), .fs [[I (-1), I (0), .bool true, I (100), I (600), I (130), I (20)], [I (0), I (1), .bool false, I (0), I (0), I (0), I (0)], [I (0), I (-1), .bool true, I (5), I (150), I (125), I (8)], [I (1), I (2), .bool true, I (90), I (40), I (0), I (6)], [I (1), I (-1), .bool false, I (0), I (0), I (0), I (0)], [I (2), I (-1), .bool false, I (0), I (0), I (0), I (0)], [I (2), I (-1), .bool true, I (80), I (1), I (0), I (1)]]]] [] = some (.tup [.fs [[I (1), I (100), I (600), I (130), I (20)], [I (2), I (95), I (450), I (5), I (12)], [I (1), I (5), I (150), I (125), I (8)], [I (1), I (90), I (40), I (0), I (6)], [I (2), I (5), I (410), I (5), I (6)], [I (2), I (10), I (39), I (0), I (5)], [I (1), I (80), I (1), I (0), I (1)]], I (0)], []) := runW_iff.2 ⟨100, by kernel_rfl⟩
theorem wk_3 : runW progX 23 [.agg [I (3), .fs [[I (-1), I (0), .bool true, I (100), I (600), I (130), I (20)], [I (0), I (1), .bool false, I (0), I (0), I (0), I (0)], [I (0), I (-1), .bool true, I (5), I (150), I (125), I (8)], [I (1), I (2), .bool false, I (90), I (40), I (0), I (6)], [I (1), I (-1), .bool false, I (0), I (0), I (0), I (0)], [I (2), I (-1), .bool false, I (0), I (0), I (0), I (0)], [I (2), I (-1), .bool true, I (80), I (1), I (0), I (1)]]]] [] = some (.tup [.fs [[I (1), I (100), I (600), I (130), I (20)], [I (2), I (95), I (450), I (5), I (12)], [I (1), I (5), I (150), I (125), I (8)], [I (3), I (0), I (0), I (0), I (0)], [I (3), I (0), I (0), I (0), I (0)], [I (3), I (0), I (0), I (0), I (0)], [I (1), I (80), I (1), I (0), I (1)]], I (0)], []) := runW_iff.2 ⟨100, by kernel_rfl⟩
theorem wk_4 : runW progX 16 [.agg [I (3), .fs [[I (-1), I (0), .bool true, I (100), I (600), I (130), I (20)], [I (0), I (1), .bool false, I (0), I (0), I (0), I (0)], [I (0), I (-1), .bool true, I (5), I (150), I (125), I (8)], [I (1), I (2), .bool true, I (90), I (40), I (0), I (6)], [I (1), I (-1), .bool false, I (0), I (0), I (0), I (0)], [I (2), I (-1), .bool false, I (0), I (0), I (0), I (0)], [I (2), I (-1), .bool true, I (80), I (1), I (0), I (1)]]], .sl 0 0 1 2] [some (.blk true (.cells true [I (0), I (1)]))] = some (.tup [.agg [I (5), I (410), I (5), I (6)], I (0)], [none]) := runW_iff.2 ⟨100, by kernel_rfl⟩
theorem wk_5 : runW progX 33 [.agg [I (3), .fs [[I (-1), I (0), .bool true, I (100), I (600), I (130), I (20)], [I (0), I (1), .bool false, I (0), I (0), I (0), I (0)], [I (0), I (-1), .bool true, I (5), I (150), I (125), I (8)], [I (1), I (2), .bool false, I (90), I (40), I (0), I (6)], [I (1), I (-1), .bool false, I (0), I (0), I (0), I (0)], [I (2), I (-1), .bool false, I (0), I (0), I (0), I (0)], [I (2), I (-1), .bool true, I (80), I (1), I (0), I (1)]]], I (3), .agg [I (0), I (0), I (0), I (0)]] [] = some (.tup [.fs [[I (100), I (600), I (130), I (20)], [I (95), I (450), I (5), I (12)], [I (5), I (150), I (125), I (8)], [I (0), I (0), I (0), I (0)], [I (95), I (450), I (5), I (12)], [I (-80), I (-1), I (0), I (-1)], [I (80), I (1), I (0), I (1)]], I (0)], []) := runW_iff.2 ⟨100, by kernel_rfl⟩
theorem wk_6 : runW progX 23 [.agg [I (3), .fs [[I (-1), I (0), .bool true, I (100), I (600), I (130), I (20)], [I (0), I (1), .bool true, I (95), I (450), I (5), I (12)], [I (0), I (-1), .bool true, I (5), I (150), I (125), I (8)], [I (1), I (2), .bool true, I (90), I (40), I (0), I (6)], [I (1), I (-1), .bool true, I (5), I (410), I (5), I (6)], [I (2), I (-1), .bool true, I (10), I (39), I (0), I (4)], [I (2), I (-1), .bool true, I (80), I (1), I (0), I (1)]]]] [] = some (.tup [.fs [], I (12)], []) := runW_iff.2 ⟨100, by kernel_rfl⟩
theorem wk_7 : runW progX 25 [.agg [I (3), .fs [[I (-1), I (0), .bool true, I (100), I (600), I (130), I (20)], [I (0), I (1), .bool true, I (95), I (450), I (5), I (12)], [I (0), I (-1), .bool true, I (5), I (150), I (125), I (8)], [I (1), I (2), .bool true, I (90), I (40), I (0), I (6)], [I (1), I (-1), .bool true, I (5), I (410), I (5), I (6)], [I (2), I (-1), .bool true, I (10), I (39), I (0), I (4)], [I (2), I (-1), .bool true, I (80), I (1), I (0), I (1)]]]] [] = some (.tup [.fs [[I (2)]], I (3), I (0)], []) := runW_iff.2 ⟨100, by kernel_rfl⟩
theorem wk_8 : runW progX 22 [.fs [[I (-1)], [I (-1)], [I (-1)]], .sl 0 0 1 3] [some (.blk true (.cells true [I (-1), I (-1), I (-1)]))] = some (.bool true, [some (.blk true (.cells true [I (-1), I (-1), I (-1)]))]) := runW_iff.2 ⟨100, by kernel_rfl⟩
theorem wk_9 : runW progX 28 [.agg [I (3), .fs [[I (-1), I (0), .bool true, I (100), I (600), I (130), I (20)], [I (0), I (1), .bool true, I (95), I (450), I (5), I (12)], [I (0), I (-1), .bool true, I (5), I (150), I (125), I (8)], [I (1), I (2), .bool true, I (90), I (40), I (0), I (6)], [I (1), I (-1), .bool true, I (5), I (410), I (5), I (6)], [I (2), I (-1), .bool true, I (10), I (39), I (0), I (4)], [I (2), I (-1), .bool true, I (80), I (1), I (0), I (1)]]], .fs [[I (2)]], I (3)] [] = some (I (0), []) := runW_iff.2 ⟨100, by kernel_rfl⟩
theorem wk_10 : runW progX 28 [.agg [I (3), .fs [[I (-1), I (0), .bool true, I (100), I (600), I (130), I (20)], [I (0), I (1), .bool true, I (95), I (450), I (5), I (12)], [I (0), I (-1), .bool true, I (5), I (150), I (125), I (8)], [I (1), I (2), .bool true, I (90), I (40), I (0), I (6)], [I (1), I (-1), .bool true, I (5), I (410), I (5), I (6)], [I (2), I (-1), .bool true, I (10), I (39), I (0), I (4)], [I (2), I (-1), .bool true, I (80), I (1), I (0), I (1)]]], .sl 0 0 1 1, I (3)] [some (.blk true (.cells true [I (2)]))] = some (I (0), [none]) := runW_iff.2 ⟨100, by kernel_rfl⟩
theorem wk_11 : runW progX 18 [.str ⟨#[97, 57]⟩] [] = some (.bool true, []) := runW_iff.2 ⟨100, by kernel_rfl⟩
theorem wk_12 : runW progX 18 [.str ⟨#[57, 97]⟩] [] = some (.bool false, []) := runW_iff.2 ⟨100, by kernel_rfl⟩
end Go.Proofs.Ytdbikamciedfdaa
namespace Go.Proofs.Ytdbikamciedfdaa
open Go Go.DL
set_option maxHeartbeats 4000000
set_option maxRecDepth 100000
theorem works_w : runW progX 12 [] [] = some (.bool true, []) := by
  rw [runW_eq (d := x12) rfl (by simp)]
  simp (config := { maxSteps := 2000000 }) [nzL, nzA, zfo, execW_regS, execW_regD, zfp, zfq, zfr, zfs, execW_cond, zft, zfu, zfv, zfw, zfx, zfy, xops, xopsD, gd, xcore, evalQ, evA, updo, upd_eq, binA, intA, fzX, fzNs, fzOf, fz1, retX_n, retX_r, resA, resL, resA1, finX, slN, slL, keepAcc, reachX, reachFuel, nmL, nmA, nmO, nmB, keepH, padTake, rnA, rnL, rnO, rnB, argEnv, List.flatMap, callX, passedOf, passed, localH, posOf, mergeR, mergeH, setL, backS, hat, hpOf, xNew, flagNew, flagH, grA, grL, loadA, readA, xStore, cellsOf, splice, fzA, fzL, fzB, fzO, chunks, keepS, cellsEq, cellEq, logOk, logPost, logX, blkA, callQ, fillA, canonE, canonH, envL, eqnA, boundA, slslA, srcA, appA, lookA, findA, keyEqA, putA, xMapup, xCopy, sameO, sameL, sameA, keptB, roX, gdA, gdL, gdR, anyE, wrap_ok, canonL, zfz, leaves, x12, x12l0, execW_loop, wk_0, wk_1, wk_2, wk_3, wk_4, wk_5, wk_6, wk_7, wk_8, wk_9, wk_10, wk_11, wk_12]
end Go.Proofs.Ytdbikamciedfdaa
namespace Go.Proofs.Ytdbikamciedfdaa
open Go Go.DL
set_option maxRecDepth 100000
set_option maxHeartbeats 1000000
abbrev wr (n : Int) : Int := IntKind.i64.wrap n

def btw (a b c : Int) : Bool := decide (a ≤ b) && decide (b ≤ c)
theorem w42 (a b c : Int) : runW progX 42 [I a, I b, I c] [] = some (.bool (btw a b c), []) := by
  rw [r42 (by simp)]; unfold x42; dsimp only
  by_cases h : a ≤ b
  · have h := eq_true h
    (sym => (simp [z00,z01,z05,z07,z0b,z0c,z0h,z0i,z0k,z0n,z0q,z0v,z22,z23,z2w,z4m,z67,z6q,z7r,z7s,z9n,z9y,za3,za5,za7,za8,zba,zbt,zbu,zbw,zbx,zby,zbz,zc0,zc3,zc4,zc5,zc6,zc8,zcj,zco,zcr,zct,zcv,zd2,zd4,zdk,zdl,zdo,zds,zdt,ze2,ze3,zfm,zfo,zfp,zft,zg0,zg1, h, btw.eq_1]; all_goals tactic => exact rfl))
  · have h := eq_false h
    (sym => (simp [z00,z01,z05,z07,z0b,z0c,z0h,z0i,z0k,z0n,z0q,z0v,z22,z23,z2w,z4m,z67,z6q,z7r,z7s,z9n,z9y,za3,za5,za7,za8,zba,zbt,zbu,zbw,zbx,zby,zbz,zc0,zc3,zc4,zc5,zc6,zc8,zcj,zco,zcr,zct,zcv,zd2,zd4,zdk,zdl,zdo,zds,zdt,ze2,ze3,zfm,zfo,zfp,zft,zg0,zg1, h, btw.eq_1]; all_goals tactic => exact rfl))
/-- Masses. -/
structure Ms where
  a : Int
  b : Int
  c : Int
  d : Int
deriving DecidableEq
abbrev Ms.cs (m : Ms) : List AV := [I m.a, I m.b, I m.c, I m.d]
def Ms.plus (m : Ms) (t : Int) (o : Ms) : Ms := ⟨wr (m.a + wr (t * o.a)), wr (m.b + wr (t * o.b)), wr (m.c + wr (t * o.c)), wr (m.d + wr (t * o.d))⟩

theorem w61 (a b c d t a' b' c' d' : Int) : runW progX 61 [.agg [I a, I b, I c, I d], I t, .agg [I a', I b', I c', I d']] [] = some (.agg (Ms.plus ⟨a, b, c, d⟩ t ⟨a', b', c', d'⟩).cs, []) := by
  rw [r61 (by simp)]; unfold x61; dsimp only
  unfold x61l0
  (sym => (simp [z00,z01,z02,z05,z07,z08,z0b,z0c,z0f,z0n,z0o,z0r,z0v,z14,z1j,z1k,z1m,z1n,z1o,z1p,z1q,z2j,z2l,z2v,z36,z37,z38,z39,z3g,z3i,z3k,z3m,z3p,z40,z4l,z4o,z4t,z54,z57,z66,z69,z6e,z6p,z6s,z7r,z7u,z8a,z8d,z91,z9d,z9e,z9g,z9i,z9j,z9k,z9l,z9m,z9n,z9p,z9r,z9s,z9v,z9w,z9y,za0,za1,za3,za6,za7,za8,za9,zae,zaf,zal,zav,zba,zbt,zbu,zbw,zbx,zby,zbz,zc0,zc3,zc4,zc5,zc7,zc8,zca,zcb,zcc,zcd,zce,zcf,zcg,zcj,zcn,zco,zcp,zcq,zcr,zct,zcu,zcv,zcy,zd3,zd7,zd8,zdd,zdj,zdk,zdl,zdm,zdn,zds,zdt,zdu,zdv,zdw,zdx,zdy,zdz,ze2,ze3,ze9,zeo,zep,zf6,zf7,zfa,zfb,zfc,zfd,zfg,zfm,zfo,zfp,zfq,zfr,zfs,zft,zfu,zfw,zfy,zg0,zg1,zhf,zj8, execW_loop]; all_goals tactic => exact rfl))
end Go.Proofs.Ytdbikamciedfdaa
namespace Go.Proofs.Ytdbikamciedfdaa
open Go Go.DL
set_option maxRecDepth 100000
set_option maxHeartbeats 1000000

def encM (es : List (Int × Int)) : List (AV × AV) := es.map fun p => (I p.1, I p.2)
def look (es : List (Int × Int)) (x : Int) : Option Int := match es with
  | [] => none
  | p :: r => if p.1 = x then some p.2 else look r x
abbrev mapB (es : List (Int × Int)) : Option XB := some (.blk true (.map true (encM es)))

theorem findA_enc (es : List (Int × Int)) (x : Int) : findA false (I x) (encM es) = some ((look es x).map I) := by
  induction es with
  | nil => rfl
  | cons p r ih =>
    simp only [encM, List.map_cons, findA, keyEqA, if_true, look] at ih ⊢
    by_cases h : p.1 = x
    · simp [h]
    · rw [show (x == p.1) = false by simpa using fun e => h e.symm]
      simpa [h] using ih

def stepH (es : List (Int × Int)) (x : Int) : Int := (look es x).getD x
def itH (es : List (Int × Int)) : Nat → Int → Int
  | 0, x => x
  | n + 1, x => stepH es (itH es n x)

theorem w57 (es : List (Int × Int)) (x : Int) (n : Nat) (h1 : ∀ i, i < n → stepH es (itH es i x) ≠ itH es i x) (h2 : stepH es (itH es n x) = itH es n x) :
    runW progX 57 [.mp 0, I x] [mapB es] = some (I (itH es n x), [mapB es]) := by
  rw [r57 (by simp)]; unfold x57; dsimp only
  have hl : look es (itH es n x) = none ∨ look es (itH es n x) = some (itH es n x) := by
    unfold stepH at h2
    cases hx : look es (itH es n x) with
    | none => exact .inl rfl
    | some y => rw [hx] at h2; simp at h2; right; rw [h2]
  sym =>
    simp [z00,z01,z05,z07,z0b,z0c,z0h,z0j,z0l,z0n,z0q,z0v,z0z,z1d,z1e,z22,z23,z26,z2i,z2t,z47,z48,z4a,z4c,z4d,z4l,z4u,z66,z6f,z6p,z7r,z80,z9d,z9e,z9g,z9n,z9p,z9r,z9w,z9y,za1,za3,za5,za6,za7,za8,zae,zaf,zak,zal,zba,zbt,zbu,zbw,zbx,zby,zbz,zc0,zc3,zc4,zc5,zc6,zc8,zca,zcc,zcd,zce,zcf,zcg,zci,zcj,zcn,zco,zcr,zcs,zct,zcu,zcv,zcy,zcz,zd6,zd7,zdj,zdk,zdl,zdo,zds,zdt,zdu,zdv,ze2,ze3,zfm,zfo,zfp,zfq,zfs,zft,zfv,zfw,zfx,zfz,zg0,zg1]
    tactic =>
      unfold x57l0
      rw [loop_rule n (fun i => [.mp 0, I (itH es i x)]) (fun _ => [mapB es])]
      · rcases hl with hl | hl <;> (sym => (simp [z00,z01,z05,z07,z0b,z0c,z0h,z0j,z0l,z0n,z0q,z0v,z0z,z1d,z1e,z22,z23,z26,z2i,z2t,z47,z48,z4a,z4c,z4d,z4l,z4u,z66,z6f,z6p,z7r,z80,z9d,z9e,z9g,z9n,z9p,z9r,z9w,z9y,za1,za3,za5,za6,za7,za8,zae,zaf,zak,zal,zba,zbt,zbu,zbw,zbx,zby,zbz,zc0,zc3,zc4,zc5,zc6,zc8,zca,zcc,zcd,zce,zcf,zcg,zci,zcj,zcn,zco,zcr,zcs,zct,zcu,zcv,zcy,zcz,zd6,zd7,zdj,zdk,zdl,zdo,zds,zdt,zdu,zdv,ze2,ze3,zfm,zfo,zfp,zfq,zfs,zft,zfv,zfw,zfx,zfz,zg0,zg1, hl, findA_enc]; all_goals tactic => exact rfl))
      · (sym => (simp [z00,z01,z05,z07,z0b,z0c,z0h,z0j,z0l,z0n,z0q,z0v,z0z,z1d,z1e,z22,z23,z26,z2i,z2t,z47,z48,z4a,z4c,z4d,z4l,z4u,z66,z6f,z6p,z7r,z80,z9d,z9e,z9g,z9n,z9p,z9r,z9w,z9y,za1,za3,za5,za6,za7,za8,zae,zaf,zak,zal,zba,zbt,zbu,zbw,zbx,zby,zbz,zc0,zc3,zc4,zc5,zc6,zc8,zca,zcc,zcd,zce,zcf,zcg,zci,zcj,zcn,zco,zcr,zcs,zct,zcu,zcv,zcy,zcz,zd6,zd7,zdj,zdk,zdl,zdo,zds,zdt,zdu,zdv,ze2,ze3,zfm,zfo,zfp,zfq,zfs,zft,zfv,zfw,zfx,zfz,zg0,zg1, itH.eq_1]; all_goals tactic => exact rfl))
      · intro i hi
        have h3 := h1 i hi
        unfold stepH at h3
        cases hx : look es (itH es i x) with
        | none => rw [hx] at h3; simp at h3
        | some y =>
          rw [hx] at h3
          simp only [Option.getD_some] at h3
          have h4 := eq_false h3
          have h5 : itH es (i + 1) x = y := by simp [itH, stepH, hx]
          simp only [h5]
          (sym => (simp [z00,z01,z05,z07,z0b,z0c,z0h,z0j,z0l,z0n,z0q,z0v,z0z,z1d,z1e,z22,z23,z26,z2i,z2t,z47,z48,z4a,z4c,z4d,z4l,z4u,z66,z6f,z6p,z7r,z80,z9d,z9e,z9g,z9n,z9p,z9r,z9w,z9y,za1,za3,za5,za6,za7,za8,zae,zaf,zak,zal,zba,zbt,zbu,zbw,zbx,zby,zbz,zc0,zc3,zc4,zc5,zc6,zc8,zca,zcc,zcd,zce,zcf,zcg,zci,zcj,zcn,zco,zcr,zcs,zct,zcu,zcv,zcy,zcz,zd6,zd7,zdj,zdk,zdl,zdo,zds,zdt,zdu,zdv,ze2,ze3,zfm,zfo,zfp,zfq,zfs,zft,zfv,zfw,zfx,zfz,zg0,zg1, findA_enc, hx, h4]; all_goals tactic => exact rfl))
      · rcases hl with hl | hl <;> (sym => (simp [z00,z01,z05,z07,z0b,z0c,z0h,z0j,z0l,z0n,z0q,z0v,z0z,z1d,z1e,z22,z23,z26,z2i,z2t,z47,z48,z4a,z4c,z4d,z4l,z4u,z66,z6f,z6p,z7r,z80,z9d,z9e,z9g,z9n,z9p,z9r,z9w,z9y,za1,za3,za5,za6,za7,za8,zae,zaf,zak,zal,zba,zbt,zbu,zbw,zbx,zby,zbz,zc0,zc3,zc4,zc5,zc6,zc8,zca,zcc,zcd,zce,zcf,zcg,zci,zcj,zcn,zco,zcr,zcs,zct,zcu,zcv,zcy,zcz,zd6,zd7,zdj,zdk,zdl,zdo,zds,zdt,zdu,zdv,ze2,ze3,zfm,zfo,zfp,zfq,zfs,zft,zfv,zfw,zfx,zfz,zg0,zg1, findA_enc, hl, zch, zci]; all_goals tactic => exact rfl))

def hd (es : List (Int × Int)) (n : Nat) (x r : Int) : Prop := (∀ i, i < n → stepH es (itH es i x) ≠ itH es i x) ∧ stepH es (itH es n x) = itH es n x ∧ itH es n x = r
theorem w57' {es : List (Int × Int)} {x r : Int} {n : Nat} (h : hd es n x r) : runW progX 57 [.mp 0, I x] [mapB es] = some (I r, [mapB es]) := by
  rw [w57 es x n h.1 h.2.1, h.2.2]

def put (es : List (Int × Int)) (k v : Int) : List (Int × Int) := match es with
  | [] => [(k, v)]
  | p :: r => if k = p.1 then (p.1, v) :: r else p :: put r k v
theorem putA_enc (es : List (Int × Int)) (k v : Int) : putA false (I k) (I v) (encM es) = some (encM (put es k v)) := by
  induction es with
  | nil => rfl
  | cons p r ih =>
    simp only [encM, List.map_cons, putA, keyEqA, if_true, put] at ih ⊢
    by_cases h : k = p.1
    · simp [h]
    · simp only [show (k == p.1) = false by simpa using h, if_neg h, ih, Option.map_some, List.map_cons]

theorem w58 {es : List (Int × Int)} {x y a b : Int} {n m : Nat} (h1 : hd es n x a) (h2 : hd es m y b) : runW progX 58 [.mp 0, I x, I y] [mapB es] = some (.tup [], [mapB (put es (if b > a then b else a) (if b < a then b else a))]) := by
  rw [r58 (by simp)]; unfold x58; dsimp only
  have e1 := w57' h1
  have e2 := w57' h2
  (sym => (simp [z00,z01,z02,z05,z06,z07,z09,z0b,z0c,z0n,z1g,z1n,z1r,z1t,z1u,z20,z21,z42,z43,z4l,z4p,z4u,z54,z66,z6a,z6f,z6p,z6t,z6y,z7r,z7v,z80,z9d,z9i,z9l,z9m,z9n,z9r,z9t,z9v,z9y,za0,za1,za2,za3,za5,za6,za7,za8,zaa,zab,zac,zae,zaf,zak,zal,zaq,zas,zat,zau,zba,zbc,zbd,zbe,zbs,zbu,zbw,zbx,zby,zbz,zc1,zc3,zc8,zcj,zcn,zco,zcq,zcr,zcs,zct,zcu,zcv,zcy,zd3,zdj,zdo,zds,zdt,zdu,zdv,zdy,ze2,ze3,zfe,zff,zfo,zft,zg0,zg1, e1, e2, putA_enc]; all_goals tactic => exact rfl))
end Go.Proofs.Ytdbikamciedfdaa
namespace Go.Proofs.Ytdbikamciedfdaa
open Go Go.DL
set_option maxRecDepth 100000
set_option maxHeartbeats 1000000

theorem w75 (lo n hi : Int) : runW progX 75 [I n, .pt 0 0, .pt 1 0] [some (.blk true (.cells true [I lo])), some (.blk true (.cells true [I hi]))] = some (.bool !(btw lo n hi), [some (.blk true (.cells true [I lo])), some (.blk true (.cells true [I hi]))]) := by
  rw [r75 (by simp)]; unfold x75; dsimp only
  (sym => (simp [z00,z01,z05,z06,z07,z09,z0b,z0c,z0n,z0z,z1j,z1r,z1u,z20,z21,z26,z4l,z4m,z66,z67,z6p,z6q,z7r,z7s,z7z,z9d,z9e,z9g,z9m,z9n,z9p,z9y,za2,za3,za5,za6,za7,za8,zaa,zab,zae,zaf,zak,zal,zaq,zas,zat,zba,zbc,zbd,zbe,zbf,zbg,zbk,zbt,zbu,zbw,zbx,zby,zbz,zc0,zc3,zc4,zc5,zc6,zc8,zcj,zcn,zco,zcq,zcr,zcs,zct,zcu,zcv,zdo,zds,zdt,zdu,zdv,ze2,ze3,zf6,zf7,zfb,zfo,zfp,zft,zg0,zg1, w42]; all_goals tactic => exact rfl))
def Ms.within (m : Ms) (lo hi : Int) : Bool := btw lo m.a hi && (btw lo m.b hi && (btw lo m.c hi && btw lo m.d hi))
theorem w80 (a b c d lo hi : Int) : runW progX 80 [.fs [[I a], [I b], [I c], [I d]], .fn (.func 75) [] [.pt 0 0, .pt 1 0]] [some (.blk true (.cells true [I lo])), some (.blk true (.cells true [I hi]))] = some (I (if btw lo a hi then if btw lo b hi then if btw lo c hi then if btw lo d hi then -1 else 3 else 2 else 1 else 0), [some (.blk true (.cells true [I lo])), some (.blk true (.cells true [I hi]))]) := by
  rw [r80 (by simp)]; unfold x80; dsimp only
  unfold x80l0
  cases h1 : btw lo a hi
  · (sym => (simp [z00,z01,z05,z07,z0b,z0c,z0n,z0v,z15,z1f,z1j,z1r,z1u,z20,z21,z2b,z2g,z2h,z2j,z2v,z36,z37,z38,z39,z3g,z3i,z3k,z3m,z3p,z4l,z4q,z4t,z4y,z66,z67,z6b,z6e,z6j,z6p,z7r,z7w,z84,z9d,z9i,z9l,z9m,z9n,z9p,z9r,z9s,z9t,z9v,z9w,z9y,za0,za1,za2,za3,za5,za6,za7,za8,zaa,zab,zac,zae,zaf,zak,zal,zaq,zas,zat,zau,zba,zbt,zbu,zbw,zbx,zby,zbz,zc0,zc3,zc4,zc5,zc6,zc8,zca,zcb,zcc,zcd,zce,zcf,zcg,zcj,zcn,zco,zcp,zcq,zcr,zcs,zct,zcu,zcv,zcy,zd6,zd7,zdd,zdj,zdk,zdl,zdo,zds,zdt,zdu,zdv,ze2,ze3,zf8,zf9,zfb,zfm,zfo,zfp,zfq,zfr,zfs,zft,zfu,zfv,zfw,zfx,zfy,zg0,zg1, execW_loop, w75, h1]; all_goals tactic => exact rfl))
  cases h2 : btw lo b hi
  · (sym => (simp [z00,z01,z05,z07,z0b,z0c,z0n,z0v,z15,z1f,z1j,z1r,z1u,z20,z21,z2b,z2g,z2h,z2j,z2v,z36,z37,z38,z39,z3g,z3i,z3k,z3m,z3p,z4l,z4q,z4t,z4y,z66,z67,z6b,z6e,z6j,z6p,z7r,z7w,z84,z9d,z9i,z9l,z9m,z9n,z9p,z9r,z9s,z9t,z9v,z9w,z9y,za0,za1,za2,za3,za5,za6,za7,za8,zaa,zab,zac,zae,zaf,zak,zal,zaq,zas,zat,zau,zba,zbt,zbu,zbw,zbx,zby,zbz,zc0,zc3,zc4,zc5,zc6,zc8,zca,zcb,zcc,zcd,zce,zcf,zcg,zcj,zcn,zco,zcp,zcq,zcr,zcs,zct,zcu,zcv,zcy,zd6,zd7,zdd,zdj,zdk,zdl,zdo,zds,zdt,zdu,zdv,ze2,ze3,zf8,zf9,zfb,zfm,zfo,zfp,zfq,zfr,zfs,zft,zfu,zfv,zfw,zfx,zfy,zg0,zg1, execW_loop, w75, h1, h2]; all_goals tactic => exact rfl))
  cases h3 : btw lo c hi
  · (sym => (simp [z00,z01,z05,z07,z0b,z0c,z0n,z0v,z15,z1f,z1j,z1r,z1u,z20,z21,z2b,z2g,z2h,z2j,z2v,z36,z37,z38,z39,z3g,z3i,z3k,z3m,z3p,z4l,z4q,z4t,z4y,z66,z67,z6b,z6e,z6j,z6p,z7r,z7w,z84,z9d,z9i,z9l,z9m,z9n,z9p,z9r,z9s,z9t,z9v,z9w,z9y,za0,za1,za2,za3,za5,za6,za7,za8,zaa,zab,zac,zae,zaf,zak,zal,zaq,zas,zat,zau,zba,zbt,zbu,zbw,zbx,zby,zbz,zc0,zc3,zc4,zc5,zc6,zc8,zca,zcb,zcc,zcd,zce,zcf,zcg,zcj,zcn,zco,zcp,zcq,zcr,zcs,zct,zcu,zcv,zcy,zd6,zd7,zdd,zdj,zdk,zdl,zdo,zds,zdt,zdu,zdv,ze2,ze3,zf8,zf9,zfb,zfm,zfo,zfp,zfq,zfr,zfs,zft,zfu,zfv,zfw,zfx,zfy,zg0,zg1, execW_loop, w75, h1, h2, h3]; all_goals tactic => exact rfl))
  cases h4 : btw lo d hi <;> (sym => (simp [z00,z01,z05,z07,z0b,z0c,z0n,z0v,z15,z1f,z1j,z1r,z1u,z20,z21,z2b,z2g,z2h,z2j,z2v,z36,z37,z38,z39,z3g,z3i,z3k,z3m,z3p,z4l,z4q,z4t,z4y,z66,z67,z6b,z6e,z6j,z6p,z7r,z7w,z84,z9d,z9i,z9l,z9m,z9n,z9p,z9r,z9s,z9t,z9v,z9w,z9y,za0,za1,za2,za3,za5,za6,za7,za8,zaa,zab,zac,zae,zaf,zak,zal,zaq,zas,zat,zau,zba,zbt,zbu,zbw,zbx,zby,zbz,zc0,zc3,zc4,zc5,zc6,zc8,zca,zcb,zcc,zcd,zce,zcf,zcg,zcj,zcn,zco,zcp,zcq,zcr,zcs,zct,zcu,zcv,zcy,zd6,zd7,zdd,zdj,zdk,zdl,zdo,zds,zdt,zdu,zdv,ze2,ze3,zf8,zf9,zfb,zfm,zfo,zfp,zfq,zfr,zfs,zft,zfu,zfv,zfw,zfx,zfy,zg0,zg1, execW_loop, w75, h1, h2, h3, h4]; all_goals tactic => exact rfl))
end Go.Proofs.Ytdbikamciedfdaa
namespace Go.Proofs.Ytdbikamciedfdaa
open Go Go.DL
set_option maxRecDepth 100000
set_option maxHeartbeats 1000000

theorem w74 (a b c d lo hi : Int) : runW progX 74 [.sl 0 0 1 4, .fn (.func 75) [] [.pt 1 0, .pt 2 0]] [some (.blk true (.cells true [I a, I b, I c, I d])), some (.blk true (.cells true [I lo])), some (.blk true (.cells true [I hi]))] = some (.bool !(Ms.within ⟨a, b, c, d⟩ lo hi), [none, some (.blk true (.cells true [I lo])), some (.blk true (.cells true [I hi]))]) := by
  rw [r74 (by simp)]; unfold x74; dsimp only
  unfold Ms.within
  cases h1 : btw lo a hi
  · (sym => (simp [z00,z01,z05,z06,z07,z09,z0b,z0c,z0n,z0v,z1r,z1u,z20,z21,z2y,z4m,z4q,z4t,z4y,z66,z67,z6b,z6e,z6j,z6q,z6w,z72,z7f,z7g,z7l,z7s,z7y,z84,z9d,z9i,z9j,z9k,z9l,z9m,z9n,z9r,z9s,z9t,z9v,z9y,za0,za1,za2,za3,za5,za6,za7,za8,zaa,zab,zac,zad,zae,zaf,zaj,zak,zal,zaq,zas,zat,zau,zb4,zb5,zb9,zba,zbb,zbc,zbd,zbe,zbm,zbp,zbt,zbu,zbw,zbx,zby,zbz,zc0,zc3,zc4,zc5,zc6,zc8,zcj,zcn,zco,zcp,zcq,zcr,zcs,zct,zcu,zcv,zcy,zd3,zd4,zd5,zd6,zd7,zdd,zdj,zdk,zdl,zdo,zds,zdt,zdu,zdv,ze0,ze1,ze2,ze3,zfm,zfo,zfp,zft,zg0,zg1,zhy,zhz,zi0,zi1,zi2, w80, h1]; all_goals tactic => exact rfl))
  cases h2 : btw lo b hi
  · (sym => (simp [z00,z01,z05,z06,z07,z09,z0b,z0c,z0n,z0v,z1r,z1u,z20,z21,z2y,z4m,z4q,z4t,z4y,z66,z67,z6b,z6e,z6j,z6q,z6w,z72,z7f,z7g,z7l,z7s,z7y,z84,z9d,z9i,z9j,z9k,z9l,z9m,z9n,z9r,z9s,z9t,z9v,z9y,za0,za1,za2,za3,za5,za6,za7,za8,zaa,zab,zac,zad,zae,zaf,zaj,zak,zal,zaq,zas,zat,zau,zb4,zb5,zb9,zba,zbb,zbc,zbd,zbe,zbm,zbp,zbt,zbu,zbw,zbx,zby,zbz,zc0,zc3,zc4,zc5,zc6,zc8,zcj,zcn,zco,zcp,zcq,zcr,zcs,zct,zcu,zcv,zcy,zd3,zd4,zd5,zd6,zd7,zdd,zdj,zdk,zdl,zdo,zds,zdt,zdu,zdv,ze0,ze1,ze2,ze3,zfm,zfo,zfp,zft,zg0,zg1,zhy,zhz,zi0,zi1,zi2, w80, h1, h2]; all_goals tactic => exact rfl))
  cases h3 : btw lo c hi
  · (sym => (simp [z00,z01,z05,z06,z07,z09,z0b,z0c,z0n,z0v,z1r,z1u,z20,z21,z2y,z4m,z4q,z4t,z4y,z66,z67,z6b,z6e,z6j,z6q,z6w,z72,z7f,z7g,z7l,z7s,z7y,z84,z9d,z9i,z9j,z9k,z9l,z9m,z9n,z9r,z9s,z9t,z9v,z9y,za0,za1,za2,za3,za5,za6,za7,za8,zaa,zab,zac,zad,zae,zaf,zaj,zak,zal,zaq,zas,zat,zau,zb4,zb5,zb9,zba,zbb,zbc,zbd,zbe,zbm,zbp,zbt,zbu,zbw,zbx,zby,zbz,zc0,zc3,zc4,zc5,zc6,zc8,zcj,zcn,zco,zcp,zcq,zcr,zcs,zct,zcu,zcv,zcy,zd3,zd4,zd5,zd6,zd7,zdd,zdj,zdk,zdl,zdo,zds,zdt,zdu,zdv,ze0,ze1,ze2,ze3,zfm,zfo,zfp,zft,zg0,zg1,zhy,zhz,zi0,zi1,zi2, w80, h1, h2, h3]; all_goals tactic => exact rfl))
  cases h4 : btw lo d hi <;> (sym => (simp [z00,z01,z05,z06,z07,z09,z0b,z0c,z0n,z0v,z1r,z1u,z20,z21,z2y,z4m,z4q,z4t,z4y,z66,z67,z6b,z6e,z6j,z6q,z6w,z72,z7f,z7g,z7l,z7s,z7y,z84,z9d,z9i,z9j,z9k,z9l,z9m,z9n,z9r,z9s,z9t,z9v,z9y,za0,za1,za2,za3,za5,za6,za7,za8,zaa,zab,zac,zad,zae,zaf,zaj,zak,zal,zaq,zas,zat,zau,zb4,zb5,zb9,zba,zbb,zbc,zbd,zbe,zbm,zbp,zbt,zbu,zbw,zbx,zby,zbz,zc0,zc3,zc4,zc5,zc6,zc8,zcj,zcn,zco,zcp,zcq,zcr,zcs,zct,zcu,zcv,zcy,zd3,zd4,zd5,zd6,zd7,zdd,zdj,zdk,zdl,zdo,zds,zdt,zdu,zdv,ze0,ze1,ze2,ze3,zfm,zfo,zfp,zft,zg0,zg1,zhy,zhz,zi0,zi1,zi2, w80, h1, h2, h3, h4]; all_goals tactic => exact rfl))
theorem f_nnb {b : Bool} : (!(!b)) = b := by cases b <;> rfl
theorem w55 (a b c d lo hi : Int) : runW progX 55 [.agg [I a, I b, I c, I d], I lo, I hi] [] = some (.bool (Ms.within ⟨a, b, c, d⟩ lo hi), []) := by
  rw [r55 (by simp)]; unfold x55; dsimp only
  (sym => (simp [z00,z01,z05,z07,z0b,z0c,z0e,z0f,z0n,z0p,z0r,z0z,z19,z1r,z1u,z20,z21,z26,z4m,z4s,z4t,z4y,z54,z57,z67,z6d,z6e,z6j,z6q,z7r,z7s,z7u,z8a,z8d,z9d,z9e,z9g,z9i,z9l,z9m,z9n,z9r,z9s,z9t,z9v,z9y,za0,za1,za2,za3,za5,za6,za7,za8,zaa,zab,zac,zad,zae,zaf,zal,zaq,zas,zat,zau,zba,zbt,zbu,zbw,zbx,zby,zbz,zc0,zc3,zc4,zc5,zc6,zc8,zcj,zcn,zco,zcp,zcq,zcr,zct,zcu,zcv,zcy,zd3,zdd,zdj,zdo,zds,zdt,zdu,zdv,zdw,zdx,ze2,ze3,zej,zeo,zep,zfg,zfo,zfp,zft,zg0,zg1,zgj,zgk,zgl,zgm, w74, f_nnb]; all_goals tactic => exact rfl))
/-- A flow. -/
structure Fl where
  fr : Int
  to : Int
  me : Bool
  m : Ms
deriving DecidableEq
abbrev Fl.row (x : Fl) : List AV := [I x.fr, I x.to, .bool x.me, I x.m.a, I x.m.b, I x.m.c, I x.m.d]
theorem etaM (m : Ms) : (⟨m.a, m.b, m.c, m.d⟩ : Ms) = m := rfl
theorem etaF (x : Fl) : (⟨x.fr, x.to, x.me, x.m⟩ : Fl) = x := rfl
abbrev plA (u : Int) (l : List Fl) : AV := .agg [I u, .fs (l.map Fl.row)]
def Ms.zero : Ms := ⟨0, 0, 0, 0⟩

def exStep (f : Int → Bool) (wo : Int) (i : Nat) (x : Fl) (s : Ms) : Ms :=
  if !x.me || (decide ((i : Int) = wo) || f x.to == f x.fr) then s else if f x.to then s.plus 1 x.m else s.plus (-1) x.m
def exI (f : Int → Bool) (wo : Int) (l : List Fl) : Nat → Ms
  | 0 => Ms.zero
  | i + 1 => match l[i]? with
    | some x => exStep f wo i x (exI f wo l i)
    | none => exI f wo l i

end Go.Proofs.Ytdbikamciedfdaa
namespace Go.Proofs.Ytdbikamciedfdaa
open Go Go.DL
set_option maxRecDepth 100000
set_option maxHeartbeats 1000000

/-- The error of a flow. -/
def chkF (u : Int) (x : Fl) : Int := if btw (-1) x.fr (wr (u - 1)) && btw (-1) x.to (wr (u - 1)) then if x.fr = x.to then 22 else if x.me && !(x.m.within 0 1000000000) then 2 else 0 else 17
theorem w44 (u fr to a b c d : Int) (me : Bool) (l : List Fl) : runW progX 44 [plA u l, .agg [I fr, I to, .bool me, I a, I b, I c, I d]] [] = some (I (chkF u ⟨fr, to, me, ⟨a, b, c, d⟩⟩), []) := by
  rw [r44 (by simp)]; unfold x44; dsimp only
  unfold chkF
  dsimp only
  cases h1 : btw (-1) fr (wr (u - 1))
  · (sym => (simp [etaM, etaF, z00,z01,z05,z06,z07,z09,z0b,z0c,z0f,z0h,z0i,z0j,z0k,z0l,z0n,z0q,z0r,z0v,z0z,z12,z1j,z1r,z1u,z20,z21,z22,z23,z26,z29,z2k,z2t,z4l,z4o,z54,z55,z57,z59,z66,z67,z69,z6p,z7r,z7s,z7u,z7w,z8d,z9d,z9e,z9g,z9j,z9k,z9l,z9m,z9n,z9p,z9y,za2,za3,za5,za6,za7,za8,zaa,zab,zaq,zas,zat,zba,zbc,zbd,zbf,zbg,zbk,zbt,zbu,zbw,zbx,zby,zbz,zc0,zc3,zc4,zc5,zc6,zc8,zce,zcf,zcg,zcj,zcn,zco,zcp,zcq,zcr,zct,zcu,zcv,zd3,zd4,zd5,zd6,zd7,zdk,zdl,zdo,zds,zdt,zdu,zdv,zdw,zdx,ze2,ze3,zeo,zep,zf6,zf7,zfa,zfb,zfg,zfm,zfo,zfp,zfq,zfs,zft,zfv,zfw,zfx,zg0,zg1, w42, h1]; all_goals tactic => exact rfl))
  cases h2 : btw (-1) to (wr (u - 1))
  · (sym => (simp [etaM, etaF, z00,z01,z05,z06,z07,z09,z0b,z0c,z0f,z0h,z0i,z0j,z0k,z0l,z0n,z0q,z0r,z0v,z0z,z12,z1j,z1r,z1u,z20,z21,z22,z23,z26,z29,z2k,z2t,z4l,z4o,z54,z55,z57,z59,z66,z67,z69,z6p,z7r,z7s,z7u,z7w,z8d,z9d,z9e,z9g,z9j,z9k,z9l,z9m,z9n,z9p,z9y,za2,za3,za5,za6,za7,za8,zaa,zab,zaq,zas,zat,zba,zbc,zbd,zbf,zbg,zbk,zbt,zbu,zbw,zbx,zby,zbz,zc0,zc3,zc4,zc5,zc6,zc8,zce,zcf,zcg,zcj,zcn,zco,zcp,zcq,zcr,zct,zcu,zcv,zd3,zd4,zd5,zd6,zd7,zdk,zdl,zdo,zds,zdt,zdu,zdv,zdw,zdx,ze2,ze3,zeo,zep,zf6,zf7,zfa,zfb,zfg,zfm,zfo,zfp,zfq,zfs,zft,zfv,zfw,zfx,zg0,zg1, w42, h1, h2]; all_goals tactic => exact rfl))
  by_cases h3 : fr = to
  · have h4 := eq_true h3
    (sym => (simp [etaM, etaF, z00,z01,z05,z06,z07,z09,z0b,z0c,z0f,z0h,z0i,z0j,z0k,z0l,z0n,z0q,z0r,z0v,z0z,z12,z1j,z1r,z1u,z20,z21,z22,z23,z26,z29,z2k,z2t,z4l,z4o,z54,z55,z57,z59,z66,z67,z69,z6p,z7r,z7s,z7u,z7w,z8d,z9d,z9e,z9g,z9j,z9k,z9l,z9m,z9n,z9p,z9y,za2,za3,za5,za6,za7,za8,zaa,zab,zaq,zas,zat,zba,zbc,zbd,zbf,zbg,zbk,zbt,zbu,zbw,zbx,zby,zbz,zc0,zc3,zc4,zc5,zc6,zc8,zce,zcf,zcg,zcj,zcn,zco,zcp,zcq,zcr,zct,zcu,zcv,zd3,zd4,zd5,zd6,zd7,zdk,zdl,zdo,zds,zdt,zdu,zdv,zdw,zdx,ze2,ze3,zeo,zep,zf6,zf7,zfa,zfb,zfg,zfm,zfo,zfp,zfq,zfs,zft,zfv,zfw,zfx,zg0,zg1, w42, h1, h2, h4]; all_goals tactic => exact rfl))
  have h4 := eq_false h3
  cases me
  · (sym => (simp [etaM, etaF, z00,z01,z05,z06,z07,z09,z0b,z0c,z0f,z0h,z0i,z0j,z0k,z0l,z0n,z0q,z0r,z0v,z0z,z12,z1j,z1r,z1u,z20,z21,z22,z23,z26,z29,z2k,z2t,z4l,z4o,z54,z55,z57,z59,z66,z67,z69,z6p,z7r,z7s,z7u,z7w,z8d,z9d,z9e,z9g,z9j,z9k,z9l,z9m,z9n,z9p,z9y,za2,za3,za5,za6,za7,za8,zaa,zab,zaq,zas,zat,zba,zbc,zbd,zbf,zbg,zbk,zbt,zbu,zbw,zbx,zby,zbz,zc0,zc3,zc4,zc5,zc6,zc8,zce,zcf,zcg,zcj,zcn,zco,zcp,zcq,zcr,zct,zcu,zcv,zd3,zd4,zd5,zd6,zd7,zdk,zdl,zdo,zds,zdt,zdu,zdv,zdw,zdx,ze2,ze3,zeo,zep,zf6,zf7,zfa,zfb,zfg,zfm,zfo,zfp,zfq,zfs,zft,zfv,zfw,zfx,zg0,zg1, w42, h1, h2, h4]; all_goals tactic => exact rfl))
  cases h5 : Ms.within ⟨a, b, c, d⟩ 0 1000000000 <;> (sym => (simp [etaM, etaF, z00,z01,z05,z06,z07,z09,z0b,z0c,z0f,z0h,z0i,z0j,z0k,z0l,z0n,z0q,z0r,z0v,z0z,z12,z1j,z1r,z1u,z20,z21,z22,z23,z26,z29,z2k,z2t,z4l,z4o,z54,z55,z57,z59,z66,z67,z69,z6p,z7r,z7s,z7u,z7w,z8d,z9d,z9e,z9g,z9j,z9k,z9l,z9m,z9n,z9p,z9y,za2,za3,za5,za6,za7,za8,zaa,zab,zaq,zas,zat,zba,zbc,zbd,zbf,zbg,zbk,zbt,zbu,zbw,zbx,zby,zbz,zc0,zc3,zc4,zc5,zc6,zc8,zce,zcf,zcg,zcj,zcn,zco,zcp,zcq,zcr,zct,zcu,zcv,zd3,zd4,zd5,zd6,zd7,zdk,zdl,zdo,zds,zdt,zdu,zdv,zdw,zdx,ze2,ze3,zeo,zep,zf6,zf7,zfa,zfb,zfg,zfm,zfo,zfp,zfq,zfs,zft,zfv,zfw,zfx,zg0,zg1, w42, w55, h1, h2, h4, h5]; all_goals tactic => exact rfl))

def firstE (u : Int) : List Fl → Int
  | [] => 0
  | x :: r => if chkF u x = 0 then firstE u r else chkF u x
theorem firstE_0 {u : Int} : ∀ {l : List Fl}, (∀ i, i < l.length → ∃ x, l[i]? = some x ∧ decide (chkF u x ≠ 0) = false) → firstE u l = 0
  | [], _ => rfl
  | x :: r, h => by
    obtain ⟨y, h1, h2⟩ := h 0 (by simp)
    simp only [List.getElem?_cons_zero, Option.some.injEq] at h1
    subst h1
    simp only [decide_eq_false_iff_not, ne_eq, Decidable.not_not] at h2
    rw [firstE, if_pos h2]
    exact firstE_0 fun i hi => by simpa using h (i + 1) (by simpa using hi)
theorem firstE_1 {u : Int} : ∀ {l : List Fl} {n : Nat} {x : Fl}, (∀ i, i < n → ∃ x, l[i]? = some x ∧ decide (chkF u x ≠ 0) = false) → l[n]? = some x → chkF u x ≠ 0 → firstE u l = chkF u x
  | [], n, x, _, h, _ => by simp at h
  | y :: r, 0, x, _, h, h3 => by
    simp only [List.getElem?_cons_zero, Option.some.injEq] at h
    subst h
    rw [firstE, if_neg h3]
  | y :: r, n + 1, x, h1, h, h3 => by
    obtain ⟨z, h4, h5⟩ := h1 0 (by omega)
    simp only [List.getElem?_cons_zero, Option.some.injEq] at h4
    subst h4
    simp only [decide_eq_false_iff_not, ne_eq, Decidable.not_not] at h5
    rw [firstE, if_pos h5]
    exact firstE_1 (n := n) (fun i hi => by simpa using h1 (i + 1) (by omega)) (by simpa using h) h3

theorem w43 (u : Int) (l l' : List Fl) (hn : l.length < 1000000) : runW progX 43 [.fs (l.map Fl.row), .fn (.func 44) [plA u l'] []] [] = some (I (firstE u l), []) := by
  rw [r43 (by simp)]; unfold x43; dsimp only
  obtain ⟨n, h1, h2, h3⟩ := first_ix (fun x => decide (chkF u x ≠ 0)) l
  sym =>
    simp [etaM, etaF, z00,z01,z02,z05,z06,z07,z09,z0b,z0c,z0n,z0o,z0v,z15,z1f,z1j,z1n,z1o,z1r,z1u,z20,z21,z2b,z2g,z2h,z2j,z2u,z2v,z33,z34,z3h,z4l,z4m,z4o,z4q,z4y,z54,z55,z66,z67,z69,z6b,z6j,z6p,z7r,z7w,z84,z8d,z9d,z9e,z9g,z9i,z9j,z9k,z9l,z9m,z9n,z9y,za2,za3,za5,za6,za7,za8,zaa,zab,zaq,zas,zat,zba,zbc,zbd,zbf,zbg,zbk,zbt,zbu,zbw,zbx,zby,zbz,zc0,zc3,zc4,zc5,zc6,zc8,zca,zcc,zcd,zce,zcf,zcg,zch,zci,zcj,zcn,zco,zcp,zcq,zcr,zct,zcu,zcv,zcw,zcx,zcy,zd3,zd6,zd7,zdd,zdk,zdl,zdo,zds,zdt,zdu,zdv,zdw,zdx,ze2,ze3,ze9,zf5,zf6,zf7,zf8,zf9,zfa,zfc,zfd,zfm,zfo,zfp,zfq,zfr,zfs,zft,zfu,zfv,zfw,zfx,zfy,zfz,zg0,zg1]
    tactic =>
      unfold x43l0
      rw [loop_rule n (fun i => [.fn (.func 44) [plA u l'] [], .fs (l.map Fl.row), I l.length, I (i : Nat)]) (fun i => [])]
      · rcases h3 with h3 | ⟨x, h3, h4, h5⟩
        · subst h3
          rw [firstE_0 h2]
          (sym => (simp [etaM, etaF, z00,z01,z02,z05,z06,z07,z09,z0b,z0c,z0n,z0o,z0v,z15,z1f,z1j,z1n,z1o,z1r,z1u,z20,z21,z2b,z2g,z2h,z2j,z2u,z2v,z33,z34,z3h,z4l,z4m,z4o,z4q,z4y,z54,z55,z66,z67,z69,z6b,z6j,z6p,z7r,z7w,z84,z8d,z9d,z9e,z9g,z9i,z9j,z9k,z9l,z9m,z9n,z9y,za2,za3,za5,za6,za7,za8,zaa,zab,zaq,zas,zat,zba,zbc,zbd,zbf,zbg,zbk,zbt,zbu,zbw,zbx,zby,zbz,zc0,zc3,zc4,zc5,zc6,zc8,zca,zcc,zcd,zce,zcf,zcg,zch,zci,zcj,zcn,zco,zcp,zcq,zcr,zct,zcu,zcv,zcw,zcx,zcy,zd3,zd6,zd7,zdd,zdk,zdl,zdo,zds,zdt,zdu,zdv,zdw,zdx,ze2,ze3,ze9,zf5,zf6,zf7,zf8,zf9,zfa,zfc,zfd,zfm,zfo,zfp,zfq,zfr,zfs,zft,zfu,zfv,zfw,zfx,zfy,zfz,zg0,zg1, w44]; all_goals tactic => exact rfl))
        · have e2 := lt_ix h3
          have e3 := eq_false (of_decide_eq_true h5)
          rw [firstE_1 h2 h4 (of_decide_eq_true h5)]
          (sym => (simp [etaM, etaF, z00,z01,z02,z05,z06,z07,z09,z0b,z0c,z0n,z0o,z0v,z15,z1f,z1j,z1n,z1o,z1r,z1u,z20,z21,z2b,z2g,z2h,z2j,z2u,z2v,z33,z34,z3h,z4l,z4m,z4o,z4q,z4y,z54,z55,z66,z67,z69,z6b,z6j,z6p,z7r,z7w,z84,z8d,z9d,z9e,z9g,z9i,z9j,z9k,z9l,z9m,z9n,z9y,za2,za3,za5,za6,za7,za8,zaa,zab,zaq,zas,zat,zba,zbc,zbd,zbf,zbg,zbk,zbt,zbu,zbw,zbx,zby,zbz,zc0,zc3,zc4,zc5,zc6,zc8,zca,zcc,zcd,zce,zcf,zcg,zch,zci,zcj,zcn,zco,zcp,zcq,zcr,zct,zcu,zcv,zcw,zcx,zcy,zd3,zd6,zd7,zdd,zdk,zdl,zdo,zds,zdt,zdu,zdv,zdw,zdx,ze2,ze3,ze9,zf5,zf6,zf7,zf8,zf9,zfa,zfc,zfd,zfm,zfo,zfp,zfq,zfr,zfs,zft,zfu,zfv,zfw,zfx,zfy,zfz,zg0,zg1, w44, e2, h4, e3]; all_goals tactic => exact rfl))
      · (sym => (simp [etaM, etaF, z00,z01,z02,z05,z06,z07,z09,z0b,z0c,z0n,z0o,z0v,z15,z1f,z1j,z1n,z1o,z1r,z1u,z20,z21,z2b,z2g,z2h,z2j,z2u,z2v,z33,z34,z3h,z4l,z4m,z4o,z4q,z4y,z54,z55,z66,z67,z69,z6b,z6j,z6p,z7r,z7w,z84,z8d,z9d,z9e,z9g,z9i,z9j,z9k,z9l,z9m,z9n,z9y,za2,za3,za5,za6,za7,za8,zaa,zab,zaq,zas,zat,zba,zbc,zbd,zbf,zbg,zbk,zbt,zbu,zbw,zbx,zby,zbz,zc0,zc3,zc4,zc5,zc6,zc8,zca,zcc,zcd,zce,zcf,zcg,zch,zci,zcj,zcn,zco,zcp,zcq,zcr,zct,zcu,zcv,zcw,zcx,zcy,zd3,zd6,zd7,zdd,zdk,zdl,zdo,zds,zdt,zdu,zdv,zdw,zdx,ze2,ze3,ze9,zf5,zf6,zf7,zf8,zf9,zfa,zfc,zfd,zfm,zfo,zfp,zfq,zfr,zfs,zft,zfu,zfv,zfw,zfx,zfy,zfz,zg0,zg1, w44]; all_goals tactic => exact rfl))
      · intro i hi
        obtain ⟨x, hx, h4⟩ := h2 i hi
        have e1 := up_ix hi (by omega)
        have e2 := lt_ix (l := l) (i := i) (by omega)
        have e3 : (chkF u x = 0) = True := by simpa using h4
        (sym => (simp [etaM, etaF, z00,z01,z02,z05,z06,z07,z09,z0b,z0c,z0n,z0o,z0v,z15,z1f,z1j,z1n,z1o,z1r,z1u,z20,z21,z2b,z2g,z2h,z2j,z2u,z2v,z33,z34,z3h,z4l,z4m,z4o,z4q,z4y,z54,z55,z66,z67,z69,z6b,z6j,z6p,z7r,z7w,z84,z8d,z9d,z9e,z9g,z9i,z9j,z9k,z9l,z9m,z9n,z9y,za2,za3,za5,za6,za7,za8,zaa,zab,zaq,zas,zat,zba,zbc,zbd,zbf,zbg,zbk,zbt,zbu,zbw,zbx,zby,zbz,zc0,zc3,zc4,zc5,zc6,zc8,zca,zcc,zcd,zce,zcf,zcg,zch,zci,zcj,zcn,zco,zcp,zcq,zcr,zct,zcu,zcv,zcw,zcx,zcy,zd3,zd6,zd7,zdd,zdk,zdl,zdo,zds,zdt,zdu,zdv,zdw,zdx,ze2,ze3,ze9,zf5,zf6,zf7,zf8,zf9,zfa,zfc,zfd,zfm,zfo,zfp,zfq,zfr,zfs,zft,zfu,zfv,zfw,zfx,zfy,zfz,zg0,zg1, w44, e1, e2, hx, e3]; all_goals tactic => exact rfl))
      · rcases h3 with h3 | ⟨x, h3, h4, h5⟩
        · subst h3
          (sym => (simp [etaM, etaF, z00,z01,z02,z05,z06,z07,z09,z0b,z0c,z0n,z0o,z0v,z15,z1f,z1j,z1n,z1o,z1r,z1u,z20,z21,z2b,z2g,z2h,z2j,z2u,z2v,z33,z34,z3h,z4l,z4m,z4o,z4q,z4y,z54,z55,z66,z67,z69,z6b,z6j,z6p,z7r,z7w,z84,z8d,z9d,z9e,z9g,z9i,z9j,z9k,z9l,z9m,z9n,z9y,za2,za3,za5,za6,za7,za8,zaa,zab,zaq,zas,zat,zba,zbc,zbd,zbf,zbg,zbk,zbt,zbu,zbw,zbx,zby,zbz,zc0,zc3,zc4,zc5,zc6,zc8,zca,zcc,zcd,zce,zcf,zcg,zch,zci,zcj,zcn,zco,zcp,zcq,zcr,zct,zcu,zcv,zcw,zcx,zcy,zd3,zd6,zd7,zdd,zdk,zdl,zdo,zds,zdt,zdu,zdv,zdw,zdx,ze2,ze3,ze9,zf5,zf6,zf7,zf8,zf9,zfa,zfc,zfd,zfm,zfo,zfp,zfq,zfr,zfs,zft,zfu,zfv,zfw,zfx,zfy,zfz,zg0,zg1, w44]; all_goals tactic => exact rfl))
        · have e2 := lt_ix h3
          have e3 := eq_false (of_decide_eq_true h5)
          (sym => (simp [etaM, etaF, z00,z01,z02,z05,z06,z07,z09,z0b,z0c,z0n,z0o,z0v,z15,z1f,z1j,z1n,z1o,z1r,z1u,z20,z21,z2b,z2g,z2h,z2j,z2u,z2v,z33,z34,z3h,z4l,z4m,z4o,z4q,z4y,z54,z55,z66,z67,z69,z6b,z6j,z6p,z7r,z7w,z84,z8d,z9d,z9e,z9g,z9i,z9j,z9k,z9l,z9m,z9n,z9y,za2,za3,za5,za6,za7,za8,zaa,zab,zaq,zas,zat,zba,zbc,zbd,zbf,zbg,zbk,zbt,zbu,zbw,zbx,zby,zbz,zc0,zc3,zc4,zc5,zc6,zc8,zca,zcc,zcd,zce,zcf,zcg,zch,zci,zcj,zcn,zco,zcp,zcq,zcr,zct,zcu,zcv,zcw,zcx,zcy,zd3,zd6,zd7,zdd,zdk,zdl,zdo,zds,zdt,zdu,zdv,zdw,zdx,ze2,ze3,ze9,zf5,zf6,zf7,zf8,zf9,zfa,zfc,zfd,zfm,zfo,zfp,zfq,zfr,zfs,zft,zfu,zfv,zfw,zfx,zfy,zfz,zg0,zg1, w44, e2, h4, e3]; all_goals tactic => exact rfl))
def checkP (u : Int) (l : List Fl) : Int := if btw 1 u 8 then if l.length > 20 then 1 else firstE u l else 2
theorem w20 (u : Int) (l : List Fl) (hn : l.length < 1000000) : runW progX 20 [plA u l] [] = some (I (checkP u l), []) := by
  rw [r20 (by simp)]; unfold x20; dsimp only
  unfold checkP
  have e := w43 u l l hn
  cases h1 : btw 1 u 8
  · (sym => (simp [etaM, etaF, z00,z01,z05,z06,z07,z09,z0b,z0c,z0f,z0n,z0p,z0r,z0v,z0z,z12,z1f,z1j,z1r,z1u,z20,z21,z26,z29,z2b,z2x,z4l,z4o,z4q,z4y,z54,z57,z59,z66,z67,z69,z6b,z6j,z6p,z7r,z7u,z7w,z8d,z9d,z9e,z9g,z9j,z9k,z9l,z9m,z9n,z9p,z9y,za2,za3,za5,za6,za7,za8,zaa,zab,zaq,zas,zat,zba,zbc,zbd,zbf,zbg,zbk,zbt,zbu,zbw,zbx,zby,zbz,zc0,zc3,zc4,zc5,zc6,zc8,zce,zcf,zcg,zcj,zcn,zco,zcq,zcr,zct,zcu,zcv,zcw,zd3,zd6,zd7,zdk,zdl,zdo,zds,zdt,zdu,zdv,zdw,zdx,ze2,ze3,zeo,zep,zf6,zf7,zfa,zfb,zfg,zfm,zfo,zfp,zfq,zfs,zft,zfv,zfw,zfx,zg0,zg1, w42, h1]; all_goals tactic => exact rfl))
  by_cases h2 : l.length > 20
  · have h3 : ((20 : Int) < (l.length : Int)) = True := eq_true (by omega)
    rw [if_pos h2]
    (sym => (simp [etaM, etaF, z00,z01,z05,z06,z07,z09,z0b,z0c,z0f,z0n,z0p,z0r,z0v,z0z,z12,z1f,z1j,z1r,z1u,z20,z21,z26,z29,z2b,z2x,z4l,z4o,z4q,z4y,z54,z57,z59,z66,z67,z69,z6b,z6j,z6p,z7r,z7u,z7w,z8d,z9d,z9e,z9g,z9j,z9k,z9l,z9m,z9n,z9p,z9y,za2,za3,za5,za6,za7,za8,zaa,zab,zaq,zas,zat,zba,zbc,zbd,zbf,zbg,zbk,zbt,zbu,zbw,zbx,zby,zbz,zc0,zc3,zc4,zc5,zc6,zc8,zce,zcf,zcg,zcj,zcn,zco,zcq,zcr,zct,zcu,zcv,zcw,zd3,zd6,zd7,zdk,zdl,zdo,zds,zdt,zdu,zdv,zdw,zdx,ze2,ze3,zeo,zep,zf6,zf7,zfa,zfb,zfg,zfm,zfo,zfp,zfq,zfs,zft,zfv,zfw,zfx,zg0,zg1, w42, h1, h3]; all_goals tactic => exact rfl))
  · have h3 : ((20 : Int) < (l.length : Int)) = False := eq_false (by omega)
    rw [if_neg h2]
    (sym => (simp [etaM, etaF, z00,z01,z05,z06,z07,z09,z0b,z0c,z0f,z0n,z0p,z0r,z0v,z0z,z12,z1f,z1j,z1r,z1u,z20,z21,z26,z29,z2b,z2x,z4l,z4o,z4q,z4y,z54,z57,z59,z66,z67,z69,z6b,z6j,z6p,z7r,z7u,z7w,z8d,z9d,z9e,z9g,z9j,z9k,z9l,z9m,z9n,z9p,z9y,za2,za3,za5,za6,za7,za8,zaa,zab,zaq,zas,zat,zba,zbc,zbd,zbf,zbg,zbk,zbt,zbu,zbw,zbx,zby,zbz,zc0,zc3,zc4,zc5,zc6,zc8,zce,zcf,zcg,zcj,zcn,zco,zcq,zcr,zct,zcu,zcv,zcw,zd3,zd6,zd7,zdk,zdl,zdo,zds,zdt,zdu,zdv,zdw,zdx,ze2,ze3,zeo,zep,zf6,zf7,zfa,zfb,zfg,zfm,zfo,zfp,zfq,zfs,zft,zfv,zfw,zfx,zg0,zg1, w42, h1, h3, e]; all_goals tactic => exact rfl))
end Go.Proofs.Ytdbikamciedfdaa
namespace Go.Proofs.Ytdbikamciedfdaa
open Go Go.DL
set_option maxRecDepth 100000
set_option maxHeartbeats 1000000

end Go.Proofs.Ytdbikamciedfdaa
namespace Go.Proofs.Ytdbikamciedfdaa
open Go Go.DL
set_option maxRecDepth 100000
set_option maxHeartbeats 1000000

def ixR (n m : Nat) : Int := if n = m then -1 else n
theorem w79 (us : List Int) (u : Int) (hn : us.length < 1000000) : ∃ r : Int, runW progX 79 [rI us, I u] [] = some (I r, []) ∧ decide (0 ≤ r) = decide (u ∈ us) := by
  obtain ⟨n, h1, h2, h3⟩ := first_ix (fun x => decide (u = x)) us
  refine ⟨ixR n us.length, ?_, ?_⟩
  · rw [r79 (by simp)]; unfold x79; dsimp only
    have ex : (((n : Int) < (us.length : Int)) = False ∧ (0 : Nat) = 0 ∧ (0 : Nat) = 0 ∧ ixR n us.length = -1) ∨ (∃ x, ((n : Int) < (us.length : Int)) = True ∧ us[n]? = some x ∧ (u = x) = True ∧ ixR n us.length = n) := by
      rcases h3 with h3 | ⟨x, h3, h4, h5⟩
      · exact .inl ⟨eq_false (by omega), rfl, rfl, if_pos h3⟩
      · exact .inr ⟨x, lt_ix h3, h4, eq_true (of_decide_eq_true h5), if_neg (by omega)⟩
    have g0 := pad
    sym =>
      simp [etaM, etaF, z00,z01,z05,z07,z0b,z0c,z0n,z0v,z15,z1f,z1j,z2b,z2g,z2h,z2j,z2t,z2v,z33,z34,z3h,z4l,z4q,z66,z6b,z6p,z7r,z7w,z9n,z9p,z9y,za3,za5,za7,za8,zba,zbt,zbu,zbw,zbx,zby,zbz,zc0,zc3,zc4,zc5,zc6,zc8,zca,zcc,zcd,zce,zcf,zcg,zch,zci,zcj,zcn,zco,zcr,zct,zcu,zcv,zcw,zcx,zcy,zdd,zdk,zdl,zdo,zds,zdt,zdu,zdv,ze2,ze3,zf8,zf9,zfb,zfm,zfo,zfp,zfq,zfr,zfs,zft,zfu,zfv,zfw,zfx,zfy,zfz,zg0,zg1]
      tactic =>
        unfold x79l0
        rw [loop_rule n (fun i => [rI us, I u, I us.length, I (i : Nat)]) (fun i => [])]
        rcases ex with ⟨g1, g2, g3, g4⟩ | ⟨x, g1, g2, g3, g4⟩
        case' hs =>
          intro i hi
          obtain ⟨x, g2, h4⟩ := h2 i hi
          have g0 := up_ix hi (by omega)
          have g1 := lt_ix (l := us) (i := i) (by omega)
          have g3 : (u = x) = False := by simpa using h4
          have g4 := pad
        case' h0 =>
          have g1 := pad
          have g2 := pad
          have g3 := pad
          have g4 := pad
        case' hl => rcases ex with ⟨g1, g2, g3, g4⟩ | ⟨x, g1, g2, g3, g4⟩
        all_goals (sym => (simp [etaM, etaF, z00,z01,z05,z07,z0b,z0c,z0n,z0v,z15,z1f,z1j,z2b,z2g,z2h,z2j,z2t,z2v,z33,z34,z3h,z4l,z4q,z66,z6b,z6p,z7r,z7w,z9n,z9p,z9y,za3,za5,za7,za8,zba,zbt,zbu,zbw,zbx,zby,zbz,zc0,zc3,zc4,zc5,zc6,zc8,zca,zcc,zcd,zce,zcf,zcg,zch,zci,zcj,zcn,zco,zcr,zct,zcu,zcv,zcw,zcx,zcy,zdd,zdk,zdl,zdo,zds,zdt,zdu,zdv,ze2,ze3,zf8,zf9,zfb,zfm,zfo,zfp,zfq,zfr,zfs,zft,zfu,zfv,zfw,zfx,zfy,zfz,zg0,zg1, g0, g1, g2, g3, g4]; all_goals tactic => exact rfl))
  · rcases h3 with h3 | ⟨x, h3, h4, h5⟩
    · have : u ∉ us := by
        intro hc
        obtain ⟨i, hi, he⟩ := List.mem_iff_getElem.1 hc
        obtain ⟨x, hx, h4⟩ := h2 i (by omega)
        rw [List.getElem?_eq_getElem hi] at hx
        simp only [Option.some.injEq] at hx
        rw [← hx, he] at h4
        simp at h4
      simp [ixR, h3, this]
    · have h5 := of_decide_eq_true h5
      subst h5
      have : u ∈ us := List.mem_of_getElem? h4
      rw [ixR, if_neg (by omega)]
      simp [this]
theorem w69 (us : List Int) (u : Int) (hn : us.length < 1000000) : runW progX 69 [rI us, I u] [] = some (.bool (decide (u ∈ us)), []) := by
  rw [r69 (by simp)]; unfold x69; dsimp only
  obtain ⟨r, h1, h2⟩ := w79 us u hn
  (sym => (simp [etaM, etaF, z00,z01,z05,z06,z07,z09,z0b,z0c,z0n,z0v,z1r,z1u,z20,z21,z2y,z4l,z4m,z4q,z66,z67,z6b,z6p,z6q,z6u,z7r,z7s,z7w,z9m,z9n,z9y,za2,za3,za5,za7,za8,zaa,zab,zaq,zas,zat,zba,zbc,zbd,zbe,zbt,zbu,zbw,zbx,zby,zbz,zc0,zc3,zc4,zc5,zc6,zc8,zcj,zcn,zco,zcq,zcr,zct,zcv,zdo,zds,zdt,zdu,zdv,ze2,ze3,zfm,zfo,zfp,zft,zg0,zg1, h1, h2]; all_goals tactic => exact rfl))
theorem w70 (us : List Int) (u : Int) (hn : us.length < 1000000) : runW progX 70 [I u, .pt 0 0] [some (.blk true (.cells true [rI us]))] = some (.bool (decide (u ∈ us)), [some (.blk true (.cells true [rI us]))]) := by
  rw [r70 (by simp)]; unfold x70; dsimp only
  have h1 := w69 us u hn
  (sym => (simp [etaM, etaF, z00,z01,z05,z06,z07,z09,z0b,z0c,z0n,z1j,z1r,z1u,z20,z21,z4l,z4m,z4q,z66,z67,z6b,z6p,z6q,z7r,z7s,z7z,z9d,z9e,z9g,z9m,z9n,z9p,z9y,za2,za3,za5,za6,za7,za8,zaa,zab,zae,zaf,zak,zal,zaq,zas,zat,zba,zbc,zbd,zbe,zbf,zbg,zbk,zbt,zbu,zbw,zbx,zby,zbz,zc0,zc3,zc4,zc5,zc6,zc8,zcj,zcn,zco,zcq,zcr,zcs,zct,zcu,zcv,zdo,zds,zdt,zdu,zdv,ze2,ze3,zf6,zf7,zfb,zfo,zfp,zft,zg0,zg1, h1]; all_goals tactic => exact rfl))

theorem w39A (u : Int) (l : List Fl) (wo : Int) (g : Nat) (rows : List (List AV)) (f : Int → Bool) (hn : l.length < 1000000) (hf : ∀ u, runW progX g (I u :: [.pt 0 0]) [some (.blk true (.cells true [.fs rows]))] = some (.bool (f u), [some (.blk true (.cells true [.fs rows]))])) :
    runW progX 39 [plA u l, I wo, .fn (.func g) [] [.pt 0 0]] [some (.blk true (.cells true [.fs rows]))] = some (.agg [I (exI f wo l l.length).a, I (exI f wo l l.length).b, I (exI f wo l l.length).c, I (exI f wo l l.length).d], [some (.blk true (.cells true [.fs rows]))]) := by
  rw [r39 (by simp)]; unfold x39; dsimp only
  have g0 := pad
  have g1 := pad
  have g2 := pad
  have g3 := pad
  have g4 := pad
  have g5 := pad
  have g6 := pad
  sym =>
    simp [etaM, etaF, z00,z01,z02,z03,z04,z05,z06,z07,z09,z0a,z0b,z0c,z0f,z0h,z0j,z0l,z0n,z0o,z0q,z0r,z0v,z0w,z0z,z12,z15,z1f,z1j,z1k,z1m,z1n,z1o,z1p,z1r,z1u,z1v,z1w,z20,z21,z22,z23,z24,z26,z29,z2b,z2g,z2h,z2j,z2t,z2v,z33,z34,z3h,z4l,z4o,z4q,z4t,z4y,z54,z55,z57,z59,z66,z67,z69,z6b,z6e,z6j,z6p,z6s,z7r,z7u,z7w,z84,z8d,z9d,z9e,z9g,z9i,z9j,z9k,z9l,z9m,z9n,z9p,z9r,z9s,z9t,z9v,z9w,z9y,za0,za1,za2,za3,za5,za6,za7,za8,za9,zaa,zab,zac,zae,zaf,zak,zal,zaq,zas,zat,zau,zav,zaw,zax,zaz,zb1,zb2,zb3,zba,zbc,zbd,zbf,zbg,zbk,zbt,zbu,zbw,zbx,zby,zbz,zc0,zc3,zc4,zc5,zc7,zc8,zca,zcc,zcd,zce,zcf,zcg,zch,zcj,zcn,zco,zcp,zcq,zcr,zcs,zct,zcu,zcv,zcw,zcx,zcy,zd3,zd6,zd7,zd8,zd9,zdb,zdd,zdj,zdk,zdl,zdm,zdn,zdo,zds,zdt,zdu,zdv,zdw,zdx,zdy,zdz,ze2,ze3,ze9,zeo,zep,zf5,zf6,zf7,zf8,zf9,zfa,zfb,zfc,zfd,zfg,zfm,zfo,zfp,zfq,zfr,zfs,zft,zfu,zfw,zfy,zfz,zg0,zg1]
    tactic =>
      unfold x39l0
      rw [loop_rule l.length (fun i => [I wo, .fn (.func g) [] [.pt 0 0], .pt 1 0, .pt 2 0, .fs (l.map Fl.row), I l.length, I (i : Nat)]) (fun i => [some (.blk true (.cells true [.fs rows]))] ++ [some (.blk true (.cells true [I 0, I 0, I 0, I 0])), some (.blk true (.cells true [I (exI f wo l i).a, I (exI f wo l i).b, I (exI f wo l i).c, I (exI f wo l i).d]))])]
      case' hs =>
        intro i hi
        obtain ⟨x, g0⟩ := at_ix hi
        have g1 := up_ix hi (by omega)
        have g2 := lt_ix hi
        have e3 : exI f wo l (i + 1) = exStep f wo i x (exI f wo l i) := by simp [exI, g0]
        simp only [e3, exStep]
        rcases ptf ((i : Int) = wo) with g3 | g3 <;> cases g4 : x.me <;> cases g5 : f x.to <;> cases g6 : f x.fr
      all_goals (sym => (simp [etaM, etaF, z00,z01,z02,z03,z04,z05,z06,z07,z09,z0a,z0b,z0c,z0f,z0h,z0j,z0l,z0n,z0o,z0q,z0r,z0v,z0w,z0z,z12,z15,z1f,z1j,z1k,z1m,z1n,z1o,z1p,z1r,z1u,z1v,z1w,z20,z21,z22,z23,z24,z26,z29,z2b,z2g,z2h,z2j,z2t,z2v,z33,z34,z3h,z4l,z4o,z4q,z4t,z4y,z54,z55,z57,z59,z66,z67,z69,z6b,z6e,z6j,z6p,z6s,z7r,z7u,z7w,z84,z8d,z9d,z9e,z9g,z9i,z9j,z9k,z9l,z9m,z9n,z9p,z9r,z9s,z9t,z9v,z9w,z9y,za0,za1,za2,za3,za5,za6,za7,za8,za9,zaa,zab,zac,zae,zaf,zak,zal,zaq,zas,zat,zau,zav,zaw,zax,zaz,zb1,zb2,zb3,zba,zbc,zbd,zbf,zbg,zbk,zbt,zbu,zbw,zbx,zby,zbz,zc0,zc3,zc4,zc5,zc7,zc8,zca,zcc,zcd,zce,zcf,zcg,zch,zcj,zcn,zco,zcp,zcq,zcr,zcs,zct,zcu,zcv,zcw,zcx,zcy,zd3,zd6,zd7,zd8,zd9,zdb,zdd,zdj,zdk,zdl,zdm,zdn,zdo,zds,zdt,zdu,zdv,zdw,zdx,zdy,zdz,ze2,ze3,ze9,zeo,zep,zf5,zf6,zf7,zf8,zf9,zfa,zfb,zfc,zfd,zfg,zfm,zfo,zfp,zfq,zfr,zfs,zft,zfu,zfw,zfy,zfz,zg0,zg1, hf, g0, g1, g2, g3, g4, g5, g6, w61]; all_goals tactic => exact rfl))

end Go.Proofs.Ytdbikamciedfdaa
namespace Go.Proofs.Ytdbikamciedfdaa
open Go Go.DL
set_option maxRecDepth 100000
set_option maxHeartbeats 1000000

def mx (a b : Int) : Int := if b > a then b else a
def mn (a b : Int) : Int := if b < a then b else a
/-- The least thing that each is joined with, after so many flows. -/
def gI (wo : Int) (l : List Fl) : Nat → Int → Int
  | 0, x => x
  | i + 1, x => match l[i]? with
    | some f => if f.me || decide ((i : Int) = wo) then gI wo l i x else if gI wo l i x = mx (gI wo l i f.fr) (gI wo l i f.to) then mn (gI wo l i f.fr) (gI wo l i f.to) else gI wo l i x
    | none => gI wo l i x
/-- The program's heads say it. -/
def InvG (U : Int) (es : List (Int × Int)) (g : Int → Int) : Prop := ∀ x, -1 ≤ x → x < U → -1 ≤ g x ∧ g x ≤ x ∧ g (g x) = g x ∧ (look es x = none → g x = x) ∧ (∀ y, look es x = some y → -1 ≤ y ∧ y ≤ x ∧ g y = g x ∧ (y = x → g x = x))

theorem look_put (es : List (Int × Int)) (k v x : Int) : look (put es k v) x = if x = k then some v else look es x := by
  induction es with
  | nil =>
    by_cases h : x = k
    · simp [put, look, h]
    · simp [put, look, h, Ne.symm h]
  | cons p r ih =>
    by_cases h : k = p.1
    · by_cases h2 : x = k
      · simp [put, look, ← h, h2]
      · simp [put, look, ← h, h2, Ne.symm h2]
    · by_cases h2 : x = k
      · subst h2
        simp [put, look, h, Ne.symm h, ih]
      · by_cases h3 : p.1 = x
        · subst h3
          simp [put, look, h, h2]
        · simp [put, look, h, h3, h2, ih]
theorem itH_succ (es : List (Int × Int)) (n : Nat) (x : Int) : itH es (n + 1) x = itH es n (stepH es x) := by
  induction n with
  | zero => rfl
  | succ n ih => rw [itH, ih]; rfl
theorem InvG.hd {U : Int} {es : List (Int × Int)} {g : Int → Int} (hi : InvG U es g) : ∀ (m : Nat) (x : Int), x < m → -1 ≤ x → x < U → ∃ n, hd es n x (g x) := by
  intro m
  induction m with
  | zero =>
    intro x h1 h2 h3
    obtain ⟨a1, a2, a3, a4, a5⟩ := hi x h2 h3
    refine ⟨0, fun i hi => by omega, ?_, by rw [itH]; omega⟩
    rw [itH]
    unfold stepH
    cases hl : look es x with
    | none => rfl
    | some y => have := a5 y hl; simp only [Option.getD_some]; omega
  | succ m ih =>
    intro x h1 h2 h3
    obtain ⟨a1, a2, a3, a4, a5⟩ := hi x h2 h3
    cases hl : look es x with
    | none =>
      refine ⟨0, fun i hi => by omega, ?_, by rw [itH]; exact (a4 hl).symm⟩
      rw [itH, stepH, hl]; rfl
    | some y =>
      obtain ⟨b1, b2, b3, b4⟩ := a5 y hl
      by_cases hy : y = x
      · refine ⟨0, fun i hi => by omega, ?_, by rw [itH]; exact (b4 hy).symm⟩
        rw [itH, stepH, hl]; exact hy
      · obtain ⟨n, c1, c2, c3⟩ := ih y (by omega) b1 (by omega)
        have hs : stepH es x = y := by rw [stepH, hl]; rfl
        refine ⟨n + 1, fun i hi => ?_, ?_, ?_⟩
        · cases i with
          | zero => rw [itH, hs]; exact hy
          | succ i => rw [itH_succ, hs]; exact c1 i (by omega)
        · rw [itH_succ, hs]; exact c2
        · rw [itH_succ, hs, c3, b3]
theorem InvG.start (U : Int) : InvG U [] fun x => x := fun x h1 _ => ⟨h1, Int.le_refl _, rfl, fun _ => rfl, fun y h => by simp [look] at h⟩
theorem InvG.join {U : Int} {es : List (Int × Int)} {g : Int → Int} (hi : InvG U es g) {p q : Int} (h1 : -1 ≤ p) (h2 : p < U) (h3 : -1 ≤ q) (h4 : q < U) :
    InvG U (put es (mx (g p) (g q)) (mn (g p) (g q))) fun x => if g x = mx (g p) (g q) then mn (g p) (g q) else g x := by
  obtain ⟨a1, a2, a3, _, _⟩ := hi p h1 h2
  obtain ⟨b1, b2, b3, _, _⟩ := hi q h3 h4
  have hM : g (mx (g p) (g q)) = mx (g p) (g q) := by unfold mx; split <;> assumption
  have hm : g (mn (g p) (g q)) = mn (g p) (g q) := by unfold mn; split <;> assumption
  have hle : mn (g p) (g q) ≤ mx (g p) (g q) := by unfold mn mx; split <;> split <;> omega
  have hml : -1 ≤ mn (g p) (g q) := by unfold mn; split <;> omega
  have hMu : mx (g p) (g q) < U := by unfold mx; split <;> omega
  generalize mx (g p) (g q) = M at *
  generalize mn (g p) (g q) = m at *
  intro x hx1 hx2
  obtain ⟨c1, c2, c3, c4, c5⟩ := hi x hx1 hx2
  refine ⟨?_, ?_, ?_, ?_, ?_⟩
  · dsimp only; split <;> omega
  · dsimp only; split <;> omega
  · dsimp only
    by_cases hg : g x = M
    · rw [if_pos hg, hm]; split <;> rfl
    · rw [if_neg hg, c3, if_neg hg]
  · intro hl
    rw [look_put] at hl
    by_cases hxM : x = M
    · simp [hxM] at hl
    · rw [if_neg hxM] at hl
      dsimp only
      rw [if_neg (by rw [c4 hl]; exact hxM), c4 hl]
  · intro y hl
    rw [look_put] at hl
    by_cases hxM : x = M
    · rw [if_pos hxM] at hl
      simp only [Option.some.injEq] at hl
      subst hl
      subst hxM
      dsimp only
      rw [hM, if_pos rfl, hm]
      refine ⟨hml, hle, by split <;> rfl, fun h => h⟩
    · rw [if_neg hxM] at hl
      obtain ⟨d1, d2, d3, d4⟩ := c5 y hl
      refine ⟨d1, d2, by dsimp only; rw [d3], fun h => ?_⟩
      dsimp only
      rw [if_neg (by rw [d4 h]; exact hxM), d4 h]

/-- Flows within a plant's units. -/
def rngL (U : Int) (l : List Fl) : Prop := ∀ x ∈ l, -1 ≤ x.fr ∧ x.fr < U ∧ -1 ≤ x.to ∧ x.to < U
def esI (wo : Int) (l : List Fl) : Nat → List (Int × Int)
  | 0 => []
  | i + 1 => match l[i]? with
    | some f => if f.me || decide ((i : Int) = wo) then esI wo l i else put (esI wo l i) (mx (gI wo l i f.fr) (gI wo l i f.to)) (mn (gI wo l i f.fr) (gI wo l i f.to))
    | none => esI wo l i
theorem esI_inv {U wo : Int} {l : List Fl} (hr : rngL U l) : ∀ i, InvG U (esI wo l i) (gI wo l i)
  | 0 => InvG.start U
  | i + 1 => by
    have ih := esI_inv hr (wo := wo) i
    cases hx : l[i]? with
    | none =>
      have e1 : gI wo l (i + 1) = gI wo l i := by funext x; simp [gI, hx]
      have e2 : esI wo l (i + 1) = esI wo l i := by simp [esI, hx]
      rw [e1, e2]; exact ih
    | some f =>
      obtain ⟨r1, r2, r3, r4⟩ := hr f (List.mem_of_getElem? hx)
      cases hc : f.me || decide ((i : Int) = wo) with
      | true =>
        have e1 : gI wo l (i + 1) = gI wo l i := by funext x; simp only [gI, hx, hc, if_true]
        have e2 : esI wo l (i + 1) = esI wo l i := by simp only [esI, hx, hc, if_true]
        rw [e1, e2]; exact ih
      | false =>
        have e1 : gI wo l (i + 1) = fun x => if gI wo l i x = mx (gI wo l i f.fr) (gI wo l i f.to) then mn (gI wo l i f.fr) (gI wo l i f.to) else gI wo l i x := by funext x; simp only [gI, hx, hc]; rfl
        have e2 : esI wo l (i + 1) = put (esI wo l i) (mx (gI wo l i f.fr) (gI wo l i f.to)) (mn (gI wo l i f.fr) (gI wo l i f.to)) := by simp only [esI, hx, hc]; rfl
        rw [e1, e2]; exact ih.join r1 r2 r3 r4

theorem w58' {U : Int} {es : List (Int × Int)} {g : Int → Int} (hi : InvG U es g) {x y : Int} (h1 : -1 ≤ x) (h2 : x < U) (h3 : -1 ≤ y) (h4 : y < U) : runW progX 58 [.mp 0, I x, I y] [mapB es] = some (.tup [], [mapB (put es (mx (g x) (g y)) (mn (g x) (g y)))]) := by
  obtain ⟨n, e1⟩ := hi.hd (x.toNat + 1) x (by omega) h1 h2
  obtain ⟨m, e2⟩ := hi.hd (y.toNat + 1) y (by omega) h3 h4
  exact w58 e1 e2
theorem w57h {U : Int} {es : List (Int × Int)} {g : Int → Int} (hi : InvG U es g) {x : Int} (h1 : -1 ≤ x) (h2 : x < U) : runW progX 57 [.mp 0, I x] [mapB es] = some (I (g x), [mapB es]) := by
  obtain ⟨n, e1⟩ := hi.hd (x.toNat + 1) x (by omega) h1 h2
  exact w57' e1

theorem w67 (U : Int) (l : List Fl) (wo : Int) (hn : l.length < 1000000) (hr : rngL U l) :
    runW progX 67 [plA U l, I wo] [] = some (.mp 0, [mapB (esI wo l l.length)]) := by
  rw [r67 (by simp)]; unfold x67; dsimp only
  have g0 := pad
  have g1 := pad
  have g2 := pad
  have g3 := pad
  have g4 := pad
  have g5 := pad
  have g6 := pad
  sym =>
    simp [etaM, etaF, z00,z01,z02,z05,z06,z07,z09,z0b,z0c,z0f,z0h,z0i,z0k,z0n,z0o,z0q,z0r,z0v,z0z,z12,z15,z1c,z1f,z1j,z1n,z1o,z1r,z1u,z20,z21,z22,z23,z26,z29,z2b,z2g,z2h,z2j,z2u,z2v,z33,z34,z3h,z4l,z4q,z4u,z54,z55,z57,z59,z66,z6a,z6b,z6f,z6y,z7r,z7u,z7w,z80,z8d,z9d,z9e,z9g,z9i,z9j,z9k,z9l,z9m,z9n,z9p,z9r,z9t,z9v,z9w,z9y,za0,za1,za2,za3,za5,za6,za7,za8,za9,zaa,zab,zac,zae,zaf,zal,zaq,zas,zat,zau,zba,zbc,zbd,zbe,zbf,zbg,zbk,zbt,zbu,zbw,zbx,zby,zbz,zc0,zc3,zc4,zc5,zc6,zc8,zca,zcc,zcd,zce,zcf,zcg,zch,zcj,zcn,zco,zcp,zcq,zcr,zct,zcu,zcv,zcw,zcx,zcy,zd3,zd6,zd7,zd9,zdb,zdd,zdj,zdk,zdl,zdo,zds,zdt,zdu,zdv,zdw,zdx,ze2,ze3,ze9,zeo,zep,zeu,zf5,zf6,zf7,zf8,zf9,zfa,zfb,zfc,zfd,zfg,zfm,zfo,zfp,zfq,zfr,zfs,zft,zfu,zfw,zfy,zfz,zg0,zg1,zhf]
    tactic =>
      unfold x67l0
      rw [loop_rule l.length (fun i => [I wo, .mp 0, .fs (l.map Fl.row), I l.length, I (i : Nat)]) (fun i => [mapB (esI wo l i)])]
      case' hs =>
        intro i hi
        obtain ⟨x, g0⟩ := at_ix hi
        have g1 := up_ix hi (by omega)
        have g2 := lt_ix hi
        obtain ⟨r1, r2, r3, r4⟩ := hr x (List.mem_of_getElem? g0)
        have g5 := w58' (esI_inv hr (wo := wo) i) r1 r2 r3 r4
        have e3 : esI wo l (i + 1) = if x.me || decide ((i : Int) = wo) then esI wo l i else put (esI wo l i) (mx (gI wo l i x.fr) (gI wo l i x.to)) (mn (gI wo l i x.fr) (gI wo l i x.to)) := by simp only [esI, g0]
        simp only [e3]
        rcases ptf ((i : Int) = wo) with g3 | g3 <;> cases g4 : x.me
      all_goals (sym => (simp [etaM, etaF, z00,z01,z02,z05,z06,z07,z09,z0b,z0c,z0f,z0h,z0i,z0k,z0n,z0o,z0q,z0r,z0v,z0z,z12,z15,z1c,z1f,z1j,z1n,z1o,z1r,z1u,z20,z21,z22,z23,z26,z29,z2b,z2g,z2h,z2j,z2u,z2v,z33,z34,z3h,z4l,z4q,z4u,z54,z55,z57,z59,z66,z6a,z6b,z6f,z6y,z7r,z7u,z7w,z80,z8d,z9d,z9e,z9g,z9i,z9j,z9k,z9l,z9m,z9n,z9p,z9r,z9t,z9v,z9w,z9y,za0,za1,za2,za3,za5,za6,za7,za8,za9,zaa,zab,zac,zae,zaf,zal,zaq,zas,zat,zau,zba,zbc,zbd,zbe,zbf,zbg,zbk,zbt,zbu,zbw,zbx,zby,zbz,zc0,zc3,zc4,zc5,zc6,zc8,zca,zcc,zcd,zce,zcf,zcg,zch,zcj,zcn,zco,zcp,zcq,zcr,zct,zcu,zcv,zcw,zcx,zcy,zd3,zd6,zd7,zd9,zdb,zdd,zdj,zdk,zdl,zdo,zds,zdt,zdu,zdv,zdw,zdx,ze2,ze3,ze9,zeo,zep,zeu,zf5,zf6,zf7,zf8,zf9,zfa,zfb,zfc,zfd,zfg,zfm,zfo,zfp,zfq,zfr,zfs,zft,zfu,zfw,zfy,zfz,zg0,zg1,zhf, g0, g1, g2, g3, g4, g5, zg7]; all_goals tactic => exact rfl))
end Go.Proofs.Ytdbikamciedfdaa
namespace Go.Proofs.Ytdbikamciedfdaa
open Go Go.DL
set_option maxRecDepth 100000
set_option maxHeartbeats 1000000

end Go.Proofs.Ytdbikamciedfdaa
namespace Go.Proofs.Ytdbikamciedfdaa
open Go Go.DL
set_option maxRecDepth 100000
set_option maxHeartbeats 1000000

end Go.Proofs.Ytdbikamciedfdaa
namespace Go.Proofs.Ytdbikamciedfdaa
open Go Go.DL
set_option maxRecDepth 100000
set_option maxHeartbeats 1000000

end Go.Proofs.Ytdbikamciedfdaa
namespace Go.Proofs.Ytdbikamciedfdaa
open Go Go.DL
set_option maxRecDepth 100000
set_option maxHeartbeats 1000000

theorem first_n (P : Nat → Bool) : ∀ m, ∃ n, n ≤ m ∧ (∀ i, i < n → P i = false) ∧ (n = m ∨ (n < m ∧ P n = true))
  | 0 => ⟨0, Nat.le_refl _, fun i hi => absurd hi (by omega), .inl rfl⟩
  | m + 1 => by
    obtain ⟨n, h1, h2, h3⟩ := first_n P m
    rcases h3 with h3 | ⟨h3, h4⟩
    · subst h3
      cases hp : P n with
      | true => exact ⟨n, by omega, h2, .inr ⟨by omega, hp⟩⟩
      | false =>
        refine ⟨n + 1, by omega, fun i hi => ?_, .inl rfl⟩
        by_cases hc : i = n
        · rw [hc, hp]
        · exact h2 i (by omega)
    · exact ⟨n, by omega, h2, .inr ⟨by omega, h4⟩⟩

end Go.Proofs.Ytdbikamciedfdaa
namespace Go.Proofs.Ytdbikamciedfdaa
open Go Go.DL
set_option maxRecDepth 100000
set_option maxHeartbeats 1000000

theorem checkP_u {U : Int} {l : List Fl} (h : checkP U l = 0) : 1 ≤ U ∧ U ≤ 8 ∧ l.length ≤ 20 ∧ firstE U l = 0 := by
  unfold checkP at h
  cases hb : btw 1 U 8 with
  | false => simp [hb] at h
  | true =>
    by_cases h2 : l.length > 20
    · simp [hb, h2] at h
    · simp only [btw, Bool.and_eq_true, decide_eq_true_eq] at hb
      simp only [show btw 1 U 8 = true by simp [btw, hb], if_true, h2, if_false] at h
      exact ⟨hb.1, hb.2, by omega, h⟩
end Go.Proofs.Ytdbikamciedfdaa
namespace Go.Proofs.Ytdbikamciedfdaa
open Go Go.DL
set_option maxRecDepth 100000
set_option maxHeartbeats 1000000

end Go.Proofs.Ytdbikamciedfdaa
namespace Go.Proofs.Ytdbikamciedfdaa
open Go Go.DL
set_option maxRecDepth 100000
set_option maxHeartbeats 1000000

abbrev msA (m : Ms) : AV := .agg [I m.a, I m.b, I m.c, I m.d]
end Go.Proofs.Ytdbikamciedfdaa
namespace Go.Proofs.Ytdbikamciedfdaa
open Go Go.DL
set_option maxRecDepth 100000
set_option maxHeartbeats 1000000

end Go.Proofs.Ytdbikamciedfdaa
namespace Go.Proofs.Ytdbikamciedfdaa
open Go Go.DL
set_option maxRecDepth 100000
set_option maxHeartbeats 1000000

end Go.Proofs.Ytdbikamciedfdaa
namespace Go.Proofs.Ytdbikamciedfdaa
open Go Go.DL
set_option maxRecDepth 100000
set_option maxHeartbeats 1000000

/-- The units of a head, as far as they have been looked at. -/
def usI (g : Int → Int) (u : Int) : Nat → List Int
  | 0 => []
  | v + 1 => if g v = u then usI g u v ++ [(v : Int)] else usI g u v
theorem usI_len (g : Int → Int) (u : Int) : ∀ v, (usI g u v).length ≤ v
  | 0 => Nat.le_refl _
  | v + 1 => by
    have := usI_len g u v
    rw [usI]
    split
    · rw [List.length_append]; simp; omega
    · omega
theorem usI_mem (g : Int → Int) (u : Int) : ∀ v x, x ∈ usI g u v ↔ (0 ≤ x ∧ x < v ∧ g x = u)
  | 0, x => by simp [usI]; omega
  | v + 1, x => by
    have ih := usI_mem g u v x
    rw [usI]
    split
    · rename_i h
      rw [List.mem_append, ih]
      simp only [List.mem_singleton]
      constructor
      · rintro (h1 | h1)
        · omega
        · subst h1; omega
      · intro h1
        by_cases hx : x = v
        · exact .inr hx
        · exact .inl (by omega)
    · rename_i h
      rw [ih]
      constructor
      · omega
      · intro h1
        by_cases hx : x = v
        · subst hx; exact absurd h1.2.2 h
        · omega
end Go.Proofs.Ytdbikamciedfdaa
namespace Go.Proofs.Ytdbikamciedfdaa
open Go Go.DL
set_option maxRecDepth 100000
set_option maxHeartbeats 1000000

theorem w36 (U : Int) (l : List Fl) : runW progX 36 [plA U l] [] = some (.fn (.func 66) [] [.pt 0 0], [some (.blk true (.cells true [I U, .fs (l.map Fl.row)]))]) := by
  rw [r36 (by simp)]; unfold x36; dsimp only
  (sym => (simp [etaM, etaF, z00,z01,z05,z07,z0b,z0f,z0n,z0p,z0r,z4t,z4y,z54,z57,z59,z6e,z6j,z72,z7r,z7u,z7w,z84,z8d,z9d,z9n,z9r,z9v,z9w,z9y,za0,za1,za3,za6,za7,za8,za9,zae,zaf,zal,zba,zbt,zbu,zbw,zbx,zby,zbz,zc0,zc3,zc4,zc5,zc6,zc8,zcj,zcn,zco,zcq,zcr,zct,zcv,zcy,zd3,zdj,zds,zdt,zdu,zdv,zdw,zdx,ze2,ze3,zeo,zep,zfg,zfo,zfp,zft,zg0,zg1,zhf]; all_goals tactic => exact rfl))

theorem rngL_of {U : Int} {l : List Fl} (h : checkP U l = 0) : rngL U l := by
  obtain ⟨u1, u2, u3, u4⟩ := checkP_u h
  have key : ∀ l : List Fl, firstE U l = 0 → ∀ x ∈ l, chkF U x = 0 := by
    intro l
    induction l with
    | nil => intro _ x hx; simp at hx
    | cons a r ih =>
      intro h x hx
      rw [firstE] at h
      by_cases ha : chkF U a = 0
      · rw [if_pos ha] at h
        rcases List.mem_cons.1 hx with hx | hx
        · rw [hx]; exact ha
        · exact ih h x hx
      · rw [if_neg ha] at h
        exact absurd h ha
  intro x hx
  have := key l u4 x hx
  unfold chkF at this
  rw [show wr (U - 1) = U - 1 from wrap_ok (by omega) (by omega)] at this
  cases h1 : btw (-1) x.fr (U - 1) && btw (-1) x.to (U - 1) with
  | false => rw [h1] at this; simp at this
  | true =>
    simp only [btw, Bool.and_eq_true, decide_eq_true_eq] at h1
    omega

end Go.Proofs.Ytdbikamciedfdaa
namespace Go.Proofs.Ytdbikamciedfdaa
open Go Go.DL
set_option maxRecDepth 100000
set_option maxHeartbeats 1000000

end Go.Proofs.Ytdbikamciedfdaa
namespace Go.Proofs.Ytdbikamciedfdaa
open Go Go.DL
set_option maxRecDepth 100000
set_option maxHeartbeats 1000000

theorem gI_ok {U : Nat} {l : List Fl} (h : checkP U l = 0) (wo : Int) (i : Nat) : ∀ v : Int, -1 ≤ v → v < U → -1 ≤ gI wo l i v ∧ gI wo l i v ≤ v ∧ gI wo l i (gI wo l i v) = gI wo l i v := by
  intro v h1 h2
  obtain ⟨a1, a2, a3, _, _⟩ := esI_inv (rngL_of h) (wo := wo) i v h1 h2
  exact ⟨a1, a2, a3⟩
/-! ### Whatever the number of units -/
end Go.Proofs.Ytdbikamciedfdaa
namespace Go.Proofs.Ytdbikamciedfdaa
open Go Go.DL
set_option maxRecDepth 100000
set_option maxHeartbeats 1000000

/-- The first kind of which there is something. -/
def kd (m : Ms) : Option Int := if m.a = 0 then if m.b = 0 then if m.c = 0 then if m.d = 0 then none else some 3 else some 2 else some 1 else some 0
theorem kd_cases (m : Ms) : (((m.a = 0) = True ∧ (m.b = 0) = True ∧ (m.c = 0) = True ∧ (m.d = 0) = True) ∧ kd m = none) ∨
    ((((m.a = 0) = False) ∧ kd m = some 0) ∨ (((m.a = 0) = True ∧ (m.b = 0) = False) ∧ kd m = some 1) ∨ (((m.a = 0) = True ∧ (m.b = 0) = True ∧ (m.c = 0) = False) ∧ kd m = some 2) ∨ (((m.a = 0) = True ∧ (m.b = 0) = True ∧ (m.c = 0) = True ∧ (m.d = 0) = False) ∧ kd m = some 3)) := by
  unfold kd
  rcases ptf (m.a = 0) with h1 | h1
  · rcases ptf (m.b = 0) with h2 | h2
    · rcases ptf (m.c = 0) with h3 | h3
      · rcases ptf (m.d = 0) with h4 | h4
        · exact .inl ⟨⟨h1, h2, h3, h4⟩, by simp [h1, h2, h3, h4]⟩
        · exact .inr (.inr (.inr (.inr ⟨⟨h1, h2, h3, h4⟩, by simp [h1, h2, h3, h4]⟩)))
      · exact .inr (.inr (.inr (.inl ⟨⟨h1, h2, h3⟩, by simp [h1, h2, h3]⟩)))
    · exact .inr (.inr (.inl ⟨⟨h1, h2⟩, by simp [h1, h2]⟩))
  · exact .inr (.inl ⟨h1, by simp [h1]⟩)

abbrev cl47 (U : Int) (l : List Fl) (st : LSt) (r1 r2 r3 : AV) : XH := [some (.loop 47 0 [.pt 1 0, .pt 2 0, .pt 3 0, .pt 4 0] st), some (.blk true (.cells true [I U, .fs (l.map Fl.row)])), some (.blk true (.cells true [r1])), some (.blk true (.cells true [r2])), some (.blk true (.cells true [r3]))]
theorem y47 (U : Int) (l : List Fl) (us : List Int) (hn : l.length < 1000000) (hu : us.length < 1000000) (h : kd (exI (fun x => decide (x ∈ us)) (-1) l l.length) = none) :
    runYW progX (.fn (.yield 0) [] []) [rI us] (cl47 U l .ready .nilsl (I 0) (.bool false)) = some (.bool true, cl47 U l .ready .nilsl (I 0) (.bool false)) := by
  have e := w39A U l (-1) 70 (us.map fun v => [I v]) (fun x => decide (x ∈ us)) hn (fun u => w70 us u hu)
  rw [runYW_eq (K := 47) (d := x47) (site := 0) (vs := [.pt 1 0, .pt 2 0, .pt 3 0, .pt 4 0]) rfl rfl (by rfl) rfl]
  generalize exI (fun x => decide (x ∈ us)) (-1) l l.length = m at *
  rcases kd_cases m with ⟨⟨h1, h2, h3, h4⟩, _⟩ | ⟨_, h5⟩ | ⟨_, h5⟩ | ⟨_, h5⟩ | ⟨_, h5⟩
  · (sym => (simp [etaM, etaF, z00,z01,z02,z05,z06,z07,z09,z0b,z0c,z0o,z0p,z0s,z0x,z1j,z1n,z1o,z1r,z1u,z20,z21,z44,z46,z4f,z4l,z4m,z4o,z4q,z4t,z4y,z54,z59,z5e,z66,z67,z69,z6b,z6e,z6j,z8d,z8f,z9d,z9e,z9g,z9i,z9j,z9k,z9l,z9m,z9r,z9t,z9v,z9w,z9y,za0,za1,za2,za3,za5,za6,za7,za8,zaa,zab,zac,zae,zaf,zai,zak,zal,zao,zaq,zas,zat,zau,zba,zbc,zbd,zbf,zbg,zbk,zbv,zby,zca,zce,zcf,zcn,zco,zcp,zcq,zcr,zcs,zct,zcu,zcv,zd3,zdd,zdj,zdk,zdo,zds,zdt,zdu,zdv,zdw,zdx,ze9,zea,zed,zeg,zeh,zei,zem,zen,zf6,zf7,zfa,zfc,zfd,zfo,zfr,zfs,zft,zfu,zfy,zg0,zg1,zij,zik,zil,zim,zix,ziy,ziz,zj0, e, h1, h2, h3, h4]; all_goals tactic => exact rfl))
  all_goals (rw [h] at h5; simp at h5)
theorem y47s (U : Int) (l : List Fl) (us : List Int) (k : Int) (hn : l.length < 1000000) (hu : us.length < 1000000) (h : kd (exI (fun x => decide (x ∈ us)) (-1) l l.length) = some k) :
    runYW progX (.fn (.yield 0) [] []) [rI us] (cl47 U l .ready .nilsl (I 0) (.bool false)) = some (.bool false, cl47 U l (.done .ret) (rI us) (I k) (.bool true)) := by
  have e := w39A U l (-1) 70 (us.map fun v => [I v]) (fun x => decide (x ∈ us)) hn (fun u => w70 us u hu)
  rw [runYW_eq (K := 47) (d := x47) (site := 0) (vs := [.pt 1 0, .pt 2 0, .pt 3 0, .pt 4 0]) rfl rfl (by rfl) rfl]
  generalize exI (fun x => decide (x ∈ us)) (-1) l l.length = m at *
  unfold x47l0
  have h1 := pad
  have h2 := pad
  have h3 := pad
  have h4 := pad
  rcases kd_cases m with ⟨_, h5⟩ | ⟨h1, h5⟩ | ⟨⟨h1, h2⟩, h5⟩ | ⟨⟨h1, h2, h3⟩, h5⟩ | ⟨⟨h1, h2, h3, h4⟩, h5⟩
  · rw [h] at h5; simp at h5
  all_goals (rw [h] at h5; simp only [Option.some.injEq] at h5; subst h5)
  all_goals (sym => (simp [etaM, etaF, z00,z01,z02,z05,z06,z07,z09,z0b,z0c,z0n,z0o,z0p,z0s,z0v,z0x,z16,z1j,z1n,z1o,z1r,z1u,z20,z21,z2j,z2u,z2v,z36,z37,z38,z3g,z3i,z3k,z3m,z3p,z44,z46,z4f,z4h,z4l,z4m,z4o,z4q,z4t,z4y,z54,z55,z59,z5e,z66,z67,z69,z6b,z6e,z6j,z8a,z8b,z8d,z8f,z9d,z9e,z9g,z9i,z9j,z9k,z9l,z9m,z9p,z9r,z9s,z9t,z9v,z9w,z9y,za0,za1,za2,za3,za5,za6,za7,za8,za9,zaa,zab,zac,zae,zaf,zai,zak,zal,zao,zaq,zas,zat,zau,zba,zbc,zbd,zbf,zbg,zbk,zbv,zby,zca,zcb,zcc,zcd,zce,zcf,zcg,zcn,zco,zcp,zcq,zcr,zcs,zct,zcu,zcv,zcy,zd3,zd4,zd5,zd6,zd7,zdd,zdj,zdk,zdl,zdo,zds,zdt,zdu,zdv,zdw,zdx,ze9,zea,zed,zeg,zeh,zei,zem,zen,zf6,zf7,zfa,zfb,zfc,zfd,zfm,zfo,zfp,zfq,zfs,zft,zfv,zfw,zfx,zg0,zg1,zij,zik,zil,zim,zix,ziy,ziz,zj1, e, h1, h2, h3, h4, execW_loop]; all_goals tactic => exact rfl))
end Go.Proofs.Ytdbikamciedfdaa
namespace Go.Proofs.Ytdbikamciedfdaa
open Go Go.DL
set_option maxRecDepth 100000
set_option maxHeartbeats 1000000

/-- The clash of a head: its units, and the kind. -/
def clP (g : Int → Int) (U : Nat) (l : List Fl) (i : Nat) : Option (List Int × Int) := if g i = i then (kd (exI (fun x => decide (x ∈ usI g i U)) (-1) l l.length)).map fun k => (usI g i U, k) else none
/-- The first clash. -/
def clF (g : Int → Int) (U : Nat) (l : List Fl) : Nat → Option (List Int × Int)
  | 0 => none
  | i + 1 => match clF g U l i with
    | some r => some r
    | none => clP g U l i
theorem clF_none {g : Int → Int} {U : Nat} {l : List Fl} : ∀ {n : Nat}, (∀ i, i < n → clP g U l i = none) → clF g U l n = none
  | 0, _ => rfl
  | n + 1, h => by rw [clF, clF_none fun i hi => h i (by omega)]; exact h n (by omega)
theorem clF_some {g : Int → Int} {U : Nat} {l : List Fl} {r : List Int × Int} {n : Nat} (h : ∀ i, i < n → clP g U l i = none) (h2 : clP g U l n = some r) : ∀ m, n < m → clF g U l m = some r
  | 0, hm => by omega
  | m + 1, hm => by
    by_cases hc : n = m
    · rw [clF, ← hc, clF_none h]; exact h2
    · rw [clF, clF_some h h2 m (by omega)]
theorem cl_ix (g : Int → Int) (U : Nat) (l : List Fl) : ∃ n, n ≤ U ∧ (∀ i, i < n → clP g U l i = none) ∧ ((n = U ∧ clF g U l U = none) ∨ (∃ us k, n < U ∧ g n = n ∧ us = usI g n U ∧ kd (exI (fun x => decide (x ∈ us)) (-1) l l.length) = some k ∧ clF g U l U = some (us, k))) := by
  obtain ⟨n, h1, h2, h3⟩ := first_n (fun i => (clP g U l i).isSome) U
  have h2' : ∀ i, i < n → clP g U l i = none := fun i hi => by simpa using h2 i hi
  refine ⟨n, h1, h2', ?_⟩
  rcases h3 with h3 | ⟨h3, h4⟩
  · subst h3
    exact .inl ⟨rfl, clF_none h2'⟩
  · cases hc : clP g U l n with
    | none => simp [hc] at h4
    | some r =>
      have hr := clF_some h2' hc U h3
      unfold clP at hc
      by_cases hg : g n = n
      · rw [if_pos hg, Option.map_eq_some_iff] at hc
        obtain ⟨k, hk, rfl⟩ := hc
        exact .inr ⟨_, k, h3, hg, rfl, hk, hr⟩
      · rw [if_neg hg] at hc; simp at hc

def cl66 (U : Int) (l : List Fl) : Option (List Int × Int) → XH
  | none => cl47 U l .ready .nilsl (I 0) (.bool false) ++ [some (.blk true (.cells true [I U, .fs (l.map Fl.row)]))]
  | some r => cl47 U l (.done .ret) (rI r.1) (I r.2) (.bool true) ++ [some (.blk true (.cells true [I U, .fs (l.map Fl.row)]))]
theorem w66c (U : Nat) (l : List Fl) (es : List (Int × Int)) (g : Int → Int) (hU : U < 100000) (hn : l.length < 1000000) (h67 : runW progX 67 [plA U l, I (-1)] [] = some (.mp 0, [mapB es])) (hi : InvG U es g) :
    runW progX 66 [.fn (.yield 0) [] [], .pt 5 0] (cl66 U l none) = some (.tup [], cl66 U l (clF g U l U)) := by
  have e57 : ∀ x : Nat, x < U → runW progX 57 [.mp 0, I x] [mapB es] = some (I (g x), [mapB es]) := fun x h => w57h hi (by omega) (by omega)
  have ru : ∀ i, i < U → IntKind.i64.wrap ((i : Int) + 1) = (i : Int) + 1 ∧ ((i : Int) < (U : Int)) = True ∧ runW progX 57 [.mp 0, I i] [mapB es] = some (I (g i), [mapB es]) := fun i h => ⟨up_ix h (by omega), eq_true (by omega), e57 i h⟩
  have rv : ∀ (u : Int) v, v < U → ((g v = u) = True ∧ usI g u (v + 1) = usI g u v ++ [(v : Int)]) ∨ ((g v = u) = False ∧ usI g u (v + 1) = usI g u v) := by
    intro u v hv
    by_cases h : g v = u
    · exact .inl ⟨eq_true h, by rw [usI, if_pos h]⟩
    · exact .inr ⟨eq_false h, by rw [usI, if_neg h]⟩
  have rl : ∀ (u : Int) v a r, v < U → usI g u v = a :: r → ((r.length + 1 + 1) * 8 ≤ 1099511627776) = True ∧ (r.length + 1 + 1 ≤ 1099511627776) = True := by
    intro u v a r hv h
    have := usI_len g u v
    rw [h, List.length_cons] at this
    exact ⟨eq_true (by omega), eq_true (by omega)⟩
  have u0 : ∀ u, usI g u 0 = [] := fun _ => rfl
  have uc : ∀ i : Nat, i < U → g i = i → ∃ a r, usI g i U = a :: r := by
    intro i h h2
    have hm : (i : Int) ∈ usI g i U := (usI_mem g i U i).2 ⟨by omega, by omega, h2⟩
    cases hu : usI g i U with
    | nil => rw [hu] at hm; simp at hm
    | cons a r => exact ⟨a, r, rfl⟩
  have ul : ∀ i, (usI g i U).length < 1000000 := fun i => by have := usI_len g i U; omega
  obtain ⟨n, hn1, hn2, hn3⟩ := cl_ix g U l
  have ry : ∀ i, i < n → g i = i → ∃ a r, usI g i U = a :: r ∧ runYW progX (.fn (.yield 0) [] []) [.fs ([I a] :: r.map fun v => [I v])] (cl47 U l .ready .nilsl (I 0) (.bool false)) = some (.bool true, cl47 U l .ready .nilsl (I 0) (.bool false)) := by
    intro i h h2
    obtain ⟨a, r, hu⟩ := uc i (by omega) h2
    have hk := hn2 i h
    rw [clP, if_pos h2, Option.map_eq_none_iff] at hk
    have y := y47 U l (usI g i U) hn (ul i) hk
    rw [hu] at y
    exact ⟨a, r, hu, y⟩
  have rs : n < U → ∀ us k, g n = n → us = usI g n U → kd (exI (fun x => decide (x ∈ us)) (-1) l l.length) = some k → ∃ a r, us = a :: r ∧ runYW progX (.fn (.yield 0) [] []) [.fs ([I a] :: r.map fun v => [I v])] (cl47 U l .ready .nilsl (I 0) (.bool false)) = some (.bool false, cl47 U l (.done .ret) (rI us) (I k) (.bool true)) := by
    intro h us k h2 hus hk
    obtain ⟨a, r, hu⟩ := uc n h h2
    have y := y47s U l us k hn (by rw [hus]; exact ul n) hk
    rw [hu] at hus
    refine ⟨a, r, hus, ?_⟩
    subst hus
    exact y
  -- a round's inner loop
  have inner : ∀ (i : Nat) (e : Env) (h : XH), i < U → headX 6 [0, 1, 3, 4, 5, 10, 11, 20, 21] (some (.normal, e, h)) = some ([.fn (.yield 0) [] [], .pt 5 0, .mp 6, I i, .nilsl, I U, I (i : Nat), I U, I 0], cl66 U l none ++ [mapB es]) →
      execW progX 66 6 none x66l0 e h = execW progX 66 6 none (match x66l0 with | .loop _ a => a | c => c) (envL [0, 1, 3, 4, 5, 10, 11, 20, 21] [.fn (.yield 0) [] [], .pt 5 0, .mp 6, I i, oS 7 (usI g i U), I U, I (i : Nat), I U, I U]) (cl66 U l none ++ [mapB es] ++ oG (usI g i U)) := by
    intro i e h hiU h0
    unfold x66l0
    rw [loop_rule U (fun v => [.fn (.yield 0) [] [], .pt 5 0, .mp 6, I i, oS 7 (usI g i v), I U, I (i : Nat), I U, I (v : Nat)]) (fun v => cl66 U l none ++ [mapB es] ++ oG (usI g i v))]
    · rw [h0]; rfl
    · intro v hv
      obtain ⟨m0, m1, m2⟩ := ru v hv
      unfold cl66
      have m5 := pad
      have m6 := pad
      rcases hu : usI g i v with _ | ⟨a, r⟩
      rotate_left
      obtain ⟨m5, m6⟩ := rl i v a r hv hu
      all_goals (rcases rv i v hv with ⟨m3, m4⟩ | ⟨m3, m4⟩ <;> rw [m4, hu])
      all_goals (sym => (simp [etaM, etaF, z00,z01,z03,z04,z05,z06,z07,z09,z0b,z0c,z0f,z0n,z0t,z0v,z0z,z12,z1j,z1r,z1u,z1z,z20,z21,z26,z29,z2j,z2t,z2u,z2v,z3h,z4l,z4o,z4p,z4q,z4s,z4t,z4u,z4v,z4z,z54,z66,z67,z69,z6a,z6b,z6d,z6e,z6f,z6g,z6k,z6t,z6w,z6y,z78,z7f,z7g,z7h,z7m,z7v,z7z,z85,z8a,z9d,z9e,z9g,z9i,z9j,z9k,z9l,z9m,z9n,z9p,z9r,z9s,z9t,z9v,z9w,z9x,z9y,za0,za1,za2,za3,za5,za6,za7,za8,za9,zaa,zab,zac,zae,zaf,zai,zak,zal,zao,zaq,zas,zat,zau,zb4,zb5,zb9,zba,zbb,zbc,zbd,zbe,zbf,zbg,zbk,zbm,zbp,zbq,zbs,zbt,zbu,zbw,zbx,zby,zbz,zc1,zc3,zc8,zca,zcc,zcd,zce,zcf,zcg,zch,zci,zcj,zcn,zco,zcp,zcq,zcr,zcs,zct,zcu,zcv,zcw,zcy,zd3,zd6,zd7,zdd,zdj,zdk,zdl,zdm,zdn,zdo,zds,zdt,zdu,zdv,zdw,zdx,zdy,ze2,ze3,ze9,zea,zeb,zec,zeq,zer,zes,zet,zez,zf0,zf1,zf2,zf3,zf4,zf5,zf6,zf7,zfa,zfb,zfg,zfh,zfi,zfj,zfl,zfm,zfo,zfp,zfq,zfr,zfs,zft,zfu,zfv,zfw,zfx,zfy,zfz,zg0,zg1,zhb,zhc,zhd,zhe,zhg,zhp,zi8,zi9,zia,zib,zic,ziw, m0, m1, m2, m3, m5, m6]; all_goals tactic => exact rfl))
    · unfold cl66
      rcases hu : usI g i U with _ | ⟨a, r⟩ <;> (sym => (simp [etaM, etaF, z00,z01,z03,z04,z05,z06,z07,z09,z0b,z0c,z0f,z0n,z0t,z0v,z0z,z12,z1j,z1r,z1u,z1z,z20,z21,z26,z29,z2j,z2t,z2u,z2v,z3h,z4l,z4o,z4p,z4q,z4s,z4t,z4u,z4v,z4z,z54,z66,z67,z69,z6a,z6b,z6d,z6e,z6f,z6g,z6k,z6t,z6w,z6y,z78,z7f,z7g,z7h,z7m,z7v,z7z,z85,z8a,z9d,z9e,z9g,z9i,z9j,z9k,z9l,z9m,z9n,z9p,z9r,z9s,z9t,z9v,z9w,z9x,z9y,za0,za1,za2,za3,za5,za6,za7,za8,za9,zaa,zab,zac,zae,zaf,zai,zak,zal,zao,zaq,zas,zat,zau,zb4,zb5,zb9,zba,zbb,zbc,zbd,zbe,zbf,zbg,zbk,zbm,zbp,zbq,zbs,zbt,zbu,zbw,zbx,zby,zbz,zc1,zc3,zc8,zca,zcc,zcd,zce,zcf,zcg,zch,zci,zcj,zcn,zco,zcp,zcq,zcr,zcs,zct,zcu,zcv,zcw,zcy,zd3,zd6,zd7,zdd,zdj,zdk,zdl,zdm,zdn,zdo,zds,zdt,zdu,zdv,zdw,zdx,zdy,ze2,ze3,ze9,zea,zeb,zec,zeq,zer,zes,zet,zez,zf0,zf1,zf2,zf3,zf4,zf5,zf6,zf7,zfa,zfb,zfg,zfh,zfi,zfj,zfl,zfm,zfo,zfp,zfq,zfr,zfs,zft,zfu,zfv,zfw,zfx,zfy,zfz,zg0,zg1,zhb,zhc,zhd,zhe,zhg,zhp,zi8,zi9,zia,zib,zic,ziw]; all_goals tactic => exact rfl))
  have g0 := pad
  have g1 := pad
  have g2 := pad
  have g3 := pad
  have g4 := pad
  have e0 : cl66 (U : Int) l none = cl47 U l .ready .nilsl (I 0) (.bool false) ++ [some (.blk true (.cells true [I U, .fs (l.map Fl.row)]))] := rfl
  rw [show clF g U l U = clF g U l U from rfl]
  rw [e0]
  rw [r66 (by simp)]; unfold x66; dsimp only
  sym =>
    simp [etaM, etaF, z00,z01,z03,z04,z05,z06,z07,z09,z0b,z0c,z0f,z0n,z0t,z0v,z0z,z12,z1j,z1r,z1u,z1z,z20,z21,z26,z29,z2j,z2t,z2u,z2v,z3h,z4l,z4o,z4p,z4q,z4s,z4t,z4u,z4v,z4z,z54,z66,z67,z69,z6a,z6b,z6d,z6e,z6f,z6g,z6k,z6t,z6w,z6y,z78,z7f,z7g,z7h,z7m,z7v,z7z,z85,z8a,z9d,z9e,z9g,z9i,z9j,z9k,z9l,z9m,z9n,z9p,z9r,z9s,z9t,z9v,z9w,z9x,z9y,za0,za1,za2,za3,za5,za6,za7,za8,za9,zaa,zab,zac,zae,zaf,zai,zak,zal,zao,zaq,zas,zat,zau,zb4,zb5,zb9,zba,zbb,zbc,zbd,zbe,zbf,zbg,zbk,zbm,zbp,zbq,zbs,zbt,zbu,zbw,zbx,zby,zbz,zc1,zc3,zc8,zca,zcc,zcd,zce,zcf,zcg,zch,zci,zcj,zcn,zco,zcp,zcq,zcr,zcs,zct,zcu,zcv,zcw,zcy,zd3,zd6,zd7,zdd,zdj,zdk,zdl,zdm,zdn,zdo,zds,zdt,zdu,zdv,zdw,zdx,zdy,ze2,ze3,ze9,zea,zeb,zec,zeq,zer,zes,zet,zez,zf0,zf1,zf2,zf3,zf4,zf5,zf6,zf7,zfa,zfb,zfg,zfh,zfi,zfj,zfl,zfm,zfo,zfp,zfq,zfr,zfs,zft,zfu,zfv,zfw,zfx,zfy,zfz,zg0,zg1,zhb,zhc,zhd,zhe,zhg,zhp,zi8,zi9,zia,zib,zic,ziw, h67]
    tactic =>
      unfold x66l1
      rw [loop_rule n (fun i => [.fn (.yield 0) [] [], .pt 5 0, .mp 6, I U, I (i : Nat)]) (fun i => cl66 U l none ++ [mapB es])]
      · -- the last round
        rcases hn3 with ⟨h3, h4⟩ | ⟨us, k, h3, h4, h5, h6, h7⟩
        · have g1 : ((n : Int) < (U : Int)) = False := eq_false (by omega)
          rw [h4]
          unfold cl66
          (sym => (simp [etaM, etaF, z00,z01,z03,z04,z05,z06,z07,z09,z0b,z0c,z0f,z0n,z0t,z0v,z0z,z12,z1j,z1r,z1u,z1z,z20,z21,z26,z29,z2j,z2t,z2u,z2v,z3h,z4l,z4o,z4p,z4q,z4s,z4t,z4u,z4v,z4z,z54,z66,z67,z69,z6a,z6b,z6d,z6e,z6f,z6g,z6k,z6t,z6w,z6y,z78,z7f,z7g,z7h,z7m,z7v,z7z,z85,z8a,z9d,z9e,z9g,z9i,z9j,z9k,z9l,z9m,z9n,z9p,z9r,z9s,z9t,z9v,z9w,z9x,z9y,za0,za1,za2,za3,za5,za6,za7,za8,za9,zaa,zab,zac,zae,zaf,zai,zak,zal,zao,zaq,zas,zat,zau,zb4,zb5,zb9,zba,zbb,zbc,zbd,zbe,zbf,zbg,zbk,zbm,zbp,zbq,zbs,zbt,zbu,zbw,zbx,zby,zbz,zc1,zc3,zc8,zca,zcc,zcd,zce,zcf,zcg,zch,zci,zcj,zcn,zco,zcp,zcq,zcr,zcs,zct,zcu,zcv,zcw,zcy,zd3,zd6,zd7,zdd,zdj,zdk,zdl,zdm,zdn,zdo,zds,zdt,zdu,zdv,zdw,zdx,zdy,ze2,ze3,ze9,zea,zeb,zec,zeq,zer,zes,zet,zez,zf0,zf1,zf2,zf3,zf4,zf5,zf6,zf7,zfa,zfb,zfg,zfh,zfi,zfj,zfl,zfm,zfo,zfp,zfq,zfr,zfs,zft,zfu,zfv,zfw,zfx,zfy,zfz,zg0,zg1,zhb,zhc,zhd,zhe,zhg,zhp,zi8,zi9,zia,zib,zic,ziw, g1]; all_goals tactic => exact rfl))
        · obtain ⟨a, r, hu, y⟩ := rs h3 us k h4 h5 h6
          rw [h7]
          obtain ⟨g0, g1, g2⟩ := ru n h3
          have g3 := eq_true h4
          have e1 : cl66 (U : Int) l (some (us, k)) = cl47 U l (.done .ret) (rI us) (I k) (.bool true) ++ [some (.blk true (.cells true [I U, .fs (l.map Fl.row)]))] := rfl
          rw [e1, e0]
          subst hu
          sym =>
            simp [etaM, etaF, z00,z01,z03,z04,z05,z06,z07,z09,z0b,z0c,z0f,z0n,z0t,z0v,z0z,z12,z1j,z1r,z1u,z1z,z20,z21,z26,z29,z2j,z2t,z2u,z2v,z3h,z4l,z4o,z4p,z4q,z4s,z4t,z4u,z4v,z4z,z54,z66,z67,z69,z6a,z6b,z6d,z6e,z6f,z6g,z6k,z6t,z6w,z6y,z78,z7f,z7g,z7h,z7m,z7v,z7z,z85,z8a,z9d,z9e,z9g,z9i,z9j,z9k,z9l,z9m,z9n,z9p,z9r,z9s,z9t,z9v,z9w,z9x,z9y,za0,za1,za2,za3,za5,za6,za7,za8,za9,zaa,zab,zac,zae,zaf,zai,zak,zal,zao,zaq,zas,zat,zau,zb4,zb5,zb9,zba,zbb,zbc,zbd,zbe,zbf,zbg,zbk,zbm,zbp,zbq,zbs,zbt,zbu,zbw,zbx,zby,zbz,zc1,zc3,zc8,zca,zcc,zcd,zce,zcf,zcg,zch,zci,zcj,zcn,zco,zcp,zcq,zcr,zcs,zct,zcu,zcv,zcw,zcy,zd3,zd6,zd7,zdd,zdj,zdk,zdl,zdm,zdn,zdo,zds,zdt,zdu,zdv,zdw,zdx,zdy,ze2,ze3,ze9,zea,zeb,zec,zeq,zer,zes,zet,zez,zf0,zf1,zf2,zf3,zf4,zf5,zf6,zf7,zfa,zfb,zfg,zfh,zfi,zfj,zfl,zfm,zfo,zfp,zfq,zfr,zfs,zft,zfu,zfv,zfw,zfx,zfy,zfz,zg0,zg1,zhb,zhc,zhd,zhe,zhg,zhp,zi8,zi9,zia,zib,zic,ziw, g1, g2, g3]
            tactic =>
              rw [inner n _ _ h3 (by rw [e0]; (sym => (simp [etaM, etaF, z00,z01,z03,z04,z05,z06,z07,z09,z0b,z0c,z0f,z0n,z0t,z0v,z0z,z12,z1j,z1r,z1u,z1z,z20,z21,z26,z29,z2j,z2t,z2u,z2v,z3h,z4l,z4o,z4p,z4q,z4s,z4t,z4u,z4v,z4z,z54,z66,z67,z69,z6a,z6b,z6d,z6e,z6f,z6g,z6k,z6t,z6w,z6y,z78,z7f,z7g,z7h,z7m,z7v,z7z,z85,z8a,z9d,z9e,z9g,z9i,z9j,z9k,z9l,z9m,z9n,z9p,z9r,z9s,z9t,z9v,z9w,z9x,z9y,za0,za1,za2,za3,za5,za6,za7,za8,za9,zaa,zab,zac,zae,zaf,zai,zak,zal,zao,zaq,zas,zat,zau,zb4,zb5,zb9,zba,zbb,zbc,zbd,zbe,zbf,zbg,zbk,zbm,zbp,zbq,zbs,zbt,zbu,zbw,zbx,zby,zbz,zc1,zc3,zc8,zca,zcc,zcd,zce,zcf,zcg,zch,zci,zcj,zcn,zco,zcp,zcq,zcr,zcs,zct,zcu,zcv,zcw,zcy,zd3,zd6,zd7,zdd,zdj,zdk,zdl,zdm,zdn,zdo,zds,zdt,zdu,zdv,zdw,zdx,zdy,ze2,ze3,ze9,zea,zeb,zec,zeq,zer,zes,zet,zez,zf0,zf1,zf2,zf3,zf4,zf5,zf6,zf7,zfa,zfb,zfg,zfh,zfi,zfj,zfl,zfm,zfo,zfp,zfq,zfr,zfs,zft,zfu,zfv,zfw,zfx,zfy,zfz,zg0,zg1,zhb,zhc,zhd,zhe,zhg,zhp,zi8,zi9,zia,zib,zic,ziw]; all_goals tactic => exact rfl)))]
              rw [← h5, e0]
              unfold x66l0
              dsimp only
              have f1 := zf5 (n := (U : Int))
              (sym => (simp [etaM, etaF, z00,z01,z03,z04,z05,z06,z07,z09,z0b,z0c,z0f,z0n,z0t,z0v,z0z,z12,z1j,z1r,z1u,z1z,z20,z21,z26,z29,z2j,z2t,z2u,z2v,z3h,z4l,z4o,z4p,z4q,z4s,z4t,z4u,z4v,z4z,z54,z66,z67,z69,z6a,z6b,z6d,z6e,z6f,z6g,z6k,z6t,z6w,z6y,z78,z7f,z7g,z7h,z7m,z7v,z7z,z85,z8a,z9d,z9e,z9g,z9i,z9j,z9k,z9l,z9m,z9n,z9p,z9r,z9s,z9t,z9v,z9w,z9x,z9y,za0,za1,za2,za3,za5,za6,za7,za8,za9,zaa,zab,zac,zae,zaf,zai,zak,zal,zao,zaq,zas,zat,zau,zb4,zb5,zb9,zba,zbb,zbc,zbd,zbe,zbf,zbg,zbk,zbm,zbp,zbq,zbs,zbt,zbu,zbw,zbx,zby,zbz,zc1,zc3,zc8,zca,zcc,zcd,zce,zcf,zcg,zch,zci,zcj,zcn,zco,zcp,zcq,zcr,zcs,zct,zcu,zcv,zcw,zcy,zd3,zd6,zd7,zdd,zdj,zdk,zdl,zdm,zdn,zdo,zds,zdt,zdu,zdv,zdw,zdx,zdy,ze2,ze3,ze9,zea,zeb,zec,zeq,zer,zes,zet,zez,zf0,zf1,zf2,zf3,zf4,zf5,zf6,zf7,zfa,zfb,zfg,zfh,zfi,zfj,zfl,zfm,zfo,zfp,zfq,zfr,zfs,zft,zfu,zfv,zfw,zfx,zfy,zfz,zg0,zg1,zhb,zhc,zhd,zhe,zhg,zhp,zi8,zi9,zia,zib,zic,ziw, f1, y]; all_goals tactic => exact rfl))
      · rw [e0]
        (sym => (simp [etaM, etaF, z00,z01,z03,z04,z05,z06,z07,z09,z0b,z0c,z0f,z0n,z0t,z0v,z0z,z12,z1j,z1r,z1u,z1z,z20,z21,z26,z29,z2j,z2t,z2u,z2v,z3h,z4l,z4o,z4p,z4q,z4s,z4t,z4u,z4v,z4z,z54,z66,z67,z69,z6a,z6b,z6d,z6e,z6f,z6g,z6k,z6t,z6w,z6y,z78,z7f,z7g,z7h,z7m,z7v,z7z,z85,z8a,z9d,z9e,z9g,z9i,z9j,z9k,z9l,z9m,z9n,z9p,z9r,z9s,z9t,z9v,z9w,z9x,z9y,za0,za1,za2,za3,za5,za6,za7,za8,za9,zaa,zab,zac,zae,zaf,zai,zak,zal,zao,zaq,zas,zat,zau,zb4,zb5,zb9,zba,zbb,zbc,zbd,zbe,zbf,zbg,zbk,zbm,zbp,zbq,zbs,zbt,zbu,zbw,zbx,zby,zbz,zc1,zc3,zc8,zca,zcc,zcd,zce,zcf,zcg,zch,zci,zcj,zcn,zco,zcp,zcq,zcr,zcs,zct,zcu,zcv,zcw,zcy,zd3,zd6,zd7,zdd,zdj,zdk,zdl,zdm,zdn,zdo,zds,zdt,zdu,zdv,zdw,zdx,zdy,ze2,ze3,ze9,zea,zeb,zec,zeq,zer,zes,zet,zez,zf0,zf1,zf2,zf3,zf4,zf5,zf6,zf7,zfa,zfb,zfg,zfh,zfi,zfj,zfl,zfm,zfo,zfp,zfq,zfr,zfs,zft,zfu,zfv,zfw,zfx,zfy,zfz,zg0,zg1,zhb,zhc,zhd,zhe,zhg,zhp,zi8,zi9,zia,zib,zic,ziw]; all_goals tactic => exact rfl))
      · intro i hi
        obtain ⟨g0, g1, g2⟩ := ru i (by omega)
        by_cases hg : g i = i
        · have g3 := eq_true hg
          obtain ⟨a, r, k1, k2⟩ := ry i hi hg
          rw [e0]
          sym =>
            simp [etaM, etaF, z00,z01,z03,z04,z05,z06,z07,z09,z0b,z0c,z0f,z0n,z0t,z0v,z0z,z12,z1j,z1r,z1u,z1z,z20,z21,z26,z29,z2j,z2t,z2u,z2v,z3h,z4l,z4o,z4p,z4q,z4s,z4t,z4u,z4v,z4z,z54,z66,z67,z69,z6a,z6b,z6d,z6e,z6f,z6g,z6k,z6t,z6w,z6y,z78,z7f,z7g,z7h,z7m,z7v,z7z,z85,z8a,z9d,z9e,z9g,z9i,z9j,z9k,z9l,z9m,z9n,z9p,z9r,z9s,z9t,z9v,z9w,z9x,z9y,za0,za1,za2,za3,za5,za6,za7,za8,za9,zaa,zab,zac,zae,zaf,zai,zak,zal,zao,zaq,zas,zat,zau,zb4,zb5,zb9,zba,zbb,zbc,zbd,zbe,zbf,zbg,zbk,zbm,zbp,zbq,zbs,zbt,zbu,zbw,zbx,zby,zbz,zc1,zc3,zc8,zca,zcc,zcd,zce,zcf,zcg,zch,zci,zcj,zcn,zco,zcp,zcq,zcr,zcs,zct,zcu,zcv,zcw,zcy,zd3,zd6,zd7,zdd,zdj,zdk,zdl,zdm,zdn,zdo,zds,zdt,zdu,zdv,zdw,zdx,zdy,ze2,ze3,ze9,zea,zeb,zec,zeq,zer,zes,zet,zez,zf0,zf1,zf2,zf3,zf4,zf5,zf6,zf7,zfa,zfb,zfg,zfh,zfi,zfj,zfl,zfm,zfo,zfp,zfq,zfr,zfs,zft,zfu,zfv,zfw,zfx,zfy,zfz,zg0,zg1,zhb,zhc,zhd,zhe,zhg,zhp,zi8,zi9,zia,zib,zic,ziw, g0, g1, g2, g3]
            tactic =>
              rw [inner i _ _ (by omega) (by rw [e0]; (sym => (simp [etaM, etaF, z00,z01,z03,z04,z05,z06,z07,z09,z0b,z0c,z0f,z0n,z0t,z0v,z0z,z12,z1j,z1r,z1u,z1z,z20,z21,z26,z29,z2j,z2t,z2u,z2v,z3h,z4l,z4o,z4p,z4q,z4s,z4t,z4u,z4v,z4z,z54,z66,z67,z69,z6a,z6b,z6d,z6e,z6f,z6g,z6k,z6t,z6w,z6y,z78,z7f,z7g,z7h,z7m,z7v,z7z,z85,z8a,z9d,z9e,z9g,z9i,z9j,z9k,z9l,z9m,z9n,z9p,z9r,z9s,z9t,z9v,z9w,z9x,z9y,za0,za1,za2,za3,za5,za6,za7,za8,za9,zaa,zab,zac,zae,zaf,zai,zak,zal,zao,zaq,zas,zat,zau,zb4,zb5,zb9,zba,zbb,zbc,zbd,zbe,zbf,zbg,zbk,zbm,zbp,zbq,zbs,zbt,zbu,zbw,zbx,zby,zbz,zc1,zc3,zc8,zca,zcc,zcd,zce,zcf,zcg,zch,zci,zcj,zcn,zco,zcp,zcq,zcr,zcs,zct,zcu,zcv,zcw,zcy,zd3,zd6,zd7,zdd,zdj,zdk,zdl,zdm,zdn,zdo,zds,zdt,zdu,zdv,zdw,zdx,zdy,ze2,ze3,ze9,zea,zeb,zec,zeq,zer,zes,zet,zez,zf0,zf1,zf2,zf3,zf4,zf5,zf6,zf7,zfa,zfb,zfg,zfh,zfi,zfj,zfl,zfm,zfo,zfp,zfq,zfr,zfs,zft,zfu,zfv,zfw,zfx,zfy,zfz,zg0,zg1,zhb,zhc,zhd,zhe,zhg,zhp,zi8,zi9,zia,zib,zic,ziw]; all_goals tactic => exact rfl)))]
              rw [k1, e0]
              unfold x66l0
              dsimp only
              have f1 := zf5 (n := (U : Int))
              (sym => (simp [etaM, etaF, z00,z01,z03,z04,z05,z06,z07,z09,z0b,z0c,z0f,z0n,z0t,z0v,z0z,z12,z1j,z1r,z1u,z1z,z20,z21,z26,z29,z2j,z2t,z2u,z2v,z3h,z4l,z4o,z4p,z4q,z4s,z4t,z4u,z4v,z4z,z54,z66,z67,z69,z6a,z6b,z6d,z6e,z6f,z6g,z6k,z6t,z6w,z6y,z78,z7f,z7g,z7h,z7m,z7v,z7z,z85,z8a,z9d,z9e,z9g,z9i,z9j,z9k,z9l,z9m,z9n,z9p,z9r,z9s,z9t,z9v,z9w,z9x,z9y,za0,za1,za2,za3,za5,za6,za7,za8,za9,zaa,zab,zac,zae,zaf,zai,zak,zal,zao,zaq,zas,zat,zau,zb4,zb5,zb9,zba,zbb,zbc,zbd,zbe,zbf,zbg,zbk,zbm,zbp,zbq,zbs,zbt,zbu,zbw,zbx,zby,zbz,zc1,zc3,zc8,zca,zcc,zcd,zce,zcf,zcg,zch,zci,zcj,zcn,zco,zcp,zcq,zcr,zcs,zct,zcu,zcv,zcw,zcy,zd3,zd6,zd7,zdd,zdj,zdk,zdl,zdm,zdn,zdo,zds,zdt,zdu,zdv,zdw,zdx,zdy,ze2,ze3,ze9,zea,zeb,zec,zeq,zer,zes,zet,zez,zf0,zf1,zf2,zf3,zf4,zf5,zf6,zf7,zfa,zfb,zfg,zfh,zfi,zfj,zfl,zfm,zfo,zfp,zfq,zfr,zfs,zft,zfu,zfv,zfw,zfx,zfy,zfz,zg0,zg1,zhb,zhc,zhd,zhe,zhg,zhp,zi8,zi9,zia,zib,zic,ziw, f1, k2, g0]; all_goals tactic => exact rfl))
        · have g3 := eq_false hg
          rw [e0]
          (sym => (simp [etaM, etaF, z00,z01,z03,z04,z05,z06,z07,z09,z0b,z0c,z0f,z0n,z0t,z0v,z0z,z12,z1j,z1r,z1u,z1z,z20,z21,z26,z29,z2j,z2t,z2u,z2v,z3h,z4l,z4o,z4p,z4q,z4s,z4t,z4u,z4v,z4z,z54,z66,z67,z69,z6a,z6b,z6d,z6e,z6f,z6g,z6k,z6t,z6w,z6y,z78,z7f,z7g,z7h,z7m,z7v,z7z,z85,z8a,z9d,z9e,z9g,z9i,z9j,z9k,z9l,z9m,z9n,z9p,z9r,z9s,z9t,z9v,z9w,z9x,z9y,za0,za1,za2,za3,za5,za6,za7,za8,za9,zaa,zab,zac,zae,zaf,zai,zak,zal,zao,zaq,zas,zat,zau,zb4,zb5,zb9,zba,zbb,zbc,zbd,zbe,zbf,zbg,zbk,zbm,zbp,zbq,zbs,zbt,zbu,zbw,zbx,zby,zbz,zc1,zc3,zc8,zca,zcc,zcd,zce,zcf,zcg,zch,zci,zcj,zcn,zco,zcp,zcq,zcr,zcs,zct,zcu,zcv,zcw,zcy,zd3,zd6,zd7,zdd,zdj,zdk,zdl,zdm,zdn,zdo,zds,zdt,zdu,zdv,zdw,zdx,zdy,ze2,ze3,ze9,zea,zeb,zec,zeq,zer,zes,zet,zez,zf0,zf1,zf2,zf3,zf4,zf5,zf6,zf7,zfa,zfb,zfg,zfh,zfi,zfj,zfl,zfm,zfo,zfp,zfq,zfr,zfs,zft,zfu,zfv,zfw,zfx,zfy,zfz,zg0,zg1,zhb,zhc,zhd,zhe,zhg,zhp,zi8,zi9,zia,zib,zic,ziw, g0, g1, g2, g3]; all_goals tactic => exact rfl))
      · rcases hn3 with ⟨h3, h4⟩ | ⟨us, k, h3, h4, h5, h6, h7⟩
        · have g1 : ((n : Int) < (U : Int)) = False := eq_false (by omega)
          rw [e0]
          (sym => (simp [etaM, etaF, z00,z01,z03,z04,z05,z06,z07,z09,z0b,z0c,z0f,z0n,z0t,z0v,z0z,z12,z1j,z1r,z1u,z1z,z20,z21,z26,z29,z2j,z2t,z2u,z2v,z3h,z4l,z4o,z4p,z4q,z4s,z4t,z4u,z4v,z4z,z54,z66,z67,z69,z6a,z6b,z6d,z6e,z6f,z6g,z6k,z6t,z6w,z6y,z78,z7f,z7g,z7h,z7m,z7v,z7z,z85,z8a,z9d,z9e,z9g,z9i,z9j,z9k,z9l,z9m,z9n,z9p,z9r,z9s,z9t,z9v,z9w,z9x,z9y,za0,za1,za2,za3,za5,za6,za7,za8,za9,zaa,zab,zac,zae,zaf,zai,zak,zal,zao,zaq,zas,zat,zau,zb4,zb5,zb9,zba,zbb,zbc,zbd,zbe,zbf,zbg,zbk,zbm,zbp,zbq,zbs,zbt,zbu,zbw,zbx,zby,zbz,zc1,zc3,zc8,zca,zcc,zcd,zce,zcf,zcg,zch,zci,zcj,zcn,zco,zcp,zcq,zcr,zcs,zct,zcu,zcv,zcw,zcy,zd3,zd6,zd7,zdd,zdj,zdk,zdl,zdm,zdn,zdo,zds,zdt,zdu,zdv,zdw,zdx,zdy,ze2,ze3,ze9,zea,zeb,zec,zeq,zer,zes,zet,zez,zf0,zf1,zf2,zf3,zf4,zf5,zf6,zf7,zfa,zfb,zfg,zfh,zfi,zfj,zfl,zfm,zfo,zfp,zfq,zfr,zfs,zft,zfu,zfv,zfw,zfx,zfy,zfz,zg0,zg1,zhb,zhc,zhd,zhe,zhg,zhp,zi8,zi9,zia,zib,zic,ziw, g1]; all_goals tactic => exact rfl))
        · obtain ⟨a, r, hu, y⟩ := rs h3 us k h4 h5 h6
          obtain ⟨g0, g1, g2⟩ := ru n h3
          have g3 := eq_true h4
          rw [e0]
          subst hu
          sym =>
            simp [etaM, etaF, z00,z01,z03,z04,z05,z06,z07,z09,z0b,z0c,z0f,z0n,z0t,z0v,z0z,z12,z1j,z1r,z1u,z1z,z20,z21,z26,z29,z2j,z2t,z2u,z2v,z3h,z4l,z4o,z4p,z4q,z4s,z4t,z4u,z4v,z4z,z54,z66,z67,z69,z6a,z6b,z6d,z6e,z6f,z6g,z6k,z6t,z6w,z6y,z78,z7f,z7g,z7h,z7m,z7v,z7z,z85,z8a,z9d,z9e,z9g,z9i,z9j,z9k,z9l,z9m,z9n,z9p,z9r,z9s,z9t,z9v,z9w,z9x,z9y,za0,za1,za2,za3,za5,za6,za7,za8,za9,zaa,zab,zac,zae,zaf,zai,zak,zal,zao,zaq,zas,zat,zau,zb4,zb5,zb9,zba,zbb,zbc,zbd,zbe,zbf,zbg,zbk,zbm,zbp,zbq,zbs,zbt,zbu,zbw,zbx,zby,zbz,zc1,zc3,zc8,zca,zcc,zcd,zce,zcf,zcg,zch,zci,zcj,zcn,zco,zcp,zcq,zcr,zcs,zct,zcu,zcv,zcw,zcy,zd3,zd6,zd7,zdd,zdj,zdk,zdl,zdm,zdn,zdo,zds,zdt,zdu,zdv,zdw,zdx,zdy,ze2,ze3,ze9,zea,zeb,zec,zeq,zer,zes,zet,zez,zf0,zf1,zf2,zf3,zf4,zf5,zf6,zf7,zfa,zfb,zfg,zfh,zfi,zfj,zfl,zfm,zfo,zfp,zfq,zfr,zfs,zft,zfu,zfv,zfw,zfx,zfy,zfz,zg0,zg1,zhb,zhc,zhd,zhe,zhg,zhp,zi8,zi9,zia,zib,zic,ziw, g1, g2, g3]
            tactic =>
              rw [inner n _ _ h3 (by rw [e0]; (sym => (simp [etaM, etaF, z00,z01,z03,z04,z05,z06,z07,z09,z0b,z0c,z0f,z0n,z0t,z0v,z0z,z12,z1j,z1r,z1u,z1z,z20,z21,z26,z29,z2j,z2t,z2u,z2v,z3h,z4l,z4o,z4p,z4q,z4s,z4t,z4u,z4v,z4z,z54,z66,z67,z69,z6a,z6b,z6d,z6e,z6f,z6g,z6k,z6t,z6w,z6y,z78,z7f,z7g,z7h,z7m,z7v,z7z,z85,z8a,z9d,z9e,z9g,z9i,z9j,z9k,z9l,z9m,z9n,z9p,z9r,z9s,z9t,z9v,z9w,z9x,z9y,za0,za1,za2,za3,za5,za6,za7,za8,za9,zaa,zab,zac,zae,zaf,zai,zak,zal,zao,zaq,zas,zat,zau,zb4,zb5,zb9,zba,zbb,zbc,zbd,zbe,zbf,zbg,zbk,zbm,zbp,zbq,zbs,zbt,zbu,zbw,zbx,zby,zbz,zc1,zc3,zc8,zca,zcc,zcd,zce,zcf,zcg,zch,zci,zcj,zcn,zco,zcp,zcq,zcr,zcs,zct,zcu,zcv,zcw,zcy,zd3,zd6,zd7,zdd,zdj,zdk,zdl,zdm,zdn,zdo,zds,zdt,zdu,zdv,zdw,zdx,zdy,ze2,ze3,ze9,zea,zeb,zec,zeq,zer,zes,zet,zez,zf0,zf1,zf2,zf3,zf4,zf5,zf6,zf7,zfa,zfb,zfg,zfh,zfi,zfj,zfl,zfm,zfo,zfp,zfq,zfr,zfs,zft,zfu,zfv,zfw,zfx,zfy,zfz,zg0,zg1,zhb,zhc,zhd,zhe,zhg,zhp,zi8,zi9,zia,zib,zic,ziw]; all_goals tactic => exact rfl)))]
              rw [← h5, e0]
              unfold x66l0
              dsimp only
              have f1 := zf5 (n := (U : Int))
              (sym => (simp [etaM, etaF, z00,z01,z03,z04,z05,z06,z07,z09,z0b,z0c,z0f,z0n,z0t,z0v,z0z,z12,z1j,z1r,z1u,z1z,z20,z21,z26,z29,z2j,z2t,z2u,z2v,z3h,z4l,z4o,z4p,z4q,z4s,z4t,z4u,z4v,z4z,z54,z66,z67,z69,z6a,z6b,z6d,z6e,z6f,z6g,z6k,z6t,z6w,z6y,z78,z7f,z7g,z7h,z7m,z7v,z7z,z85,z8a,z9d,z9e,z9g,z9i,z9j,z9k,z9l,z9m,z9n,z9p,z9r,z9s,z9t,z9v,z9w,z9x,z9y,za0,za1,za2,za3,za5,za6,za7,za8,za9,zaa,zab,zac,zae,zaf,zai,zak,zal,zao,zaq,zas,zat,zau,zb4,zb5,zb9,zba,zbb,zbc,zbd,zbe,zbf,zbg,zbk,zbm,zbp,zbq,zbs,zbt,zbu,zbw,zbx,zby,zbz,zc1,zc3,zc8,zca,zcc,zcd,zce,zcf,zcg,zch,zci,zcj,zcn,zco,zcp,zcq,zcr,zcs,zct,zcu,zcv,zcw,zcy,zd3,zd6,zd7,zdd,zdj,zdk,zdl,zdm,zdn,zdo,zds,zdt,zdu,zdv,zdw,zdx,zdy,ze2,ze3,ze9,zea,zeb,zec,zeq,zer,zes,zet,zez,zf0,zf1,zf2,zf3,zf4,zf5,zf6,zf7,zfa,zfb,zfg,zfh,zfi,zfj,zfl,zfm,zfo,zfp,zfq,zfr,zfs,zft,zfu,zfv,zfw,zfx,zfy,zfz,zg0,zg1,zhb,zhc,zhd,zhe,zhg,zhp,zi8,zi9,zia,zib,zic,ziw, f1, y]; all_goals tactic => exact rfl))
end Go.Proofs.Ytdbikamciedfdaa
namespace Go.Proofs.Ytdbikamciedfdaa
open Go Go.DL
set_option maxRecDepth 100000
set_option maxHeartbeats 1000000

/-- What the program's function returns. -/
def clA : Option (List Int × Int) → AV
  | none => .tup [.fs [], I 0, .bool false]
  | some r => .tup [rI r.1, I r.2, .bool true]
theorem w47 (U : Nat) (l : List Fl) (hU : U < 100000) (hn : l.length < 1000000) (hr : rngL U l) : runW progX 47 [plA U l] [] = some (clA (clF (gI (-1) l l.length) U l U), []) := by
  have c := w66c U l _ _ hU hn (w67 U l (-1) hn hr) (esI_inv hr l.length)
  unfold cl66 at c
  dsimp only at c
  generalize clF (gI (-1) l l.length) U l U = r at *
  cases r with
  | none =>
    simp only [List.cons_append, List.nil_append] at c
    unfold clA
    rw [r47 (by simp)]; unfold x47; dsimp only
    (sym => (simp [etaM, etaF, z00,z01,z02,z05,z06,z07,z09,z0b,z0c,z0f,z0o,z0r,z1j,z1n,z1o,z1r,z1u,z20,z21,z4l,z4m,z4o,z4p,z4q,z4t,z4z,z54,z55,z57,z59,z5e,z66,z67,z69,z6a,z6b,z6e,z6j,z6k,z6p,z6q,z6t,z6u,z6z,z7r,z7s,z7u,z7v,z7w,z81,z8a,z8b,z8d,z8k,z9d,z9e,z9g,z9i,z9j,z9k,z9l,z9m,z9n,z9p,z9r,z9s,z9t,z9v,z9x,z9y,za0,za1,za2,za3,za5,za6,za7,za8,zaa,zab,zac,zae,zaf,zai,zal,zao,zaq,zas,zat,zau,zba,zbc,zbd,zbf,zbg,zbk,zbt,zbu,zbw,zbx,zby,zbz,zc2,zc3,zc4,zc5,zc7,zc8,zcj,zcn,zco,zcp,zcq,zcr,zct,zcu,zcv,zcy,zd3,zdd,zdj,zdo,zds,zdt,zdu,zdv,zdw,zdx,zdy,zdz,ze2,ze3,ze9,zeo,zep,zf6,zf7,zfa,zfb,zfc,zfd,zfg,zfo,zfp,zfq,zfs,zft,zfv,zfw,zfx,zg0,zg1,zij,zik,zin,ziq,zir,zis,zit,ziu,ziv,zj3, c, w36]; all_goals tactic => exact rfl))
  | some r =>
    simp only [List.cons_append, List.nil_append] at c
    unfold clA
    rw [r47 (by simp)]; unfold x47; dsimp only
    (sym => (simp [etaM, etaF, z00,z01,z02,z05,z06,z07,z09,z0b,z0c,z0f,z0o,z0r,z1j,z1n,z1o,z1r,z1u,z20,z21,z4l,z4m,z4o,z4p,z4q,z4t,z4z,z54,z55,z57,z59,z5e,z66,z67,z69,z6a,z6b,z6e,z6j,z6k,z6p,z6q,z6t,z6u,z6z,z7r,z7s,z7u,z7v,z7w,z81,z8a,z8b,z8d,z8k,z9d,z9e,z9g,z9i,z9j,z9k,z9l,z9m,z9n,z9p,z9r,z9s,z9t,z9v,z9x,z9y,za0,za1,za2,za3,za5,za6,za7,za8,zaa,zab,zac,zae,zaf,zai,zal,zao,zaq,zas,zat,zau,zba,zbc,zbd,zbf,zbg,zbk,zbt,zbu,zbw,zbx,zby,zbz,zc2,zc3,zc4,zc5,zc7,zc8,zcj,zcn,zco,zcp,zcq,zcr,zct,zcu,zcv,zcy,zd3,zdd,zdj,zdo,zds,zdt,zdu,zdv,zdw,zdx,zdy,zdz,ze2,ze3,ze9,zeo,zep,zf6,zf7,zfa,zfb,zfc,zfd,zfg,zfo,zfp,zfq,zfs,zft,zfv,zfw,zfx,zg0,zg1,zij,zik,zin,ziq,zir,zis,zit,ziu,ziv,zj3, c, w36]; all_goals tactic => exact rfl))

/-- Excesses depend on the units alone. -/
theorem exI_congr {U : Int} {l : List Fl} (hr : rngL U l) {f f' : Int → Bool} (h : ∀ x, -1 ≤ x → x < U → f x = f' x) (wo : Int) : ∀ i, exI f wo l i = exI f' wo l i
  | 0 => rfl
  | i + 1 => by
    have ih := exI_congr hr h wo i
    cases hx : l[i]? with
    | none => simp [exI, hx, ih]
    | some x =>
      obtain ⟨r1, r2, r3, r4⟩ := hr x (List.mem_of_getElem? hx)
      simp [exI, hx, exStep, ih, h x.fr r1 r2, h x.to r3 r4]
/-- Of a head's side. -/
theorem ex_side {U : Nat} {l : List Fl} (hr : rngL U l) {g : Int → Int} (hg : g (-1) = -1) (i : Nat) : exI (fun x => decide (x ∈ usI g i U)) (-1) l l.length = exI (fun x => decide (g x = i)) (-1) l l.length := by
  apply exI_congr hr
  intro x h1 h2
  simp only [decide_eq_decide, usI_mem]
  constructor
  · exact fun h => h.2.2
  · intro h
    refine ⟨?_, h2, h⟩
    by_cases hx : x = -1
    · rw [hx, hg] at h; omega
    · omega
end Go.Proofs.Ytdbikamciedfdaa
namespace Go.Proofs.Ytdbikamciedfdaa
open Go Go.DL
set_option maxRecDepth 100000
set_option maxHeartbeats 1000000

end Go.Proofs.Ytdbikamciedfdaa
namespace Go.Proofs.Ytdbikamciedfdaa
open Go Go.DL
set_option maxRecDepth 100000
set_option maxHeartbeats 1000000

theorem w39R (u : Int) (l : List Fl) (wo : Int) (g : Nat) (es : List (Int × Int)) (k : Int) (f : Int → Bool) (hn : l.length < 1000000) (hf : ∀ x ∈ l, runW progX g (I x.to :: [.pt 0 0, .pt 2 0]) [some (.blk false (.cells true [.mp 1])), mapB es, some (.blk true (.cells true [I k]))] = some (.bool (f x.to), [some (.blk false (.cells true [.mp 1])), mapB es, some (.blk true (.cells true [I k]))]) ∧ runW progX g (I x.fr :: [.pt 0 0, .pt 2 0]) [some (.blk false (.cells true [.mp 1])), mapB es, some (.blk true (.cells true [I k]))] = some (.bool (f x.fr), [some (.blk false (.cells true [.mp 1])), mapB es, some (.blk true (.cells true [I k]))])) :
    runW progX 39 [plA u l, I wo, .fn (.func g) [] [.pt 0 0, .pt 2 0]] [some (.blk false (.cells true [.mp 1])), mapB es, some (.blk true (.cells true [I k]))] = some (.agg [I (exI f wo l l.length).a, I (exI f wo l l.length).b, I (exI f wo l l.length).c, I (exI f wo l l.length).d], [some (.blk false (.cells true [.mp 1])), mapB es, some (.blk true (.cells true [I k]))]) := by
  rw [r39 (by simp)]; unfold x39; dsimp only
  have g0 := pad
  have g1 := pad
  have g2 := pad
  have g3 := pad
  have g4 := pad
  have g5 := pad
  have g6 := pad
  have k1 := pad
  have k2 := pad
  sym =>
    simp [etaM, etaF, z00,z01,z02,z03,z04,z05,z06,z07,z09,z0a,z0b,z0c,z0f,z0h,z0j,z0l,z0n,z0o,z0q,z0r,z0v,z0w,z0z,z12,z15,z1f,z1j,z1k,z1m,z1n,z1o,z1p,z1r,z1u,z1v,z1w,z20,z21,z22,z23,z24,z26,z29,z2b,z2g,z2h,z2j,z2t,z2v,z33,z34,z3h,z4l,z4o,z4q,z4t,z4u,z4y,z54,z55,z57,z59,z66,z67,z69,z6b,z6e,z6f,z6j,z6p,z6s,z7r,z7u,z7w,z84,z8d,z9d,z9e,z9g,z9i,z9j,z9k,z9l,z9m,z9n,z9p,z9r,z9s,z9t,z9v,z9w,z9x,z9y,za0,za1,za2,za3,za5,za6,za7,za8,za9,zaa,zab,zac,zae,zaf,zag,zak,zal,zam,zaq,zas,zat,zau,zav,zaw,zax,zaz,zb1,zb2,zb3,zba,zbc,zbd,zbf,zbg,zbk,zbt,zbu,zbw,zbx,zby,zbz,zc0,zc3,zc4,zc5,zc7,zc8,zca,zcc,zcd,zce,zcf,zcg,zch,zcj,zcn,zco,zcp,zcq,zcr,zcs,zct,zcu,zcv,zcw,zcx,zcy,zd3,zd6,zd7,zd8,zd9,zdb,zdd,zdj,zdk,zdl,zdm,zdn,zdo,zds,zdt,zdu,zdv,zdw,zdx,zdy,zdz,ze2,ze3,ze9,zeo,zep,zf5,zf6,zf7,zf8,zf9,zfa,zfb,zfc,zfd,zfg,zfm,zfo,zfp,zfq,zfr,zfs,zft,zfu,zfw,zfy,zfz,zg0,zg1]
    tactic =>
      unfold x39l0
      rw [loop_rule l.length (fun i => [I wo, .fn (.func g) [] [.pt 0 0, .pt 2 0], .pt 3 0, .pt 4 0, .fs (l.map Fl.row), I l.length, I (i : Nat)]) (fun i => [some (.blk false (.cells true [.mp 1])), mapB es, some (.blk true (.cells true [I k]))] ++ [some (.blk true (.cells true [I 0, I 0, I 0, I 0])), some (.blk true (.cells true [I (exI f wo l i).a, I (exI f wo l i).b, I (exI f wo l i).c, I (exI f wo l i).d]))])]
      case' hs =>
        intro i hi
        obtain ⟨x, g0⟩ := at_ix hi
        have g1 := up_ix hi (by omega)
        have g2 := lt_ix hi
        obtain ⟨k1, k2⟩ := hf x (List.mem_of_getElem? g0)
        have e3 : exI f wo l (i + 1) = exStep f wo i x (exI f wo l i) := by simp [exI, g0]
        simp only [e3, exStep]
        rcases ptf ((i : Int) = wo) with g3 | g3 <;> cases g4 : x.me <;> cases g5 : f x.to <;> cases g6 : f x.fr
      all_goals (sym => (simp [etaM, etaF, z00,z01,z02,z03,z04,z05,z06,z07,z09,z0a,z0b,z0c,z0f,z0h,z0j,z0l,z0n,z0o,z0q,z0r,z0v,z0w,z0z,z12,z15,z1f,z1j,z1k,z1m,z1n,z1o,z1p,z1r,z1u,z1v,z1w,z20,z21,z22,z23,z24,z26,z29,z2b,z2g,z2h,z2j,z2t,z2v,z33,z34,z3h,z4l,z4o,z4q,z4t,z4u,z4y,z54,z55,z57,z59,z66,z67,z69,z6b,z6e,z6f,z6j,z6p,z6s,z7r,z7u,z7w,z84,z8d,z9d,z9e,z9g,z9i,z9j,z9k,z9l,z9m,z9n,z9p,z9r,z9s,z9t,z9v,z9w,z9x,z9y,za0,za1,za2,za3,za5,za6,za7,za8,za9,zaa,zab,zac,zae,zaf,zag,zak,zal,zam,zaq,zas,zat,zau,zav,zaw,zax,zaz,zb1,zb2,zb3,zba,zbc,zbd,zbf,zbg,zbk,zbt,zbu,zbw,zbx,zby,zbz,zc0,zc3,zc4,zc5,zc7,zc8,zca,zcc,zcd,zce,zcf,zcg,zch,zcj,zcn,zco,zcp,zcq,zcr,zcs,zct,zcu,zcv,zcw,zcx,zcy,zd3,zd6,zd7,zd8,zd9,zdb,zdd,zdj,zdk,zdl,zdm,zdn,zdo,zds,zdt,zdu,zdv,zdw,zdx,zdy,zdz,ze2,ze3,ze9,zeo,zep,zf5,zf6,zf7,zf8,zf9,zfa,zfb,zfc,zfd,zfg,zfm,zfo,zfp,zfq,zfr,zfs,zft,zfu,zfw,zfy,zfz,zg0,zg1, k1, k2, g0, g1, g2, g3, g4, g5, g6, w61]; all_goals tactic => exact rfl))

theorem w71 {U : Int} {es : List (Int × Int)} {g : Int → Int} (hi : InvG U es g) (k : Int) {x : Int} (h1 : -1 ≤ x) (h2 : x < U) : runW progX 71 [I x, .pt 0 0, .pt 2 0] [some (.blk false (.cells true [.mp 1])), mapB es, some (.blk true (.cells true [I k]))] = some (.bool (decide (g x = k)), [some (.blk false (.cells true [.mp 1])), mapB es, some (.blk true (.cells true [I k]))]) := by
  have e := w57h hi h1 h2
  rw [r71 (by simp)]; unfold x71; dsimp only
  (sym => (simp [etaM, etaF, z00,z01,z03,z04,z05,z06,z07,z0a,z0b,z0c,z0n,z0v,z1k,z1m,z1p,z1v,z1w,z20,z21,z2t,z4l,z4m,z4u,z66,z67,z6f,z6p,z6q,z6y,z7r,z7s,z7z,z9d,z9e,z9g,z9i,z9l,z9m,z9n,z9p,z9r,z9t,z9v,z9w,z9y,za0,za1,za2,za3,za5,za6,za7,za8,zaa,zab,zac,zae,zaf,zag,zak,zal,zam,zaq,zas,zat,zau,zav,zaw,zax,zaz,zba,zbc,zbd,zbe,zbf,zbg,zbj,zbt,zbu,zbw,zbx,zby,zbz,zc0,zc3,zc4,zc5,zc6,zc8,zcj,zcn,zco,zcq,zcr,zcs,zct,zcu,zcv,zd3,zd6,zd7,zd8,zd9,zdj,zdm,zdn,zdo,zds,zdt,zdu,zdv,zdy,zdz,ze2,ze3,zf6,zf7,zfb,zfm,zfo,zfp,zft,zg0,zg1, e]; all_goals tactic => exact rfl))
theorem w72 {U : Int} {es : List (Int × Int)} {g : Int → Int} (hi : InvG U es g) (k : Int) {x : Int} (h1 : -1 ≤ x) (h2 : x < U) : runW progX 72 [I x, .pt 0 0, .pt 2 0] [some (.blk false (.cells true [.mp 1])), mapB es, some (.blk true (.cells true [I k]))] = some (.bool (decide (g x = k)), [some (.blk false (.cells true [.mp 1])), mapB es, some (.blk true (.cells true [I k]))]) := by
  have e := w57h hi h1 h2
  rw [r72 (by simp)]; unfold x72; dsimp only
  (sym => (simp [etaM, etaF, z00,z01,z03,z04,z05,z06,z07,z0a,z0b,z0c,z0n,z0v,z1k,z1m,z1p,z1v,z1w,z20,z21,z2t,z4l,z4m,z4u,z66,z67,z6f,z6p,z6q,z6y,z7r,z7s,z7z,z9d,z9e,z9g,z9i,z9l,z9m,z9n,z9p,z9r,z9t,z9v,z9w,z9y,za0,za1,za2,za3,za5,za6,za7,za8,zaa,zab,zac,zae,zaf,zag,zak,zal,zam,zaq,zas,zat,zau,zav,zaw,zax,zaz,zba,zbc,zbd,zbe,zbf,zbg,zbj,zbt,zbu,zbw,zbx,zby,zbz,zc0,zc3,zc4,zc5,zc6,zc8,zcj,zcn,zco,zcq,zcr,zcs,zct,zcu,zcv,zd3,zd6,zd7,zd8,zd9,zdj,zdm,zdn,zdo,zds,zdt,zdu,zdv,zdy,zdz,ze2,ze3,zf6,zf7,zfb,zfm,zfo,zfp,zft,zg0,zg1, e]; all_goals tactic => exact rfl))

/-- The side of a head, without a flow. -/
def sideX (l : List Fl) (i : Nat) (k : Int) : Ms := exI (fun x => decide (gI i l l.length x = k)) i l l.length
/-- What is found of a flow. -/
def foundP (l : List Fl) (i : Nat) (x : Fl) : Option Ms := if gI i l l.length x.fr = gI i l l.length x.to then none else if gI i l l.length x.fr = -1 then some (Ms.zero.plus (-1) (sideX l i (gI i l l.length x.to))) else some (sideX l i (gI i l l.length x.fr))
def fdA : Option Ms → AV
  | none => .tup [msA Ms.zero, .bool false]
  | some m => .tup [msA m, .bool true]
theorem w48 (U : Int) (l : List Fl) (i : Nat) (x : Fl) (hn : l.length < 1000000) (hr : rngL U l) (hx : l[i]? = some x) : runW progX 48 [plA U l, I i] [] = some (fdA (foundP l i x), []) := by
  have hi := esI_inv hr (wo := i) l.length
  have e67 := w67 U l i hn hr
  obtain ⟨r1, r2, r3, r4⟩ := hr x (List.mem_of_getElem? hx)
  have e1 := w57h hi r1 r2
  have e2 := w57h hi r3 r4
  have hlt : i < l.length := by
    rw [List.getElem?_eq_some_iff] at hx
    exact hx.1
  have g2 := lt_ix hlt
  have ea : ∀ k, runW progX 39 [plA U l, I i, .fn (.func 71) [] [.pt 0 0, .pt 2 0]] [some (.blk false (.cells true [.mp 1])), mapB (esI i l l.length), some (.blk true (.cells true [I k]))] = some (msA (sideX l i k), [some (.blk false (.cells true [.mp 1])), mapB (esI i l l.length), some (.blk true (.cells true [I k]))]) := fun k =>
    w39R U l i 71 _ k _ hn fun y hy => by
      obtain ⟨s1, s2, s3, s4⟩ := hr y hy
      exact ⟨w71 hi k s3 s4, w71 hi k s1 s2⟩
  have eb : ∀ k, runW progX 39 [plA U l, I i, .fn (.func 72) [] [.pt 0 0, .pt 2 0]] [some (.blk false (.cells true [.mp 1])), mapB (esI i l l.length), some (.blk true (.cells true [I k]))] = some (msA (sideX l i k), [some (.blk false (.cells true [.mp 1])), mapB (esI i l l.length), some (.blk true (.cells true [I k]))]) := fun k =>
    w39R U l i 72 _ k _ hn fun y hy => by
      obtain ⟨s1, s2, s3, s4⟩ := hr y hy
      exact ⟨w72 hi k s3 s4, w72 hi k s1 s2⟩
  unfold foundP
  generalize gI i l l.length = g at *
  generalize esI i l l.length = es at *
  by_cases h1 : g x.fr = g x.to
  · have h3 := eq_true h1
    rw [if_pos h1]
    unfold fdA
    rw [r48 (by simp)]; unfold x48; dsimp only
    (sym => (simp [etaM, etaF, z00,z01,z02,z03,z04,z05,z06,z07,z09,z0a,z0b,z0c,z0f,z0n,z0o,z0p,z0r,z0s,z0v,z12,z15,z1j,z1k,z1l,z1m,z1n,z1o,z1p,z1q,z1r,z1u,z1v,z1w,z20,z21,z29,z2g,z2h,z2t,z2u,z33,z34,z4f,z4l,z4m,z4o,z4p,z4q,z4t,z4u,z4y,z54,z55,z57,z59,z5d,z5g,z66,z67,z69,z6a,z6b,z6e,z6f,z6j,z6p,z6q,z6s,z6t,z6y,z7r,z7s,z7u,z7v,z7w,z8a,z8d,z8j,z91,z9d,z9e,z9g,z9i,z9j,z9k,z9l,z9m,z9n,z9p,z9r,z9s,z9t,z9v,z9x,z9y,za0,za1,za2,za3,za5,za6,za7,za8,zaa,zab,zac,zae,zaf,zag,zal,zam,zaq,zas,zat,zau,zav,zaw,zax,zaz,zba,zbc,zbd,zbf,zbg,zbj,zbk,zbt,zbu,zbw,zbx,zby,zbz,zc2,zc3,zc4,zc5,zc6,zc7,zc8,zce,zcf,zcg,zcj,zcn,zco,zcp,zcq,zcr,zct,zcu,zcv,zcw,zcx,zcy,zd3,zd5,zd6,zd7,zd8,zd9,zdd,zdj,zdk,zdl,zdm,zdn,zdo,zds,zdt,zdu,zdv,zdw,zdx,zdy,zdz,ze2,ze3,ze9,zea,zeo,zep,zf6,zf7,zf8,zf9,zfa,zfb,zfc,zfd,zfg,zfm,zfo,zfp,zfq,zfs,zft,zfv,zfw,zfx,zg0,zg1,zj8, e67, e1, e2, ea, eb, hx, g2, h3]; all_goals tactic => exact rfl))
  · have h3 := eq_false h1
    rw [if_neg h1]
    by_cases h2 : g x.fr = -1
    · have h4 := eq_true h2
      rw [if_pos h2]
      rw [h2] at e1 h3
      unfold fdA
      rw [r48 (by simp)]; unfold x48; dsimp only
      (sym => (simp [etaM, etaF, z00,z01,z02,z03,z04,z05,z06,z07,z09,z0a,z0b,z0c,z0f,z0n,z0o,z0p,z0r,z0s,z0v,z12,z15,z1j,z1k,z1l,z1m,z1n,z1o,z1p,z1q,z1r,z1u,z1v,z1w,z20,z21,z29,z2g,z2h,z2t,z2u,z33,z34,z4f,z4l,z4m,z4o,z4p,z4q,z4t,z4u,z4y,z54,z55,z57,z59,z5d,z5g,z66,z67,z69,z6a,z6b,z6e,z6f,z6j,z6p,z6q,z6s,z6t,z6y,z7r,z7s,z7u,z7v,z7w,z8a,z8d,z8j,z91,z9d,z9e,z9g,z9i,z9j,z9k,z9l,z9m,z9n,z9p,z9r,z9s,z9t,z9v,z9x,z9y,za0,za1,za2,za3,za5,za6,za7,za8,zaa,zab,zac,zae,zaf,zag,zal,zam,zaq,zas,zat,zau,zav,zaw,zax,zaz,zba,zbc,zbd,zbf,zbg,zbj,zbk,zbt,zbu,zbw,zbx,zby,zbz,zc2,zc3,zc4,zc5,zc6,zc7,zc8,zce,zcf,zcg,zcj,zcn,zco,zcp,zcq,zcr,zct,zcu,zcv,zcw,zcx,zcy,zd3,zd5,zd6,zd7,zd8,zd9,zdd,zdj,zdk,zdl,zdm,zdn,zdo,zds,zdt,zdu,zdv,zdw,zdx,zdy,zdz,ze2,ze3,ze9,zea,zeo,zep,zf6,zf7,zf8,zf9,zfa,zfb,zfc,zfd,zfg,zfm,zfo,zfp,zfq,zfs,zft,zfv,zfw,zfx,zg0,zg1,zj8, e67, e1, e2, ea, eb, hx, g2, h3, h4, w61]; all_goals tactic => exact rfl))
    · have h4 := eq_false h2
      rw [if_neg h2]
      unfold fdA
      rw [r48 (by simp)]; unfold x48; dsimp only
      (sym => (simp [etaM, etaF, z00,z01,z02,z03,z04,z05,z06,z07,z09,z0a,z0b,z0c,z0f,z0n,z0o,z0p,z0r,z0s,z0v,z12,z15,z1j,z1k,z1l,z1m,z1n,z1o,z1p,z1q,z1r,z1u,z1v,z1w,z20,z21,z29,z2g,z2h,z2t,z2u,z33,z34,z4f,z4l,z4m,z4o,z4p,z4q,z4t,z4u,z4y,z54,z55,z57,z59,z5d,z5g,z66,z67,z69,z6a,z6b,z6e,z6f,z6j,z6p,z6q,z6s,z6t,z6y,z7r,z7s,z7u,z7v,z7w,z8a,z8d,z8j,z91,z9d,z9e,z9g,z9i,z9j,z9k,z9l,z9m,z9n,z9p,z9r,z9s,z9t,z9v,z9x,z9y,za0,za1,za2,za3,za5,za6,za7,za8,zaa,zab,zac,zae,zaf,zag,zal,zam,zaq,zas,zat,zau,zav,zaw,zax,zaz,zba,zbc,zbd,zbf,zbg,zbj,zbk,zbt,zbu,zbw,zbx,zby,zbz,zc2,zc3,zc4,zc5,zc6,zc7,zc8,zce,zcf,zcg,zcj,zcn,zco,zcp,zcq,zcr,zct,zcu,zcv,zcw,zcx,zcy,zd3,zd5,zd6,zd7,zd8,zd9,zdd,zdj,zdk,zdl,zdm,zdn,zdo,zds,zdt,zdu,zdv,zdw,zdx,zdy,zdz,ze2,ze3,ze9,zea,zeo,zep,zf6,zf7,zf8,zf9,zfa,zfb,zfc,zfd,zfg,zfm,zfo,zfp,zfq,zfs,zft,zfv,zfw,zfx,zg0,zg1,zj8, e67, e1, e2, ea, eb, hx, g2, h3, h4, w61]; all_goals tactic => exact rfl))
end Go.Proofs.Ytdbikamciedfdaa
namespace Go.Proofs.Ytdbikamciedfdaa
open Go Go.DL
set_option maxRecDepth 100000
set_option maxHeartbeats 1000000

/-- What is known of a flow. -/
structure Kn where
  s : Int
  m : Ms
deriving DecidableEq
abbrev Kn.row (x : Kn) : List AV := [I x.s, I x.m.a, I x.m.b, I x.m.c, I x.m.d]
def knF (x : Fl) : Option Ms → Kn
  | none => if x.me then ⟨1, x.m⟩ else ⟨3, Ms.zero⟩
  | some m => if x.me then ⟨1, x.m⟩ else ⟨2, m⟩
def knAt (l : List Fl) (i : Nat) (x : Fl) : Kn := knF x (foundP l i x)
def knT (l : List Fl) : Nat → List Kn
  | 0 => []
  | i + 1 => match l[i]? with
    | some x => knT l i ++ [knAt l i x]
    | none => knT l i
theorem knT_len {l : List Fl} : ∀ i, i ≤ l.length → (knT l i).length = i
  | 0, _ => rfl
  | i + 1, h => by
    rw [knT, List.getElem?_eq_getElem (show i < l.length by omega)]
    simp only [List.length_append, knT_len (l := l) i (by omega), List.length_cons, List.length_nil]
theorem kn_ok (k : List Kn) : RowsOk 5 (k.map Kn.row) := by
  intro r hr
  simp only [List.mem_map] at hr
  obtain ⟨x, _, rfl⟩ := hr
  exact ⟨rfl, rfl, rfl, rfl⟩
def knC (l : List Fl) (i : Nat) : List AV := ((knT l i).map Kn.row).flatten
theorem knC_gr (l : List Fl) (i : Nat) : grL (knC l i) = true := (rows_cells (kn_ok _)).1
theorem knC_nm (l : List Fl) (i : Nat) : nmL (knC l i) = [] := (rows_cells (kn_ok _)).2.1
theorem knC_sl (l : List Fl) (i : Nat) : slL (knC l i) = [] := (rows_cells (kn_ok _)).2.2.1
theorem knC_len {l : List Fl} {i : Nat} (h : i ≤ l.length) : (knC l i).length = i * 5 := by
  rw [knC, (rows_cells (kn_ok _)).2.2.2, List.length_map, knT_len i h]
theorem knC_0 (l : List Fl) : knC l 0 = [] := rfl
theorem knC_succ {l : List Fl} {i : Nat} {x : Fl} (h : l[i]? = some x) : knC l (i + 1) = knC l i ++ (knAt l i x).row := by
  simp [knC, knT, h]
theorem knC_ch (l : List Fl) : chunks (knC l l.length) 0 5 l.length = (knT l l.length).map Kn.row := by
  have := rows_chunks (kn_ok (knT l l.length))
  rw [List.length_map, knT_len _ (Nat.le_refl _)] at this
  exact this

/-- The error of what is known. -/
def clE (U : Nat) (l : List Fl) : Int := if checkP U l = 0 then match clF (gI (-1) l l.length) U l U with
  | some _ => 12
  | none => 0
  else checkP U l
abbrev rK (k : List Kn) : AV := .fs (k.map Kn.row)
def knR (U : Nat) (l : List Fl) : Option (AV × XH) := if clE U l = 0 then some (.tup [rK (knT l l.length), I 0], []) else some (.tup [.fs [], I (clE U l)], [])
theorem w23 (U : Nat) (l : List Fl) (hn : l.length < 1000000) : runW progX 23 [plA U l] [] = knR U l := by
  have c := w20 U l hn
  by_cases h : checkP U l = 0
  · obtain ⟨u1, u2, u3, u4⟩ := checkP_u h
    have hr := rngL_of h
    have e47 := w47 U l (by omega) hn hr
    have gc := eq_true h
    cases hc : clF (gI (-1) l l.length) U l U with
    | some r =>
      have he : clE U l = 12 := by rw [clE, if_pos h, hc]
      rw [hc] at e47
      unfold clA at e47
      rw [knR, if_neg (by rw [he]; decide), he]
      rw [r23 (by simp)]; unfold x23; dsimp only
      (sym => (simp [etaM, etaF, z00,z01,z02,z03,z04,z05,z06,z07,z09,z0b,z0c,z0f,z0n,z0o,z0r,z0s,z0t,z0v,z0z,z12,z15,z1e,z1f,z1j,z1n,z1o,z1r,z1u,z1z,z20,z21,z26,z29,z2b,z2g,z2h,z2i,z2j,z2u,z2v,z33,z34,z36,z3g,z3h,z3j,z4f,z4l,z4o,z4p,z4q,z4s,z4t,z4v,z54,z55,z57,z59,z66,z67,z69,z6a,z6b,z6d,z6e,z6g,z6p,z6t,z6w,z6z,z78,z7c,z7f,z7r,z7u,z7v,z7w,z81,z8a,z8d,z9d,z9e,z9g,z9i,z9j,z9k,z9l,z9m,z9n,z9p,z9r,z9s,z9v,z9w,z9y,za0,za1,za2,za3,za5,za6,za7,za8,za9,zaa,zab,zae,zaf,zal,zaq,zas,zat,zb4,zb5,zb9,zba,zbb,zbc,zbd,zbf,zbg,zbk,zbm,zbp,zbt,zbu,zbw,zbx,zby,zbz,zc2,zc3,zc4,zc5,zc6,zc8,zca,zcc,zcd,zce,zcf,zcg,zch,zcj,zcn,zco,zcp,zcq,zcr,zct,zcu,zcv,zcw,zcx,zcy,zd3,zd6,zd7,zdd,zdj,zdk,zdl,zdm,zdn,zdo,zds,zdt,zdu,zdv,zdw,zdx,zdy,zdz,ze0,ze1,ze2,ze3,ze9,zea,zeb,zec,zeo,zep,zeq,zer,zes,zet,zez,zf0,zf1,zf2,zf3,zf4,zf5,zf6,zf7,zf8,zf9,zfa,zfb,zfc,zfd,zfg,zfh,zfi,zfj,zfl,zfm,zfo,zfp,zfq,zfr,zfs,zft,zfu,zfv,zfw,zfy,zfz,zg0,zg1,zhe,zhf,zhg,zhp,zii, c, gc, e47]; all_goals tactic => exact rfl))
    | none =>
      have he : clE U l = 0 := by rw [clE, if_pos h, hc]
      rw [hc] at e47
      unfold clA at e47
      rw [knR, if_pos he]
      have rd : ∀ i, i < l.length → ∃ x, l[i]? = some x ∧ IntKind.i64.wrap ((i : Int) + 1) = (i : Int) + 1 ∧ ((i : Int) < (l.length : Int)) = True ∧ (knC l i).length = i * 5 ∧ knC l (i + 1) = knC l i ++ (knF x (foundP l i x)).row ∧ ((i + 1) * 40 ≤ 1099511627776) = True ∧ (i + 1 ≤ 1099511627776) = True ∧ runW progX 48 [plA U l, I i] [] = some (fdA (foundP l i x), []) := by
        intro i hi
        obtain ⟨x, hx⟩ := at_ix hi
        exact ⟨x, hx, up_ix hi (by omega), lt_ix hi, knC_len (by omega), knC_succ hx, eq_true (by omega), eq_true (by omega), w48 U l i x hn hr hx⟩
      have g0 := pad
      have g1 := pad
      have g2 := pad
      have g3 := pad
      have g4 := pad
      have g5 := pad
      have g6 := pad
      have g7 := pad
      have g8 := pad
      have g9 := pad
      have en : l.length = 0 → knT l l.length = [] := fun h => by rw [h]; rfl
      have lz : (l.length = 0) = True ∨ (l.length = 0) = False := ptf _
      have el := knC_len (l := l) (Nat.le_refl l.length)
      have ec := knC_ch l
      rw [r23 (by simp)]; unfold x23; dsimp only
      sym =>
        simp [etaM, etaF, z00,z01,z02,z03,z04,z05,z06,z07,z09,z0b,z0c,z0f,z0n,z0o,z0r,z0s,z0t,z0v,z0z,z12,z15,z1e,z1f,z1j,z1n,z1o,z1r,z1u,z1z,z20,z21,z26,z29,z2b,z2g,z2h,z2i,z2j,z2u,z2v,z33,z34,z36,z3g,z3h,z3j,z4f,z4l,z4o,z4p,z4q,z4s,z4t,z4v,z54,z55,z57,z59,z66,z67,z69,z6a,z6b,z6d,z6e,z6g,z6p,z6t,z6w,z6z,z78,z7c,z7f,z7r,z7u,z7v,z7w,z81,z8a,z8d,z9d,z9e,z9g,z9i,z9j,z9k,z9l,z9m,z9n,z9p,z9r,z9s,z9v,z9w,z9y,za0,za1,za2,za3,za5,za6,za7,za8,za9,zaa,zab,zae,zaf,zal,zaq,zas,zat,zb4,zb5,zb9,zba,zbb,zbc,zbd,zbf,zbg,zbk,zbm,zbp,zbt,zbu,zbw,zbx,zby,zbz,zc2,zc3,zc4,zc5,zc6,zc8,zca,zcc,zcd,zce,zcf,zcg,zch,zcj,zcn,zco,zcp,zcq,zcr,zct,zcu,zcv,zcw,zcx,zcy,zd3,zd6,zd7,zdd,zdj,zdk,zdl,zdm,zdn,zdo,zds,zdt,zdu,zdv,zdw,zdx,zdy,zdz,ze0,ze1,ze2,ze3,ze9,zea,zeb,zec,zeo,zep,zeq,zer,zes,zet,zez,zf0,zf1,zf2,zf3,zf4,zf5,zf6,zf7,zf8,zf9,zfa,zfb,zfc,zfd,zfg,zfh,zfi,zfj,zfl,zfm,zfo,zfp,zfq,zfr,zfs,zft,zfu,zfv,zfw,zfy,zfz,zg0,zg1,zhe,zhf,zhg,zhp,zii, c, gc, e47]
        tactic =>
          unfold x23l0
          rw [loop_rule l.length (fun i => [.pt 0 0, if i = 0 then .nilsl else .sl 1 0 5 i, .fs (l.map Fl.row), I l.length, I (i : Nat)]) (fun i => if i = 0 then [some (.blk true (.cells true [I U, .fs (l.map Fl.row)]))] else
            [some (.blk true (.cells true [I U, .fs (l.map Fl.row)])), some (.blk true (.cells true (knC l i)))])]
          rcases lz with g0 | g0
          have g1 := en (of_eq_true g0)
          case' hl => rcases lz with g0 | g0
          case' hs =>
            intro i hi
            obtain ⟨x, g1, g2, g3, g4, g5, g6, g7, g8⟩ := rd i hi
            generalize foundP l i x = q at *
            rcases ptf (i = 0) with g0 | g0
            have hz := of_eq_true g0
            subst hz
            have g3 : ((0 : Int) < (l.length : Int)) = True := g3
            have g8 : runW progX 48 [plA U l, I 0] [] = some (fdA q, []) := g8
            all_goals rcases q with _ | m
            all_goals unfold fdA at g8
            all_goals unfold knF at g5
            all_goals cases g9 : x.me
            all_goals simp only [g9, if_true, if_false, Bool.false_eq_true] at g5
          all_goals (sym => (simp [etaM, etaF, z00,z01,z02,z03,z04,z05,z06,z07,z09,z0b,z0c,z0f,z0n,z0o,z0r,z0s,z0t,z0v,z0z,z12,z15,z1e,z1f,z1j,z1n,z1o,z1r,z1u,z1z,z20,z21,z26,z29,z2b,z2g,z2h,z2i,z2j,z2u,z2v,z33,z34,z36,z3g,z3h,z3j,z4f,z4l,z4o,z4p,z4q,z4s,z4t,z4v,z54,z55,z57,z59,z66,z67,z69,z6a,z6b,z6d,z6e,z6g,z6p,z6t,z6w,z6z,z78,z7c,z7f,z7r,z7u,z7v,z7w,z81,z8a,z8d,z9d,z9e,z9g,z9i,z9j,z9k,z9l,z9m,z9n,z9p,z9r,z9s,z9v,z9w,z9y,za0,za1,za2,za3,za5,za6,za7,za8,za9,zaa,zab,zae,zaf,zal,zaq,zas,zat,zb4,zb5,zb9,zba,zbb,zbc,zbd,zbf,zbg,zbk,zbm,zbp,zbt,zbu,zbw,zbx,zby,zbz,zc2,zc3,zc4,zc5,zc6,zc8,zca,zcc,zcd,zce,zcf,zcg,zch,zcj,zcn,zco,zcp,zcq,zcr,zct,zcu,zcv,zcw,zcx,zcy,zd3,zd6,zd7,zdd,zdj,zdk,zdl,zdm,zdn,zdo,zds,zdt,zdu,zdv,zdw,zdx,zdy,zdz,ze0,ze1,ze2,ze3,ze9,zea,zeb,zec,zeo,zep,zeq,zer,zes,zet,zez,zf0,zf1,zf2,zf3,zf4,zf5,zf6,zf7,zf8,zf9,zfa,zfb,zfc,zfd,zfg,zfh,zfi,zfj,zfl,zfm,zfo,zfp,zfq,zfr,zfs,zft,zfu,zfv,zfw,zfy,zfz,zg0,zg1,zhe,zhf,zhg,zhp,zii, g0, g1, g2, g3, g4, g5, g6, g7, g8, g9, el, ec, knC_gr, knC_nm, knC_sl, knC_0]; all_goals tactic => exact rfl))
  · have g := eq_false h
    have he : clE U l = checkP U l := by rw [clE, if_neg h]
    rw [knR, if_neg (by rw [he]; exact h), he]
    rw [r23 (by simp)]; unfold x23; dsimp only
    (sym => (simp [etaM, etaF, z00,z01,z02,z03,z04,z05,z06,z07,z09,z0b,z0c,z0f,z0n,z0o,z0r,z0s,z0t,z0v,z0z,z12,z15,z1e,z1f,z1j,z1n,z1o,z1r,z1u,z1z,z20,z21,z26,z29,z2b,z2g,z2h,z2i,z2j,z2u,z2v,z33,z34,z36,z3g,z3h,z3j,z4f,z4l,z4o,z4p,z4q,z4s,z4t,z4v,z54,z55,z57,z59,z66,z67,z69,z6a,z6b,z6d,z6e,z6g,z6p,z6t,z6w,z6z,z78,z7c,z7f,z7r,z7u,z7v,z7w,z81,z8a,z8d,z9d,z9e,z9g,z9i,z9j,z9k,z9l,z9m,z9n,z9p,z9r,z9s,z9v,z9w,z9y,za0,za1,za2,za3,za5,za6,za7,za8,za9,zaa,zab,zae,zaf,zal,zaq,zas,zat,zb4,zb5,zb9,zba,zbb,zbc,zbd,zbf,zbg,zbk,zbm,zbp,zbt,zbu,zbw,zbx,zby,zbz,zc2,zc3,zc4,zc5,zc6,zc8,zca,zcc,zcd,zce,zcf,zcg,zch,zcj,zcn,zco,zcp,zcq,zcr,zct,zcu,zcv,zcw,zcx,zcy,zd3,zd6,zd7,zdd,zdj,zdk,zdl,zdm,zdn,zdo,zds,zdt,zdu,zdv,zdw,zdx,zdy,zdz,ze0,ze1,ze2,ze3,ze9,zea,zeb,zec,zeo,zep,zeq,zer,zes,zet,zez,zf0,zf1,zf2,zf3,zf4,zf5,zf6,zf7,zf8,zf9,zfa,zfb,zfc,zfd,zfg,zfh,zfi,zfj,zfl,zfm,zfo,zfp,zfq,zfr,zfs,zft,zfu,zfv,zfw,zfy,zfz,zg0,zg1,zhe,zhf,zhg,zhp,zii, c, g]; all_goals tactic => exact rfl))
end Go.Proofs.Ytdbikamciedfdaa
namespace Go.Proofs.Ytdbikamciedfdaa
open Go Go.DL
set_option maxRecDepth 100000
set_option maxHeartbeats 1000000

end Go.Proofs.Ytdbikamciedfdaa
namespace Go.Proofs.Ytdbikamciedfdaa
open Go Go.DL
set_option maxRecDepth 100000
set_option maxHeartbeats 1000000

end Go.Proofs.Ytdbikamciedfdaa
namespace Go.Proofs.Ytdbikamciedfdaa
open Go Go.DL
set_option maxRecDepth 100000
set_option maxHeartbeats 1000000

end Go.Proofs.Ytdbikamciedfdaa
namespace Go.Proofs.Ytdbikamciedfdaa
open Go Go.DL
set_option maxRecDepth 100000
set_option maxHeartbeats 1000000

end Go.Proofs.Ytdbikamciedfdaa
namespace Go.Proofs.Ytdbikamciedfdaa
open Go Go.DL
set_option maxRecDepth 100000
set_option maxHeartbeats 1000000

/-- What a flow that is not measured joins. -/
theorem gI_joined {wo : Int} {l : List Fl} {i : Nat} {x : Fl} (hx : l[i]? = some x) (hm : x.me = false) (hw : ¬ (i : Int) = wo) : ∀ n, i < n → gI wo l n x.fr = gI wo l n x.to
  | 0, h => by omega
  | n + 1, h => by
    by_cases hn : i = n
    · subst hn
      simp only [gI, hx, hm, Bool.false_or, decide_eq_false hw]
      generalize gI wo l i x.fr = a
      generalize gI wo l i x.to = b
      simp only [Bool.false_eq_true, if_false]
      unfold mx mn
      (repeat' split) <;> omega
    · have ih := gI_joined hx hm hw n (by omega)
      cases hy : l[n]? with
      | none => simp only [gI, hy]; exact ih
      | some y => simp only [gI, hy, ih]
theorem gI_m1 {U : Nat} {l : List Fl} (h : checkP U l = 0) (wo : Int) (i : Nat) : gI wo l i (-1) = -1 := by
  have := gI_ok h wo i (-1) (by omega) (by omega)
  omega
end Go.Proofs.Ytdbikamciedfdaa
namespace Go.Proofs.Ytdbikamciedfdaa
open Go Go.DL
set_option maxRecDepth 100000
set_option maxHeartbeats 1000000

/-! ### A set that no unmeasured flow leaves -/
def ClosedS (wo : Int) (l : List Fl) (S : Int → Bool) : Prop := ∀ (i : Nat) (x : Fl), l[i]? = some x → x.me = false → ¬ (i : Int) = wo → S x.fr = S x.to
theorem closed_gI {wo : Int} {l : List Fl} {S : Int → Bool} (h : ClosedS wo l S) : ∀ (n : Nat) (x : Int), S (gI wo l n x) = S x
  | 0, x => rfl
  | n + 1, x => by
    cases hy : l[n]? with
    | none => simp only [gI, hy]; exact closed_gI h n x
    | some y =>
      simp only [gI, hy]
      cases hc : y.me || decide ((n : Int) = wo) with
      | true => simp only [if_true]; exact closed_gI h n x
      | false =>
        obtain ⟨h1, h2⟩ := Bool.or_eq_false_iff.1 hc
        have hw : ¬ (n : Int) = wo := of_decide_eq_false h2
        have e := h n y hy h1 hw
        have a := closed_gI h n y.fr
        have b := closed_gI h n y.to
        have c := closed_gI h n x
        simp only [Bool.false_eq_true, if_false]
        by_cases hg : gI wo l n x = mx (gI wo l n y.fr) (gI wo l n y.to)
        · rw [if_pos hg, ← c, hg]
          have : S (mx (gI wo l n y.fr) (gI wo l n y.to)) = S y.fr := by unfold mx; split <;> simp only [a, b, e]
          rw [this]
          unfold mn
          split <;> simp only [a, b, e]
        · rw [if_neg hg, c]
theorem closed_same {wo : Int} {l : List Fl} {S : Int → Bool} (h : ClosedS wo l S) {n : Nat} {x y : Int} (he : gI wo l n x = gI wo l n y) : S x = S y := by
  rw [← closed_gI h n x, he, closed_gI h n y]

/-! ### Rounds -/
section
variable {U : Nat} {l : List Fl} {wo : Int}
end
end Go.Proofs.Ytdbikamciedfdaa
namespace Go.Proofs.Ytdbikamciedfdaa
open Go Go.DL
set_option maxRecDepth 100000
set_option maxHeartbeats 1000000

def cmp (k : Nat) (m : Ms) : Int := match k with
  | 0 => m.a
  | 1 => m.b
  | 2 => m.c
  | _ => m.d
theorem ms_ext {m n : Ms} (h : ∀ k, cmp k m = cmp k n) : m = n := by
  obtain ⟨a, b, c, d⟩ := m
  obtain ⟨a', b', c', d'⟩ := n
  have h0 := h 0
  have h1 := h 1
  have h2 := h 2
  have h3 := h 3
  simp only [cmp] at h0 h1 h2 h3
  rw [h0, h1, h2, h3]
def bi (b : Bool) : Int := if b then 1 else 0
/-- What flows bring to a set, of a kind: exactly. -/
def linI (f : Int → Bool) (wo : Int) (l : List Fl) (k : Nat) : Nat → Int
  | 0 => 0
  | i + 1 => linI f wo l k i + match l[i]? with
    | some x => if x.me && !decide ((i : Int) = wo) then (bi (f x.to) - bi (f x.fr)) * cmp k x.m else 0
    | none => 0
/-- Measured masses are as they may be. -/
def boundL (l : List Fl) : Prop := ∀ x ∈ l, x.me = true → ∀ k, -1000000000 ≤ cmp k x.m ∧ cmp k x.m ≤ 1000000000
theorem boundL_of {U : Int} {l : List Fl} (h : checkP U l = 0) : boundL l := by
  obtain ⟨u1, u2, u3, u4⟩ := checkP_u h
  have key : ∀ l : List Fl, firstE U l = 0 → ∀ x ∈ l, chkF U x = 0 := by
    intro l
    induction l with
    | nil => intro _ x hx; simp at hx
    | cons a r ih =>
      intro h x hx
      rw [firstE] at h
      by_cases ha : chkF U a = 0
      · rw [if_pos ha] at h
        rcases List.mem_cons.1 hx with hx | hx
        · rw [hx]; exact ha
        · exact ih h x hx
      · rw [if_neg ha] at h
        exact absurd h ha
  intro x hx hme k
  have hc := key l u4 x hx
  unfold chkF at hc
  rw [hme] at hc
  have hw : x.m.within 0 1000000000 = true := by
    cases hw : x.m.within 0 1000000000 with
    | true => rfl
    | false =>
      rw [hw] at hc
      split at hc
      · split at hc <;> simp at hc
      · simp at hc
  simp only [Ms.within, btw, Bool.and_eq_true, decide_eq_true_eq] at hw
  unfold cmp
  split <;> omega
theorem lin_bound {f : Int → Bool} {wo : Int} {l : List Fl} (hb : boundL l) (k : Nat) : ∀ n : Nat, -(1000000000 * (n : Int)) ≤ linI f wo l k n ∧ linI f wo l k n ≤ 1000000000 * (n : Int)
  | 0 => by simp [linI]
  | n + 1 => by
    have ih := lin_bound (f := f) (wo := wo) hb k n
    rw [linI]
    cases hx : l[n]? with
    | none => simp only []; omega
    | some x =>
      simp only []
      split
      · rename_i hc
        simp only [Bool.and_eq_true] at hc
        have := hb x (List.mem_of_getElem? hx) hc.1 k
        unfold bi
        split <;> split <;> simp only [Int.sub_self, Int.zero_mul, Int.sub_zero, Int.one_mul, Int.zero_sub] <;> omega
      · omega
theorem cmp_plus (k : Nat) (t : Int) (s m : Ms) : cmp k (s.plus t m) = wr (cmp k s + wr (t * cmp k m)) := by
  unfold cmp Ms.plus
  split <;> rfl
theorem ex_lin {f : Int → Bool} {wo : Int} {l : List Fl} (hb : boundL l) (k : Nat) : ∀ n : Nat, n ≤ 1000000 → cmp k (exI f wo l n) = linI f wo l k n
  | 0, _ => by unfold cmp; split <;> rfl
  | n + 1, h => by
    have ih := ex_lin (f := f) (wo := wo) hb k n (by omega)
    have bd := lin_bound (f := f) (wo := wo) hb k n
    rw [exI, linI]
    cases hx : l[n]? with
    | none => simp only []; rw [ih]; omega
    | some x =>
      simp only [exStep]
      cases hme : x.me with
      | false => simp [ih]
      | true =>
        have hm := hb x (List.mem_of_getElem? hx) hme k
        by_cases hw : (n : Int) = wo
        · simp [hw, ih]
        · simp only [Bool.not_true, Bool.false_or, decide_eq_false hw, Bool.true_and, Bool.not_false, if_true]
          cases h1 : f x.to <;> cases h2 : f x.fr
          · simp [bi, ih]
          · simp only [beq_iff_eq, Bool.false_eq_true, if_false, cmp_plus, ih, bi]
            rw [show wr (-1 * cmp k x.m) = -1 * cmp k x.m from wrap_ok (by omega) (by omega)]
            rw [show wr (linI f wo l k n + -1 * cmp k x.m) = linI f wo l k n + -1 * cmp k x.m from wrap_ok (by omega) (by omega)]
            simp
          · simp only [beq_iff_eq, Bool.true_eq_false, if_false, if_true, cmp_plus, ih, bi]
            rw [show wr (1 * cmp k x.m) = cmp k x.m from by rw [Int.one_mul]; exact wrap_ok (by omega) (by omega)]
            rw [show wr (linI f wo l k n + cmp k x.m) = linI f wo l k n + cmp k x.m from wrap_ok (by omega) (by omega)]
            simp
          · simp [bi, ih]
/-- Sums of sets. -/
theorem lin_add {U : Int} {l : List Fl} (hr : rngL U l) {f g h : Int → Bool} (wo : Int) (k : Nat) (e : ∀ x, -1 ≤ x → x < U → bi (f x) = bi (g x) + bi (h x)) : ∀ n, linI f wo l k n = linI g wo l k n + linI h wo l k n
  | 0 => rfl
  | n + 1 => by
    have ih := lin_add hr wo k e n
    simp only [linI]
    cases hx : l[n]? with
    | none => simp only []; omega
    | some x =>
      obtain ⟨r1, r2, r3, r4⟩ := hr x (List.mem_of_getElem? hx)
      simp only []
      split
      · rw [e _ r1 r2, e _ r3 r4, ih, Int.sub_mul, Int.add_mul, Int.add_mul, Int.sub_mul, Int.sub_mul]
        omega
      · omega
theorem lin_zero {U : Int} {l : List Fl} (hr : rngL U l) {f : Int → Bool} (wo : Int) (k : Nat) (e : ∀ x, -1 ≤ x → x < U → f x = false) (n : Nat) : linI f wo l k n = 0 := by
  have := lin_add hr (f := f) (g := f) (h := f) wo k (fun x h1 h2 => by rw [e x h1 h2]; rfl) n
  omega
theorem lin_skip {f : Int → Bool} {l : List Fl} {i : Nat} {x : Fl} (hx : l[i]? = some x) (hm : x.me = false) (k : Nat) : ∀ n, linI f (-1) l k n = linI f i l k n
  | 0 => rfl
  | n + 1 => by
    have ih := lin_skip (f := f) hx hm k n
    simp only [linI, ih]
    cases hy : l[n]? with
    | none => rfl
    | some y =>
      have h1 : ¬ ((n : Int) = -1) := by omega
      by_cases hn : n = i
      · subst hn
        rw [hx] at hy
        simp only [Option.some.injEq] at hy
        subst hy
        simp [hm]
      · have h2 : ¬ ((n : Int) = (i : Int)) := by omega
        simp [h1, h2]

section
variable {U : Nat} {l : List Fl}
/-- No part has an excess. -/
def NoClash (U : Nat) (l : List Fl) : Prop := clF (gI (-1) l l.length) U l U = none
theorem noClash_head (h : checkP U l = 0) (hc : NoClash U l) {u : Int} (h1 : 0 ≤ u) (h2 : u < U) (hg : gI (-1) l l.length u = u) (k : Nat) : linI (fun x => decide (gI (-1) l l.length x = u)) (-1) l k l.length = 0 := by
  have hr := rngL_of h
  obtain ⟨n, hn1, hn2, hn3⟩ := cl_ix (gI (-1) l l.length) U l
  have hnU : n = U := by
    rcases hn3 with ⟨h3, _⟩ | ⟨us, k, _, _, _, _, h7⟩
    · exact h3
    · rw [hc] at h7; simp at h7
  have hp := hn2 u.toNat (by omega)
  have hu : ((u.toNat : Nat) : Int) = u := by omega
  rw [clP, hu, if_pos hg, Option.map_eq_none_iff] at hp
  have e := ex_side hr (gI_m1 h (-1) l.length) u.toNat
  rw [hu] at e
  rw [e] at hp
  obtain ⟨u1, u2, u3, u4⟩ := checkP_u h
  rw [← ex_lin (boundL_of h) k l.length (by omega)]
  rcases kd_cases (exI (fun x => decide (gI (-1) l l.length x = u)) (-1) l l.length) with ⟨⟨q1, q2, q3, q4⟩, _⟩ | ⟨_, q⟩ | ⟨_, q⟩ | ⟨_, q⟩ | ⟨_, q⟩
  · unfold cmp
    split
    · exact of_eq_true q1
    · exact of_eq_true q2
    · exact of_eq_true q3
    · exact of_eq_true q4
  all_goals (rw [hp] at q; simp at q)
/-- How many units a set has. -/
def sizeS (S : Int → Bool) : Nat → Nat
  | 0 => 0
  | u + 1 => sizeS S u + if S u then 1 else 0
theorem sizeS_lt {S T : Int → Bool} (h : ∀ x, T x = true → S x = true) {u : Nat} (h1 : S u = true) (h2 : T u = false) : ∀ n, u < n → sizeS T n < sizeS S n
  | 0, hn => by omega
  | n + 1, hn => by
    have hle : ∀ m, sizeS T m ≤ sizeS S m := by
      intro m
      induction m with
      | zero => exact Nat.le_refl _
      | succ m ih =>
        simp only [sizeS]
        have := h m
        cases hT : T m with
        | false => simp; omega
        | true => rw [this hT]; simp; omega
    simp only [sizeS]
    by_cases hu : u = n
    · subst hu
      rw [h1, h2]
      have := hle u
      simp; omega
    · have ih := sizeS_lt h h1 h2 n (by omega)
      have := h n
      cases hT : T n with
      | false => simp; omega
      | true => rw [this hT]; simp; omega
/-- A set that no unmeasured flow leaves, without the outside, has no excess. -/
theorem closed_zero (h : checkP U l = 0) (hc : NoClash U l) (k : Nat) : ∀ (m : Nat) (S : Int → Bool), sizeS S U ≤ m → ClosedS (-1) l S → S (-1) = false → linI S (-1) l k l.length = 0 := by
  have hr := rngL_of h
  intro m
  induction m with
  | zero =>
    intro S hs _ ho
    refine lin_zero hr (-1) k (fun x h1 h2 => ?_) _
    by_cases hx : x = -1
    · rw [hx]; exact ho
    · cases hS : S x with
      | false => rfl
      | true =>
        have : sizeS (fun _ => false) U < sizeS S U := sizeS_lt (u := x.toNat) (fun y hy => by simp at hy) (by rw [show ((x.toNat : Nat) : Int) = x by omega]; exact hS) rfl U (by omega)
        omega
  | succ m ih =>
    intro S hs hcl ho
    by_cases hex : ∃ u : Nat, u < U ∧ S u = true
    · obtain ⟨u, hu, hSu⟩ := hex
      obtain ⟨a1, a2, a3⟩ := gI_ok h (-1) l.length u (by omega) (by omega)
      have hSg := closed_gI hcl l.length u
      rw [hSu] at hSg
      have hg0 : 0 ≤ gI (-1) l l.length u := by
        by_cases hq : gI (-1) l l.length u = -1
        · rw [hq, ho] at hSg; simp at hSg
        · omega
      have hz := noClash_head h hc hg0 (by omega) a3 k
      have hsub : ∀ x, gI (-1) l l.length x = gI (-1) l l.length u → S x = true := fun x hx => by rw [closed_same hcl hx]; exact hSu
      have h2 := ih (fun x => S x && !decide (gI (-1) l l.length x = gI (-1) l l.length u)) (by
        have := sizeS_lt (S := S) (T := fun x => S x && !decide (gI (-1) l l.length x = gI (-1) l l.length u)) (u := u) (fun x hx => by simp only [Bool.and_eq_true] at hx; exact hx.1) hSu (by simp) U hu
        omega) (by
        intro i x hx hme hw
        have hi : i < l.length := by rw [List.getElem?_eq_some_iff] at hx; exact hx.1
        simp only [hcl i x hx hme hw, gI_joined hx hme hw l.length hi]) (by simp [ho])
      rw [lin_add hr (f := S) (-1) k (g := fun x => S x && !decide (gI (-1) l l.length x = gI (-1) l l.length u)) (h := fun x => decide (gI (-1) l l.length x = gI (-1) l l.length u)) (fun x _ _ => by
        by_cases hx : gI (-1) l l.length x = gI (-1) l l.length u
        · rw [hsub x hx]; simp [hx, bi]
        · simp [hx, bi]) l.length, h2, hz]
      rfl
    · refine lin_zero hr (-1) k (fun x h1 h2 => ?_) _
      by_cases hx : x = -1
      · rw [hx]; exact ho
      · cases hS : S x with
        | false => rfl
        | true => exact absurd ⟨x.toNat, by omega, by rw [show ((x.toNat : Nat) : Int) = x by omega]; exact hS⟩ hex

/-- What is found, by any set that only this unmeasured flow leaves. -/
theorem found_by (h : checkP U l = 0) (hc : NoClash U l) {j : Nat} {x : Fl} (hx : l[j]? = some x) (hme : x.me = false) {S : Int → Bool} (hcl : ClosedS j l S) (ho : S (-1) = false) (hne : S x.fr ≠ S x.to) :
    (knAt l j x).s = 2 ∧ ∀ k, cmp k (knAt l j x).m = (bi (S x.fr) - bi (S x.to)) * linI S (-1) l k l.length := by
  have hr := rngL_of h
  obtain ⟨u1, u2, u3, u4⟩ := checkP_u h
  have hj : j < l.length := by rw [List.getElem?_eq_some_iff] at hx; exact hx.1
  have hb := boundL_of h
  have gnj : ¬ gI j l l.length x.fr = gI j l l.length x.to := fun e => hne (closed_same hcl e)
  have gm1 := gI_m1 h j l.length
  have sm : ∀ y, gI j l l.length y = -1 → S y = false := fun y hy => by rw [closed_same hcl (n := l.length) (x := y) (y := -1) (by rw [hy, gm1])]; exact ho
  have cls : ∀ c, ClosedS j l fun y => decide (gI j l l.length y = c) := by
    intro c i y hy hm hw
    have hi : i < l.length := by rw [List.getElem?_eq_some_iff] at hy; exact hy.1
    simp only [gI_joined hy hm hw l.length hi]
  have side : ∀ c k, cmp k (sideX l j c) = linI (fun y => decide (gI j l l.length y = c)) (-1) l k l.length := by
    intro c k
    rw [sideX, ex_lin hb k l.length (by omega), lin_skip hx hme]
  -- a set that this flow does not leave either
  have zero : ∀ (T : Int → Bool) k, ClosedS j l T → T x.fr = T x.to → T (-1) = false → linI T (-1) l k l.length = 0 := by
    intro T k h1 h2 h3
    refine closed_zero h hc k (sizeS T U) T (Nat.le_refl _) (fun i y hy hm _ => ?_) h3
    by_cases hij : i = j
    · subst hij
      rw [hx] at hy
      simp only [Option.some.injEq] at hy
      subst hy
      exact h2
    · exact h1 i y hy hm (by omega)
  -- a class within the set is all that matters
  have part : ∀ y k, S y = true → (∀ z, (z = x.fr ∨ z = x.to) → S z = true → gI j l l.length z = gI j l l.length y) → linI S (-1) l k l.length = linI (fun z => decide (gI j l l.length z = gI j l l.length y)) (-1) l k l.length := by
    intro y k hy hz
    have hsub : ∀ z, gI j l l.length z = gI j l l.length y → S z = true := fun z hz => by rw [closed_same hcl hz]; exact hy
    rw [lin_add hr (f := S) (-1) k (g := fun z => S z && !decide (gI j l l.length z = gI j l l.length y)) (h := fun z => decide (gI j l l.length z = gI j l l.length y)) (fun z _ _ => by
      by_cases hq : gI j l l.length z = gI j l l.length y
      · rw [hsub z hq]; simp [hq, bi]
      · simp [hq, bi]) l.length]
    rw [zero (fun z => S z && !decide (gI j l l.length z = gI j l l.length y)) k]
    · omega
    · intro i z hz' hm hw
      have e1 := hcl i z hz' hm hw
      have e2 := cls (gI j l l.length y) i z hz' hm hw
      simp only at e2
      simp only [e1, e2]
    · have z1 : (S x.fr && !decide (gI j l l.length x.fr = gI j l l.length y)) = false := by
        cases hs : S x.fr with
        | false => rfl
        | true => simp [hz _ (.inl rfl) hs]
      have z2 : (S x.to && !decide (gI j l l.length x.to = gI j l l.length y)) = false := by
        cases hs : S x.to with
        | false => rfl
        | true => simp [hz _ (.inr rfl) hs]
      simp only [z1, z2]
    · simp [ho]
  have bnd : ∀ c k, -(20000000000 : Int) ≤ cmp k (sideX l j c) ∧ cmp k (sideX l j c) ≤ 20000000000 := by
    intro c k
    have := lin_bound (f := fun y => decide (gI j l l.length y = c)) (wo := -1) hb k l.length
    rw [side c k]
    omega
  have neg : ∀ c k, cmp k (Ms.zero.plus (-1) (sideX l j c)) = - cmp k (sideX l j c) := by
    intro c k
    have := bnd c k
    have hz : cmp k Ms.zero = 0 := by unfold cmp; split <;> rfl
    rw [cmp_plus, hz, show wr (-1 * cmp k (sideX l j c)) = -1 * cmp k (sideX l j c) from wrap_ok (by omega) (by omega), show wr (0 + -1 * cmp k (sideX l j c)) = 0 + -1 * cmp k (sideX l j c) from wrap_ok (by omega) (by omega)]
    omega
  unfold knAt foundP
  rw [if_neg gnj]
  cases hf : S x.fr with
  | true =>
    have ht : S x.to = false := by cases ht : S x.to with
      | false => rfl
      | true => rw [hf, ht] at hne; exact absurd rfl hne
    have hn1 : ¬ gI j l l.length x.fr = -1 := fun e => by have := sm _ e; rw [hf] at this; simp at this
    rw [if_neg hn1]
    simp only [knF, hme]
    refine ⟨rfl, fun k => ?_⟩
    have := part x.fr k hf (fun z hz hs => by
      rcases hz with rfl | rfl
      · rfl
      · rw [ht] at hs; simp at hs)
    simp only [Bool.false_eq_true, if_false]
    rw [side, ← this, ht]
    simp [bi]
  | false =>
    have ht : S x.to = true := by cases ht : S x.to with
      | true => rfl
      | false => rw [hf, ht] at hne; exact absurd rfl hne
    have hp := fun k => part x.to k ht (fun z hz hs => by
      rcases hz with rfl | rfl
      · rw [hf] at hs; simp at hs
      · rfl)
    by_cases hn1 : gI j l l.length x.fr = -1
    · rw [if_pos hn1]
      simp only [knF, hme]
      refine ⟨rfl, fun k => ?_⟩
      simp only [Bool.false_eq_true, if_false]
      rw [neg, side, ← hp k, ht]
      simp [bi]
    · rw [if_neg hn1]
      simp only [knF, hme]
      refine ⟨rfl, fun k => ?_⟩
      simp only [Bool.false_eq_true, if_false]
      -- both sides together
      have hz := zero (fun z => decide (gI j l l.length z = gI j l l.length x.fr) || decide (gI j l l.length z = gI j l l.length x.to)) k (by
        intro i z hz' hm hw
        have e2 := cls (gI j l l.length x.fr) i z hz' hm hw
        have e3 := cls (gI j l l.length x.to) i z hz' hm hw
        simp only at e2 e3
        simp only [e2, e3]) (by simp) (by
        have hto : ¬ gI j l l.length x.to = -1 := fun e => by have := sm _ e; rw [ht] at this; simp at this
        simp [gm1, Ne.symm hn1, Ne.symm hto])
      rw [lin_add hr (f := fun z => decide (gI j l l.length z = gI j l l.length x.fr) || decide (gI j l l.length z = gI j l l.length x.to)) (-1) k (g := fun z => decide (gI j l l.length z = gI j l l.length x.fr)) (h := fun z => decide (gI j l l.length z = gI j l l.length x.to)) (fun z _ _ => by
        by_cases h1 : gI j l l.length z = gI j l l.length x.fr
        · have : ¬ gI j l l.length z = gI j l l.length x.to := fun e => gnj (h1.symm.trans e)
          simp [h1, bi, gnj]
        · simp [h1, bi]) l.length] at hz
      rw [side, ht, hp k]
      simp only [bi, if_true, Bool.false_eq_true, if_false]
      omega
end
end Go.Proofs.Ytdbikamciedfdaa
namespace Go.Proofs.Ytdbikamciedfdaa
open Go Go.DL
set_option maxRecDepth 100000
set_option maxHeartbeats 1000000

end Go.Proofs.Ytdbikamciedfdaa
namespace Go.Proofs.Ytdbikamciedfdaa
open Go Go.DL
set_option maxRecDepth 100000
set_option maxHeartbeats 1000000

/-- A mill. -/
structure Mi where
  u : Int
  ends : List (Int × Int)
  mass : List Int
  kn : Int
abbrev miC (m : Mi) : List AV := [.int .u8 m.u, .fs (m.ends.map fun e => [.int .u8 e.1, .int .u8 e.2]), .fs (m.mass.map fun v => [.int .u8 v]), .int .u16 m.kn]
structure Mi.Ok (m : Mi) : Prop where
  u : 0 ≤ m.u ∧ m.u ≤ 255
  ends : ∀ e ∈ m.ends, (0 ≤ e.1 ∧ e.1 ≤ 255) ∧ (0 ≤ e.2 ∧ e.2 ≤ 255)
  mass : ∀ v ∈ m.mass, 0 ≤ v ∧ v ≤ 255
/-- The masses by numbers. -/
def mval (m : Mi) (i k : Nat) : Int := if m.mass.length = 0 then 1 else m.mass.getD ((4 * i + k) % m.mass.length) 0
theorem mval_bd {m : Mi} (h : m.Ok) (i k : Nat) : 0 ≤ mval m i k ∧ mval m i k ≤ 255 := by
  unfold mval
  split
  · omega
  · rename_i hz
    have hlt : (4 * i + k) % m.mass.length < m.mass.length := Nat.mod_lt _ (by omega)
    rw [List.getD_eq_getElem?_getD, List.getElem?_eq_getElem hlt]
    exact h.mass _ (List.getElem_mem hlt)
theorem tmod_nat (a b : Nat) : (a : Int).tmod (b : Int) = ((a % b : Nat) : Int) := by
  rw [Int.tmod_eq_emod_of_nonneg (by omega)]; exact (Int.natCast_emod a b).symm
abbrev hMi (m : Mi) : XH := [some (.blk true (.cells true (miC m)))]
theorem w54 {m : Mi} (h : m.Ok) (i : Nat) (hi : i < 1000) (k : Int) (kk : Nat) (hk : k = kk) (hk2 : kk < 4) : runW progX 54 [I i, I k, .pt 0 0] (hMi m) = some (I (mval m i kk), hMi m) := by
  by_cases hz : m.mass.length = 0
  · have g : ((m.mass.length : Int) = 0) = True := eq_true (by omega)
    have e : mval m i kk = 1 := if_pos hz
    rw [e]
    rw [r54 (by simp)]; unfold x54; dsimp only
    (sym => (simp [etaM, etaF, z00,z01,z05,z07,z08,z0b,z0c,z0n,z0v,z11,z12,z15,z1f,z1j,z1k,z1l,z1m,z28,z29,z2b,z2g,z2h,z2j,z2l,z2n,z2t,z33,z34,z4l,z66,z6p,z7r,z7z,z9d,z9e,z9g,z9n,z9p,z9y,za3,za5,za6,za7,za8,zae,zaf,zak,zal,zba,zbt,zbu,zbw,zbx,zby,zbz,zc0,zc3,zc4,zc5,zc6,zc8,zce,zcf,zcg,zcj,zcn,zco,zcr,zcs,zct,zcu,zcv,zcw,zcx,zcy,zdd,zdk,zdl,zdo,zds,zdt,ze2,ze3,zf6,zf7,zf8,zf9,zfb,zfm,zfo,zfp,zfq,zft,zfv,zg0,zg1, g]; all_goals tactic => exact rfl))
  · have g : ((m.mass.length : Int) = 0) = False := eq_false (by omega)
    have hlt : (4 * i + kk) % m.mass.length < m.mass.length := Nat.mod_lt _ (by omega)
    have e : mval m i kk = m.mass.getD ((4 * i + kk) % m.mass.length) 0 := if_neg hz
    have g1 : IntKind.i64.wrap (4 * (i : Int)) = 4 * (i : Int) := wrap_ok (by omega) (by omega)
    have g2 : IntKind.i64.wrap (4 * (i : Int) + k) = ((4 * i + kk : Nat) : Int) := by rw [wrap_ok (by omega) (by omega), hk]; omega
    have g3 := tmod_nat (4 * i + kk) m.mass.length
    have g4 : m.mass[(4 * i + kk) % m.mass.length]? = some (mval m i kk) := by
      rw [e, List.getD_eq_getElem?_getD, List.getElem?_eq_getElem hlt]; rfl
    have bd := mval_bd h i kk
    have g5 : IntKind.i64.wrap (mval m i kk) = mval m i kk := wrap_ok (by omega) (by omega)
    have g6 : ((((4 * i + kk) % m.mass.length : Nat) : Int) < (m.mass.length : Int)) = True := eq_true (by omega)
    clear e
    generalize mval m i kk = v at *
    generalize (4 * i + kk) % m.mass.length = j at *
    generalize 4 * i + kk = q at *
    rw [r54 (by simp)]; unfold x54; dsimp only
    (sym => (simp [etaM, etaF, z00,z01,z05,z07,z08,z0b,z0c,z0n,z0v,z11,z12,z15,z1f,z1j,z1k,z1l,z1m,z28,z29,z2b,z2g,z2h,z2j,z2l,z2n,z2t,z33,z34,z4l,z66,z6p,z7r,z7z,z9d,z9e,z9g,z9n,z9p,z9y,za3,za5,za6,za7,za8,zae,zaf,zak,zal,zba,zbt,zbu,zbw,zbx,zby,zbz,zc0,zc3,zc4,zc5,zc6,zc8,zce,zcf,zcg,zcj,zcn,zco,zcr,zcs,zct,zcu,zcv,zcw,zcx,zcy,zdd,zdk,zdl,zdo,zds,zdt,ze2,ze3,zf6,zf7,zf8,zf9,zfb,zfm,zfo,zfp,zfq,zft,zfv,zg0,zg1, g, g1, g2, g3, g4, g5, g6]; all_goals tactic => exact rfl))
end Go.Proofs.Ytdbikamciedfdaa
namespace Go.Proofs.Ytdbikamciedfdaa
open Go Go.DL
set_option maxRecDepth 100000
set_option maxHeartbeats 4000000

/-! ### What is left to each unit -/
def restL (r : Nat → Int) : List Int := (List.range 16).map r
def upN (r : Nat → Int) (j : Nat) (v : Int) : Nat → Int := fun x => if x = j then v else r x
theorem rest_set {o : Nat} (h : o < 16) (r : Nat → Int) (v : Int) : setX (restL r) o v = restL (upN r o v) := by
  rw [setX_set (by simp [restL]; exact h)]
  apply List.ext_getElem
  · simp [restL]
  · intro k h1 h2
    rw [List.getElem_set]
    simp only [restL, List.getElem_map, List.getElem_range, upN]
    by_cases hk : o = k
    · simp [hk]
    · rw [if_neg hk, if_neg (Ne.symm hk)]
theorem rest_get {o : Nat} (h : o < 16) (r : Nat → Int) : (restL r)[o]? = some (r o) := by
  unfold restL
  rw [List.getElem?_map, List.getElem?_range h]; rfl
theorem rest_len {o : Nat} (h : o < 16) (r : Nat → Int) : (o + 1 ≤ (restL r).length) = True := eq_true (by simp [restL]; omega)
theorem rest_row {o : Nat} (h : o + 4 ≤ 16) (r : Nat → Int) : (((restL r).map I).drop o).take 4 = [I (r o), I (r (o + 1)), I (r (o + 2)), I (r (o + 3))] := by
  rw [← List.map_drop, ← List.map_take]
  have : ((restL r).drop o).take 4 = [r o, r (o + 1), r (o + 2), r (o + 3)] := by
    apply List.ext_getElem
    · simp [restL]; omega
    · intro k h1 h2
      have hk : k < 4 := by simpa using h2
      rw [List.getElem_take, List.getElem_drop]
      simp only [restL, List.getElem_map, List.getElem_range]
      match k, hk with
      | 0, _ => rfl
      | 1, _ => rfl
      | 2, _ => rfl
      | 3, _ => rfl
  rw [this]; rfl

def addK (t : Int) (k : Nat) (v : Int) (r : Nat → Int) : Nat → Int := if 0 ≤ t then upN r (t.toNat * 4 + k) (wr (r (t.toNat * 4 + k) + v)) else r
def subK (t : Int) (k : Nat) (v : Int) (r : Nat → Int) : Nat → Int := if 0 ≤ t then upN r (t.toNat * 4 + k) (wr (r (t.toNat * 4 + k) - v)) else r
def stepK (fr to : Int) (m : Mi) (i k : Nat) (r : Nat → Int) : Nat → Int := subK fr k (mval m i k) (addK to k (mval m i k) r)

def Mi.n (m : Mi) : Nat := 1 + m.u.toNat % 4
def meB (kn : Int) (i : Nat) : Bool := decide (bitsA .and .u16 (kn.fdiv (2 ^ min i IntKind.u16.bits)) 1 = 1)
def e1I (m : Mi) (e : Int × Int) : Int := e.1.tmod ((m.n : Int) + 1) - 1
def e2I (m : Mi) (e : Int × Int) : Int := if e1I m e = e.2.tmod ((m.n : Int) + 1) - 1 then (e1I m e + 2).tmod ((m.n : Int) + 1) - 1 else e.2.tmod ((m.n : Int) + 1) - 1
def mass4 (m : Mi) (i : Nat) : Ms := ⟨mval m i 0, mval m i 1, mval m i 2, mval m i 3⟩
/-- The flow of ends. -/
def mkF (m : Mi) (i : Nat) (e : Int × Int) : Fl := ⟨e1I m e, e2I m e, meB m.kn i, if meB m.kn i then mass4 m i else Ms.zero⟩
def flT (m : Mi) : Nat → List Fl
  | 0 => []
  | i + 1 => match m.ends[i]? with
    | some e => flT m i ++ [mkF m i e]
    | none => flT m i
def rlT (m : Mi) : Nat → List Ms
  | 0 => []
  | i + 1 => rlT m i ++ [mass4 m i]
def rsT (m : Mi) : Nat → Nat → Int
  | 0 => fun _ => 0
  | i + 1 => match m.ends[i]? with
    | some e => stepK (e1I m e) (e2I m e) m i 3 (stepK (e1I m e) (e2I m e) m i 2 (stepK (e1I m e) (e2I m e) m i 1 (stepK (e1I m e) (e2I m e) m i 0 (rsT m i))))
    | none => rsT m i
abbrev Ms.row (x : Ms) : List AV := [I x.a, I x.b, I x.c, I x.d]
theorem ms_ok (k : List Ms) : RowsOk 4 (k.map Ms.row) := by
  intro r hr
  simp only [List.mem_map] at hr
  obtain ⟨x, _, rfl⟩ := hr
  exact ⟨rfl, rfl, rfl, rfl⟩
theorem fl_ok (k : List Fl) : RowsOk 7 (k.map Fl.row) := by
  intro r hr
  simp only [List.mem_map] at hr
  obtain ⟨x, _, rfl⟩ := hr
  exact ⟨rfl, rfl, rfl, rfl⟩
def cF (l : List Fl) : List AV := (l.map Fl.row).flatten
def cM (l : List Ms) : List AV := (l.map Ms.row).flatten
theorem cF_gr (l : List Fl) : grL (cF l) = true := (rows_cells (fl_ok _)).1
theorem cF_nm (l : List Fl) : nmL (cF l) = [] := (rows_cells (fl_ok _)).2.1
theorem cF_sl (l : List Fl) : slL (cF l) = [] := (rows_cells (fl_ok _)).2.2.1
theorem cF_len (l : List Fl) : (cF l).length = l.length * 7 := by rw [cF, (rows_cells (fl_ok _)).2.2.2, List.length_map]
theorem cF_app (l : List Fl) (x : Fl) : cF (l ++ [x]) = cF l ++ x.row := by simp [cF]
theorem cM_gr (l : List Ms) : grL (cM l) = true := (rows_cells (ms_ok _)).1
theorem cM_nm (l : List Ms) : nmL (cM l) = [] := (rows_cells (ms_ok _)).2.1
theorem cM_sl (l : List Ms) : slL (cM l) = [] := (rows_cells (ms_ok _)).2.2.1
theorem cM_len (l : List Ms) : (cM l).length = l.length * 4 := by rw [cM, (rows_cells (ms_ok _)).2.2.2, List.length_map]
theorem cM_app (l : List Ms) (x : Ms) : cM (l ++ [x]) = cM l ++ x.row := by simp [cM]
theorem flT_len (m : Mi) : ∀ i, i ≤ m.ends.length → (flT m i).length = i
  | 0, _ => rfl
  | i + 1, h => by
    have ih := flT_len m i (by omega)
    rw [flT, List.getElem?_eq_getElem (show i < m.ends.length by omega)]
    simp only [List.length_append, ih, List.length_cons, List.length_nil]
theorem rlT_len (m : Mi) : ∀ i, (rlT m i).length = i
  | 0 => rfl
  | i + 1 => by rw [rlT, List.length_append, rlT_len m i]; rfl
/-- How many ends are looked at. -/
def Mi.c (m : Mi) : Nat := min m.ends.length 6
abbrev rw4 (r : Nat → Int) (u : Nat) : Ms := ⟨r (u * 4), r (u * 4 + 1), r (u * 4 + 2), r (u * 4 + 3)⟩
def mkMe (m : Mi) (r : Nat → Int) (u : Nat) : Bool := meB m.kn (6 + u) && (decide (0 ≤ r (u * 4)) && (decide (0 ≤ r (u * 4 + 1)) && (decide (0 ≤ r (u * 4 + 2)) && decide (0 ≤ r (u * 4 + 3)))))
/-- The flow of a unit to outside. -/
def mkC (m : Mi) (r : Nat → Int) (u : Nat) : Fl := ⟨u, -1, mkMe m r u, if mkMe m r u then rw4 r u else Ms.zero⟩
def flU (m : Mi) : Nat → List Fl
  | 0 => flT m m.c
  | u + 1 => flU m u ++ [mkC m (rsT m m.c) u]
def rlU (m : Mi) : Nat → List Ms
  | 0 => rlT m m.c
  | u + 1 => rlU m u ++ [rw4 (rsT m m.c) u]
theorem flU_len (m : Mi) : ∀ u, (flU m u).length = m.c + u
  | 0 => flT_len m _ (Nat.min_le_left _ _)
  | u + 1 => by rw [flU, List.length_append, flU_len m u]; rfl
theorem rlU_len (m : Mi) : ∀ u, (rlU m u).length = m.c + u
  | 0 => rlT_len m _
  | u + 1 => by rw [rlU, List.length_append, rlU_len m u]; rfl

abbrev XM (m : Mi) : Option XB := some (.blk true (.cells true (miC m)))
abbrev RM : Option XB := some (.blk true (.cells true [I 0, .nilsl]))
def gM (m : Mi) (j : Nat) (fl : List Fl) (rl : List Ms) (r : Nat → Int) : XH := if j = 0 then [XM m, RM, some (.blk true (.cells true [I m.n, .nilsl])), some (.blk true (.cells true ((restL r).map I)))] else
  [XM m, RM, some (.blk false (.cells true [I m.n, .sl 3 0 7 j])), some (.blk true (.cells true (cF fl))), some (.blk true (.cells true (cM rl))), some (.blk true (.cells true ((restL r).map I)))]
theorem gM_0 (m : Mi) (fl : List Fl) (rl : List Ms) (r : Nat → Int) : gM m 0 fl rl r = [XM m, RM, some (.blk true (.cells true [I m.n, .nilsl])), some (.blk true (.cells true ((restL r).map I)))] := rfl
theorem gM_1 {m : Mi} {j : Nat} (h : j ≠ 0) (fl : List Fl) (rl : List Ms) (r : Nat → Int) : gM m j fl rl r = [XM m, RM, some (.blk false (.cells true [I m.n, .sl 3 0 7 j])), some (.blk true (.cells true (cF fl))), some (.blk true (.cells true (cM rl))), some (.blk true (.cells true ((restL r).map I)))] := if_neg h
def sR (j : Nat) : AV := if j = 0 then .nilsl else .sl 4 0 4 j
def pR (j : Nat) : AV := if j = 0 then .pt 3 0 else .pt 5 0
end Go.Proofs.Ytdbikamciedfdaa
namespace Go.Proofs.Ytdbikamciedfdaa
open Go Go.DL
set_option maxRecDepth 100000
set_option maxHeartbeats 8000000

theorem n_bd (m : Mi) : 1 ≤ m.n ∧ m.n ≤ 4 := by unfold Mi.n; omega
theorem tmod_bd {a : Int} {n : Nat} (h0 : 0 ≤ a) (hn : 1 ≤ n) : 0 ≤ a.tmod ((n : Int) + 1) ∧ a.tmod ((n : Int) + 1) < (n : Int) + 1 := by
  rw [Int.tmod_eq_emod_of_nonneg h0]
  exact ⟨Int.emod_nonneg _ (by omega), Int.emod_lt_of_pos _ (by omega)⟩
theorem ends_bd {m : Mi} {e : Int × Int} (h1 : 0 ≤ e.1 ∧ e.1 ≤ 255) (h2 : 0 ≤ e.2 ∧ e.2 ≤ 255) : -1 ≤ e1I m e ∧ e1I m e < m.n ∧ -1 ≤ e2I m e ∧ e2I m e < m.n ∧ e1I m e ≠ e2I m e := by
  obtain ⟨n1, n2⟩ := n_bd m
  have a := tmod_bd (n := m.n) h1.1 n1
  have b := tmod_bd (n := m.n) h2.1 n1
  have he : e1I m e = e.1.tmod ((m.n : Int) + 1) - 1 := rfl
  have c := tmod_bd (a := e1I m e + 2) (n := m.n) (by omega) n1
  unfold e2I
  split
  · rename_i hq
    refine ⟨by omega, by omega, by omega, by omega, ?_⟩
    rw [Int.tmod_eq_emod_of_nonneg (by omega)]
    by_cases hl : e1I m e + 2 < (m.n : Int) + 1
    · rw [Int.emod_eq_of_lt (by omega) hl]; omega
    · rw [show e1I m e + 2 = 0 + ((m.n : Int) + 1) + (e1I m e + 2 - ((m.n : Int) + 1)) by omega]
      have : e1I m e + 2 = (m.n : Int) + 1 := by omega
      rw [this]
      simp
      omega
  · rename_i hq
    exact ⟨by omega, by omega, by omega, by omega, hq⟩
theorem c_lt {m : Mi} {i : Nat} (hi : i < m.c) : i < m.ends.length ∧ i < 6 := by unfold Mi.c at hi; omega

theorem made_r1 {m : Mi} (h : m.Ok) {i : Nat} (hi : i < m.c) :
    headX 0 [1, 2, 4, 5, 6, 7, 8, 9] (execW progX 29 0 none (match x29l1 with | .loop _ a => a | c => c) (envL [1, 2, 4, 5, 6, 7, 8, 9] [.pt 0 0, .pt 1 0, I m.n, .pt 2 0, sR i, pR i, .fn (.func 54) [] [.pt 0 0], I (i : Nat)]) (gM m i (flT m i) (rlT m i) (rsT m i))) =
      some ([.pt 0 0, .pt 1 0, I m.n, .pt 2 0, sR (i + 1), pR (i + 1), .fn (.func 54) [] [.pt 0 0], I (i + 1 : Nat)], gM m (i + 1) (flT m (i + 1)) (rlT m (i + 1)) (rsT m (i + 1))) := by
  obtain ⟨i1, i2⟩ := c_lt hi
  obtain ⟨n1, n2⟩ := n_bd m
  obtain ⟨e, a0⟩ := at_ix i1
  have hm : e ∈ m.ends := List.mem_of_getElem? a0
  obtain ⟨h1, h2⟩ := h.ends e hm
  obtain ⟨b1, b2, b3, b4, b5⟩ := ends_bd (m := m) h1 h2
  have t1 := tmod_bd (n := m.n) h1.1 n1
  have t2 := tmod_bd (n := m.n) h2.1 n1
  have eF : flT m (i + 1) = flT m i ++ [⟨e1I m e, e2I m e, meB m.kn i, if meB m.kn i then mass4 m i else Ms.zero⟩] := by rw [flT, a0]; rfl
  have eM : rlT m (i + 1) = rlT m i ++ [⟨mval m i 0, mval m i 1, mval m i 2, mval m i 3⟩] := rfl
  have eR : rsT m (i + 1) = stepK (e1I m e) (e2I m e) m i 3 (stepK (e1I m e) (e2I m e) m i 2 (stepK (e1I m e) (e2I m e) m i 1 (stepK (e1I m e) (e2I m e) m i 0 (rsT m i)))) := by rw [rsT, a0]
  have lF := flT_len m i (by omega)
  have lM := rlT_len m i
  have k0 := w54 h i (by omega) 0 0 rfl (by omega)
  have k1 := w54 h i (by omega) 1 1 rfl (by omega)
  have k2 := w54 h i (by omega) 2 2 rfl (by omega)
  have k3 := w54 h i (by omega) 3 3 rfl (by omega)
  have a1 : ((i : Int) < (m.ends.length : Int)) = True := eq_true (by omega)
  have a2 : ((i : Int) < 6) = True := eq_true (by omega)
  have a3 : ((i : Int) < 0) = False := eq_false (by omega)
  have a4 : IntKind.i64.wrap e.1 = e.1 := wrap_ok (by omega) (by omega)
  have a5 : IntKind.i64.wrap e.2 = e.2 := wrap_ok (by omega) (by omega)
  have a6 : IntKind.i64.wrap ((m.n : Int) + 1) = (m.n : Int) + 1 := wrap_ok (by omega) (by omega)
  have a7 : ((m.n : Int) + 1 = 0) = False := eq_false (by omega)
  have a8 : IntKind.i64.wrap (e.1.tmod ((m.n : Int) + 1) - 1) = e1I m e := wrap_ok (by omega) (by omega)
  have c1 : (e2I m e < 4) = True := eq_true (by omega)
  have c2 : (e1I m e < 4) = True := eq_true (by omega)
  have p1 : (e1I m e).toNat * 4 + 3 < 16 := by omega
  have p2 : (e2I m e).toNat * 4 + 3 < 16 := by omega
  have me : meB m.kn i = decide (bitsA .and .u16 (m.kn.fdiv (2 ^ min i IntKind.u16.bits)) 1 = 1) := rfl
  have eq2 : ((e1I m e = e.2.tmod ((m.n : Int) + 1) - 1) = True ∧ IntKind.i64.wrap (e1I m e + 2) = e1I m e + 2 ∧ IntKind.i64.wrap ((e1I m e + 2).tmod ((m.n : Int) + 1) - 1) = e2I m e ∧ IntKind.i64.wrap (e.2.tmod ((m.n : Int) + 1) - 1) = e.2.tmod ((m.n : Int) + 1) - 1) ∨ ((e1I m e = e2I m e) = False ∧ IntKind.i64.wrap (e.2.tmod ((m.n : Int) + 1) - 1) = e2I m e) := by
    have w : IntKind.i64.wrap (e.2.tmod ((m.n : Int) + 1) - 1) = e.2.tmod ((m.n : Int) + 1) - 1 := wrap_ok (by omega) (by omega)
    by_cases hq : e1I m e = e.2.tmod ((m.n : Int) + 1) - 1
    · have hv : e2I m e = (e1I m e + 2).tmod ((m.n : Int) + 1) - 1 := if_pos hq
      exact .inl ⟨eq_true hq, wrap_ok (by omega) (by omega), by rw [hv]; exact wrap_ok (by omega) (by omega), w⟩
    · exact .inr ⟨eq_false b5, by rw [w]; exact (if_neg hq).symm⟩
  have zF : i = 0 → cF (flT m i) = [] := fun hz => by rw [hz]; rfl
  have zM : i = 0 → cM (rlT m i) = [] := fun hz => by rw [hz]; rfl
  have w1 : IntKind.i64.wrap ((i : Int) + 1) = (i : Int) + 1 := wrap_ok (by omega) (by omega)
  have q2 : ((i + 1) * 56 ≤ 1099511627776) = True := eq_true (by omega)
  have q3 : ((i + 1) * 32 ≤ 1099511627776) = True := eq_true (by omega)
  have q4 : (i + 1 ≤ 1099511627776) = True := eq_true (by omega)
  rw [eF, eM, eR, gM_1 (show i + 1 ≠ 0 by omega)]
  simp only [sR, pR, Nat.add_one_ne_zero, if_false]
  unfold stepK
  have ft : ((0 ≤ e1I m e) = True ∧ (0 ≤ e2I m e) = True) ∨ ((0 ≤ e1I m e) = True ∧ (0 ≤ e2I m e) = False) ∨ ((0 ≤ e1I m e) = False ∧ (0 ≤ e2I m e) = True) := by
    by_cases h3 : 0 ≤ e1I m e
    · by_cases h4 : 0 ≤ e2I m e
      · exact .inl ⟨eq_true h3, eq_true h4⟩
      · exact .inr (.inl ⟨eq_true h3, eq_false h4⟩)
    · exact .inr (.inr ⟨eq_false h3, eq_true (by omega)⟩)
  have mb : ((bitsA .and .u16 (m.kn.fdiv (2 ^ min i IntKind.u16.bits)) 1 = 1) = True ∧ meB m.kn i = true) ∨ ((bitsA .and .u16 (m.kn.fdiv (2 ^ min i IntKind.u16.bits)) 1 = 1) = False ∧ meB m.kn i = false) := by
    by_cases hq : bitsA .and .u16 (m.kn.fdiv (2 ^ min i IntKind.u16.bits)) 1 = 1
    · exact .inl ⟨eq_true hq, by rw [me]; exact decide_eq_true hq⟩
    · exact .inr ⟨eq_false hq, by rw [me]; exact decide_eq_false hq⟩
  unfold mass4
  generalize mval m i 0 = v0 at *
  generalize mval m i 1 = v1 at *
  generalize mval m i 2 = v2 at *
  generalize mval m i 3 = v3 at *
  clear b1 b2 b3 b4 b5 t1 t2 h1 h2
  generalize e2I m e = to at *
  generalize e1I m e = fr at *
  have fs0 := rest_set (o := fr.toNat * 4) (by omega)
  have fs1 := rest_set (o := fr.toNat * 4 + 1) (by omega)
  have fs2 := rest_set (o := fr.toNat * 4 + 2) (by omega)
  have fs3 := rest_set (o := fr.toNat * 4 + 3) (by omega)
  have fg0 := rest_get (o := fr.toNat * 4) (by omega)
  have fg1 := rest_get (o := fr.toNat * 4 + 1) (by omega)
  have fg2 := rest_get (o := fr.toNat * 4 + 2) (by omega)
  have fg3 := rest_get (o := fr.toNat * 4 + 3) (by omega)
  have fl0 := rest_len (o := fr.toNat * 4) (by omega)
  have fl1 := rest_len (o := fr.toNat * 4 + 1) (by omega)
  have fl2 := rest_len (o := fr.toNat * 4 + 2) (by omega)
  have fl3 := rest_len (o := fr.toNat * 4 + 3) (by omega)
  have ts0 := rest_set (o := to.toNat * 4) (by omega)
  have ts1 := rest_set (o := to.toNat * 4 + 1) (by omega)
  have ts2 := rest_set (o := to.toNat * 4 + 2) (by omega)
  have ts3 := rest_set (o := to.toNat * 4 + 3) (by omega)
  have tg0 := rest_get (o := to.toNat * 4) (by omega)
  have tg1 := rest_get (o := to.toNat * 4 + 1) (by omega)
  have tg2 := rest_get (o := to.toNat * 4 + 2) (by omega)
  have tg3 := rest_get (o := to.toNat * 4 + 3) (by omega)
  have tl0 := rest_len (o := to.toNat * 4) (by omega)
  have tl1 := rest_len (o := to.toNat * 4 + 1) (by omega)
  have tl2 := rest_len (o := to.toNat * 4 + 2) (by omega)
  have tl3 := rest_len (o := to.toNat * 4 + 3) (by omega)
  generalize rsT m i = r at *
  unfold x29l1 x29l0
  dsimp only
  have d2 := pad
  have q5 := pad
  have d3 := pad
  have y1 := pad
  have y2 := pad
  clear me
  have iz : ((i = 0) = True ∧ i + 1 = 1 ∧ IntKind.i64.wrap ((i : Int) + 1) = 1 ∧ cF (flT m i) = [] ∧ cM (rlT m i) = []) ∨ ((i = 0) = False ∧ i ≠ 0) := by
    rcases Nat.eq_zero_or_pos i with hz | hz
    · exact .inl ⟨eq_true hz, by omega, by rw [w1]; omega, zF hz, zM hz⟩
    · exact .inr ⟨eq_false (by omega), by omega⟩
  rcases ft with ⟨f0, o0⟩ | ⟨f0, o0⟩ | ⟨f0, o0⟩
  all_goals rcases mb with ⟨x1, x2⟩ | ⟨x1, x2⟩
  all_goals simp only [x2, if_true, Bool.false_eq_true, if_false]
  all_goals rcases eq2 with ⟨d1, d2, d3, d4⟩ | ⟨d1, d4⟩
  all_goals rcases iz with ⟨q1, q5, w1, y1, y2⟩ | ⟨q1, q5⟩
  all_goals (sym => (simp [etaM, etaF, z00,z01,z02,z03,z04,z05,z06,z07,z08,z0a,z0b,z0c,z0f,z0h,z0i,z0n,z0o,z0q,z0s,z0t,z0v,z11,z12,z14,z15,z1f,z1j,z1k,z1l,z1m,z1n,z1o,z1p,z1q,z1r,z1u,z20,z21,z22,z28,z29,z2b,z2g,z2h,z2j,z2k,z2n,z2o,z2s,z2t,z2v,z2y,z33,z34,z36,z37,z38,z39,z3g,z3i,z3j,z3k,z3l,z3m,z3p,z40,z41,z4f,z4l,z4s,z4t,z4v,z4y,z54,z55,z57,z5b,z66,z6d,z6e,z6g,z6j,z8a,z8b,z8d,z8h,z90,z91,z93,z9d,z9e,z9g,z9i,z9j,z9k,z9l,z9m,z9p,z9r,z9s,z9t,z9v,z9w,z9y,za0,za1,za2,za3,za5,za6,za7,za8,za9,zaa,zab,zac,zae,zaf,zag,zal,zam,zaq,zas,zat,zau,zav,zba,zbc,zbd,zbf,zbg,zbk,zca,zcb,zcc,zcd,zce,zcf,zcg,zcn,zco,zcp,zcq,zcr,zct,zcu,zcv,zcw,zcx,zcy,zd3,zd5,zd7,zd8,zdd,zdh,zdj,zdk,zdl,zdm,zdn,zdo,zds,zdt,zdu,zdv,zdw,zdx,ze9,zea,zeb,zec,zeq,zer,zes,zet,zez,zf0,zf1,zf2,zf3,zf4,zf6,zf7,zf8,zf9,zfa,zfb,zfc,zfd,zfg,zfh,zfi,zfj,zfl,zfm,zfo,zfq,zfr,zfs,zft,zfu,zfw,zfy,zfz,zg0,zg1,zhe,zhf,zhi,zhp,zj4,zj7,zj8, execW_loop, gM.eq_1, addK.eq_1, subK.eq_1, a0, a1, a2, a3, a4, a5, a6, a7, a8, c1, c2, d1, d2, d3, d4, q1, q2, q3, q4, q5, w1, y1, y2, f0, o0, x1, lF, lM, k0, k1, k2, k3, fs0, fs1, fs2, fs3, fg0, fg1, fg2, fg3, fl0, fl1, fl2, fl3, ts0, ts1, ts2, ts3, tg0, tg1, tg2, tg3, tl0, tl1, tl2, tl3, cF_gr, cF_nm, cF_sl, cF_len, cF_app, cM_gr, cM_nm, cM_sl, cM_len, cM_app]; all_goals tactic => exact rfl))
end Go.Proofs.Ytdbikamciedfdaa
namespace Go.Proofs.Ytdbikamciedfdaa
open Go Go.DL
set_option maxRecDepth 100000
set_option maxHeartbeats 8000000

theorem made_r2 {m : Mi} {u : Nat} (hu : u < m.n) :
    headX 0 [1, 2, 4, 5, 6, 7, 13] (execW progX 29 0 none (match x29l3 with | .loop _ a => a | c => c) (envL [1, 2, 4, 5, 6, 7, 13] [.pt 0 0, .pt 1 0, I m.n, .pt 2 0, sR (m.c + u), pR (m.c + u), I (u : Nat)]) (gM m (m.c + u) (flU m u) (rlU m u) (rsT m m.c))) =
      some ([.pt 0 0, .pt 1 0, I m.n, .pt 2 0, sR (m.c + (u + 1)), pR (m.c + (u + 1)), I (u + 1 : Nat)], gM m (m.c + (u + 1)) (flU m (u + 1)) (rlU m (u + 1)) (rsT m m.c)) := by
  obtain ⟨n1, n2⟩ := n_bd m
  have hc : m.c ≤ 6 := by unfold Mi.c; omega
  have eF : flU m (u + 1) = flU m u ++ [⟨u, -1, mkMe m (rsT m m.c) u, if mkMe m (rsT m m.c) u then rw4 (rsT m m.c) u else Ms.zero⟩] := rfl
  have eM : rlU m (u + 1) = rlU m u ++ [⟨rsT m m.c (u * 4), rsT m m.c (u * 4 + 1), rsT m m.c (u * 4 + 2), rsT m m.c (u * 4 + 3)⟩] := rfl
  have lF := flU_len m u
  have lM := rlU_len m u
  have ej : m.c + (u + 1) = m.c + u + 1 := by omega
  rw [eF, eM, ej]
  have zF : m.c + u = 0 → cF (flU m u) = [] := fun hz => by
    have : flU m u = [] := List.eq_nil_of_length_eq_zero (by omega)
    rw [this]; rfl
  have zM : m.c + u = 0 → cM (rlU m u) = [] := fun hz => by
    have : rlU m u = [] := List.eq_nil_of_length_eq_zero (by omega)
    rw [this]; rfl
  have a1 : ((u : Int) < (m.n : Int)) = True := eq_true (by omega)
  have a2 : ((u : Int) < 4) = True := eq_true (by omega)
  have a3 : IntKind.i64.wrap (6 + (u : Int)) = 6 + (u : Int) := wrap_ok (by omega) (by omega)
  have a4 : (6 + (u : Int) < 0) = False := eq_false (by omega)
  have a5 : (6 + (u : Int)).toNat = 6 + u := by omega
  have w1 : IntKind.i64.wrap ((u : Int) + 1) = (u : Int) + 1 := wrap_ok (by omega) (by omega)
  have q2 : ((m.c + u + 1) * 56 ≤ 1099511627776) = True := eq_true (by omega)
  have q3 : ((m.c + u + 1) * 32 ≤ 1099511627776) = True := eq_true (by omega)
  have q4 : (m.c + u + 1 ≤ 1099511627776) = True := eq_true (by omega)
  have cl : (u * 4 + 4 ≤ (restL (rsT m m.c)).length) = True := eq_true (by simp [restL]; omega)
  have cr := rest_row (o := u * 4) (by omega) (rsT m m.c)
  have iz : ((m.c + u = 0) = True ∧ m.c + u + 1 = 1 ∧ cF (flU m u) = [] ∧ cM (rlU m u) = []) ∨ ((m.c + u = 0) = False ∧ (0 : Nat) = 0) := by
    rcases Nat.eq_zero_or_pos (m.c + u) with hz | hz
    · exact .inl ⟨eq_true hz, by omega, zF hz, zM hz⟩
    · exact .inr ⟨eq_false (by omega), rfl⟩
  have tg0 := rest_get (o := u * 4) (by omega) (rsT m m.c)
  have tg1 := rest_get (o := u * 4 + 1) (by omega) (rsT m m.c)
  have tg2 := rest_get (o := u * 4 + 2) (by omega) (rsT m m.c)
  have tg3 := rest_get (o := u * 4 + 3) (by omega) (rsT m m.c)
  have mb : ((bitsA .and .u16 (m.kn.fdiv (2 ^ min (6 + u) IntKind.u16.bits)) 1 = 1) = False ∧ mkMe m (rsT m m.c) u = false) ∨
      ((bitsA .and .u16 (m.kn.fdiv (2 ^ min (6 + u) IntKind.u16.bits)) 1 = 1) = True ∧ (((0 ≤ rsT m m.c (u * 4)) = False ∧ mkMe m (rsT m m.c) u = false) ∨ ((0 ≤ rsT m m.c (u * 4)) = True ∧ (((0 ≤ rsT m m.c (u * 4 + 1)) = False ∧ mkMe m (rsT m m.c) u = false) ∨ ((0 ≤ rsT m m.c (u * 4 + 1)) = True ∧ (((0 ≤ rsT m m.c (u * 4 + 2)) = False ∧ mkMe m (rsT m m.c) u = false) ∨ ((0 ≤ rsT m m.c (u * 4 + 2)) = True ∧ (((0 ≤ rsT m m.c (u * 4 + 3)) = False ∧ mkMe m (rsT m m.c) u = false) ∨ ((0 ≤ rsT m m.c (u * 4 + 3)) = True ∧ mkMe m (rsT m m.c) u = true))))))))) := by
    unfold mkMe meB
    generalize rsT m m.c = r
    by_cases h : bitsA .and .u16 (m.kn.fdiv (2 ^ min (6 + u) IntKind.u16.bits)) 1 = 1
    · refine .inr ⟨eq_true h, ?_⟩
      by_cases h0 : 0 ≤ r (u * 4)
      · refine .inr ⟨eq_true h0, ?_⟩
        by_cases h1 : 0 ≤ r (u * 4 + 1)
        · refine .inr ⟨eq_true h1, ?_⟩
          by_cases h2 : 0 ≤ r (u * 4 + 2)
          · refine .inr ⟨eq_true h2, ?_⟩
            by_cases h3 : 0 ≤ r (u * 4 + 3)
            · exact .inr ⟨eq_true h3, by simp [h, h0, h1, h2, h3]⟩
            · exact .inl ⟨eq_false h3, by simp [h3]⟩
          · exact .inl ⟨eq_false h2, by simp [h2]⟩
        · exact .inl ⟨eq_false h1, by simp [h1]⟩
      · exact .inl ⟨eq_false h0, by simp [h0]⟩
    · exact .inl ⟨eq_false h, by simp [h]⟩
  rw [gM_1 (show m.c + u + 1 ≠ 0 by omega)]
  simp only [sR, pR, Nat.add_one_ne_zero, if_false]
  unfold x29l3 x29l2
  dsimp only
  generalize mkMe m (rsT m m.c) u = b at *
  generalize rsT m m.c = r at *
  generalize m.c + u = j at *
  have q5 := pad
  have y1 := pad
  have y2 := pad
  have g0 := pad
  have g1 := pad
  have g2 := pad
  have g3 := pad
  rcases mb with ⟨x1, rfl⟩ | ⟨x1, ⟨g0, rfl⟩ | ⟨g0, ⟨g1, rfl⟩ | ⟨g1, ⟨g2, rfl⟩ | ⟨g2, ⟨g3, rfl⟩ | ⟨g3, rfl⟩⟩⟩⟩⟩
  all_goals simp only [if_true, Bool.false_eq_true, if_false]
  all_goals rcases iz with ⟨q1, q5, y1, y2⟩ | ⟨q1, q5⟩
  all_goals (sym => (simp [etaM, etaF, z00,z01,z02,z03,z04,z05,z06,z07,z0a,z0b,z0c,z0f,z0h,z0i,z0k,z0n,z0o,z0q,z0s,z0t,z0v,z12,z14,z1j,z1k,z1m,z1n,z1o,z1p,z1q,z22,z23,z29,z2j,z2o,z2s,z2t,z2v,z2y,z33,z34,z36,z37,z38,z39,z3g,z3i,z3k,z3m,z3p,z40,z4f,z4l,z4s,z4t,z4v,z54,z55,z57,z5b,z66,z6d,z6e,z6g,z8a,z8b,z8d,z8h,z90,z91,z93,z9d,z9e,z9g,z9i,z9j,z9k,z9l,z9m,z9p,z9r,z9s,z9v,z9w,z9y,za0,za1,za3,za6,za7,za8,za9,zae,zaf,zag,zal,zam,zav,zba,zbc,zbd,zbf,zbg,zbk,zca,zcb,zcc,zcd,zce,zcf,zcg,zcn,zco,zcp,zcq,zcr,zct,zcu,zcv,zcw,zcx,zcy,zd3,zd5,zd7,zd8,zdd,zdj,zdk,zdl,zdm,zdn,zds,zdt,zdu,zdv,zdw,zdx,ze9,zea,zeb,zec,zeq,zer,zes,zet,zez,zf0,zf1,zf2,zf3,zf4,zf6,zf7,zfa,zfb,zfc,zfd,zfg,zfh,zfi,zfj,zfl,zfm,zfo,zfq,zfr,zfs,zft,zfu,zfw,zfy,zfz,zg0,zg1,zhe,zhf,zhp,zj4,zj7,zj8, execW_loop, gM.eq_1, a1, a2, a3, a4, a5, w1, q1, q2, q3, q4, q5, y1, y2, g0, g1, g2, g3, x1, cl, cr, lF, lM, tg0, tg1, tg2, tg3, cF_gr, cF_nm, cF_sl, cF_len, cF_app, cM_gr, cM_nm, cM_sl, cM_len, cM_app]; all_goals tactic => exact rfl))
end Go.Proofs.Ytdbikamciedfdaa
namespace Go.Proofs.Ytdbikamciedfdaa
open Go Go.DL
set_option maxRecDepth 100000
set_option maxHeartbeats 8000000

abbrev miA (m : Mi) : AV := .agg (miC m)
def Mi.N (m : Mi) : Nat := m.c + m.n
theorem w29 {m : Mi} (h : m.Ok) : runW progX 29 [miA m] [] = some (.tup [.agg [I m.n, .sl 0 0 7 m.N], .sl 1 0 4 m.N], [some (.blk true (.cells true (cF (flU m m.n)))), some (.blk true (.cells true (cM (rlU m m.n))))]) := by
  obtain ⟨n1, n2⟩ := n_bd m
  have hu := h.u
  have hc6 : m.c ≤ 6 := by unfold Mi.c; omega
  have a1 : IntKind.i64.wrap m.u = m.u := wrap_ok (by omega) (by omega)
  have a2 : IntKind.i64.wrap (1 + m.u.tmod 4) = (m.n : Int) := by
    have : m.u.tmod 4 = ((m.u.toNat % 4 : Nat) : Int) := by
      rw [Int.tmod_eq_emod_of_nonneg hu.1]; omega
    rw [this, wrap_ok (by omega) (by omega)]
    unfold Mi.n; omega
  have z16 : (restL (rsT m 0)).map I = [I 0, I 0, I 0, I 0, I 0, I 0, I 0, I 0, I 0, I 0, I 0, I 0, I 0, I 0, I 0, I 0] := rfl
  have ex : (((m.c : Int) < (m.ends.length : Int)) = False ∧ (0 : Nat) = 0 ∧ ((m.c = 0) = True)) ∨ (((m.c : Int) < (m.ends.length : Int)) = False ∧ (0 : Nat) = 0 ∧ ((m.c = 0) = False)) ∨ (((m.c : Int) < (m.ends.length : Int)) = True ∧ ((m.c : Int) < 6) = False ∧ ((m.c = 0) = False)) := by
    unfold Mi.c
    by_cases hl : m.ends.length ≤ 6
    · rcases ptf (min m.ends.length 6 = 0) with h | h
      · exact .inl ⟨eq_false (by omega), rfl, h⟩
      · exact .inr (.inl ⟨eq_false (by omega), rfl, h⟩)
    · exact .inr (.inr ⟨eq_true (by omega), eq_false (by omega), eq_false (by omega)⟩)
  have hN : m.c + m.n = m.N := rfl
  have hN0 : m.N ≠ 0 := by unfold Mi.N; omega
  have gl := gM_1 (m := m) hN0
  have gN := zf5 (n := (m.n : Int))
  have s0 : sR 0 = .nilsl := rfl
  have p0 : pR 0 = .pt 3 0 := rfl
  have sN : sR m.N = .sl 4 0 4 m.N := if_neg hN0
  have pN : pR m.N = .pt 5 0 := if_neg hN0
  have g1 := pad
  have g2 := pad
  rw [r29 (by simp)]; unfold x29; dsimp only
  sym =>
    simp [etaM, etaF, z00,z01,z02,z03,z04,z05,z07,z0b,z0c,z0f,z0h,z0i,z0k,z0n,z0o,z0p,z0q,z0r,z0s,z0v,z11,z12,z1f,z1j,z1n,z1o,z22,z23,z28,z29,z2b,z2j,z2n,z2v,z3h,z4f,z4l,z4o,z4p,z4s,z4t,z4v,z4y,z54,z57,z59,z5b,z5e,z66,z69,z6a,z6d,z6e,z6g,z6j,z7r,z7u,z7w,z8a,z8d,z9d,z9e,z9g,z9i,z9j,z9k,z9l,z9m,z9n,z9p,z9r,z9s,z9v,z9w,z9y,za0,za1,za3,za6,za7,za8,za9,zae,zaf,zag,zal,zam,zbt,zbu,zbv,zby,zbz,zc2,zc3,zc4,zc5,zc6,zc7,zc8,zca,zcc,zcd,zce,zcg,zch,zcj,zcn,zco,zcp,zcq,zcr,zct,zcu,zcv,zcw,zcy,zd3,zd5,zdd,zdh,zdj,zdk,zdl,zds,zdt,zdu,zdv,zdw,zdx,ze2,ze3,ze9,zea,zeb,zec,zeo,zep,zf5,zf6,zf7,zfa,zfb,zfc,zfd,zfg,zfm,zfo,zfp,zfr,zfs,zft,zfu,zfy,zfz,zg0,zg1,zhf, a1, a2]
    tactic =>
      unfold x29l1
      rw [loop_rule m.c (fun i => [.pt 0 0, .pt 1 0, I m.n, .pt 2 0, sR i, pR i, .fn (.func 54) [] [.pt 0 0], I (i : Nat)]) (fun i => gM m i (flT m i) (rlT m i) (rsT m i))]
      · rcases ex with ⟨g1, g2, q1⟩ | ⟨g1, g2, q1⟩ | ⟨g1, g2, q1⟩
        all_goals (
          sym =>
            simp [etaM, etaF, z00,z01,z02,z03,z04,z05,z07,z0b,z0c,z0f,z0h,z0i,z0k,z0n,z0o,z0p,z0q,z0r,z0s,z0v,z11,z12,z1f,z1j,z1n,z1o,z22,z23,z28,z29,z2b,z2j,z2n,z2v,z3h,z4f,z4l,z4o,z4p,z4s,z4t,z4v,z4y,z54,z57,z59,z5b,z5e,z66,z69,z6a,z6d,z6e,z6g,z6j,z7r,z7u,z7w,z8a,z8d,z9d,z9e,z9g,z9i,z9j,z9k,z9l,z9m,z9n,z9p,z9r,z9s,z9v,z9w,z9y,za0,za1,za3,za6,za7,za8,za9,zae,zaf,zag,zal,zam,zbt,zbu,zbv,zby,zbz,zc2,zc3,zc4,zc5,zc6,zc7,zc8,zca,zcc,zcd,zce,zcg,zch,zcj,zcn,zco,zcp,zcq,zcr,zct,zcu,zcv,zcw,zcy,zd3,zd5,zdd,zdh,zdj,zdk,zdl,zds,zdt,zdu,zdv,zdw,zdx,ze2,ze3,ze9,zea,zeb,zec,zeo,zep,zf5,zf6,zf7,zfa,zfb,zfc,zfd,zfg,zfm,zfo,zfp,zfr,zfs,zft,zfu,zfy,zfz,zg0,zg1,zhf, g1, g2, gM.eq_1, q1, sR.eq_1, pR.eq_1]
            tactic =>
              unfold x29l3
              rw [loop_rule m.n (fun u => [.pt 0 0, .pt 1 0, I m.n, .pt 2 0, sR (m.c + u), pR (m.c + u), I (u : Nat)]) (fun u => gM m (m.c + u) (flU m u) (rlU m u) (rsT m m.c))]
              · rw [hN, gl]
                (sym => (simp [etaM, etaF, z00,z01,z02,z03,z04,z05,z07,z0b,z0c,z0f,z0h,z0i,z0k,z0n,z0o,z0p,z0q,z0r,z0s,z0v,z11,z12,z1f,z1j,z1n,z1o,z22,z23,z28,z29,z2b,z2j,z2n,z2v,z3h,z4f,z4l,z4o,z4p,z4s,z4t,z4v,z4y,z54,z57,z59,z5b,z5e,z66,z69,z6a,z6d,z6e,z6g,z6j,z7r,z7u,z7w,z8a,z8d,z9d,z9e,z9g,z9i,z9j,z9k,z9l,z9m,z9n,z9p,z9r,z9s,z9v,z9w,z9y,za0,za1,za3,za6,za7,za8,za9,zae,zaf,zag,zal,zam,zbt,zbu,zbv,zby,zbz,zc2,zc3,zc4,zc5,zc6,zc7,zc8,zca,zcc,zcd,zce,zcg,zch,zcj,zcn,zco,zcp,zcq,zcr,zct,zcu,zcv,zcw,zcy,zd3,zd5,zdd,zdh,zdj,zdk,zdl,zds,zdt,zdu,zdv,zdw,zdx,ze2,ze3,ze9,zea,zeb,zec,zeo,zep,zf5,zf6,zf7,zfa,zfb,zfc,zfd,zfg,zfm,zfo,zfp,zfr,zfs,zft,zfu,zfy,zfz,zg0,zg1,zhf, gN, sN, pN, cF_gr, cF_nm, cF_sl, cM_gr, cM_nm, cM_sl]; all_goals tactic => exact rfl))
              · rw [Nat.add_zero, show flU m 0 = flT m m.c from rfl, show rlU m 0 = rlT m m.c from rfl]
                (sym => (simp [etaM, etaF, z00,z01,z02,z03,z04,z05,z07,z0b,z0c,z0f,z0h,z0i,z0k,z0n,z0o,z0p,z0q,z0r,z0s,z0v,z11,z12,z1f,z1j,z1n,z1o,z22,z23,z28,z29,z2b,z2j,z2n,z2v,z3h,z4f,z4l,z4o,z4p,z4s,z4t,z4v,z4y,z54,z57,z59,z5b,z5e,z66,z69,z6a,z6d,z6e,z6g,z6j,z7r,z7u,z7w,z8a,z8d,z9d,z9e,z9g,z9i,z9j,z9k,z9l,z9m,z9n,z9p,z9r,z9s,z9v,z9w,z9y,za0,za1,za3,za6,za7,za8,za9,zae,zaf,zag,zal,zam,zbt,zbu,zbv,zby,zbz,zc2,zc3,zc4,zc5,zc6,zc7,zc8,zca,zcc,zcd,zce,zcg,zch,zcj,zcn,zco,zcp,zcq,zcr,zct,zcu,zcv,zcw,zcy,zd3,zd5,zdd,zdh,zdj,zdk,zdl,zds,zdt,zdu,zdv,zdw,zdx,ze2,ze3,ze9,zea,zeb,zec,zeo,zep,zf5,zf6,zf7,zfa,zfb,zfc,zfd,zfg,zfm,zfo,zfp,zfr,zfs,zft,zfu,zfy,zfz,zg0,zg1,zhf, gM.eq_1, q1, sR.eq_1, pR.eq_1]; all_goals tactic => exact rfl))
              · intro u hu
                exact made_r2 hu
              · rw [hN, gl]
                (sym => (simp [etaM, etaF, z00,z01,z02,z03,z04,z05,z07,z0b,z0c,z0f,z0h,z0i,z0k,z0n,z0o,z0p,z0q,z0r,z0s,z0v,z11,z12,z1f,z1j,z1n,z1o,z22,z23,z28,z29,z2b,z2j,z2n,z2v,z3h,z4f,z4l,z4o,z4p,z4s,z4t,z4v,z4y,z54,z57,z59,z5b,z5e,z66,z69,z6a,z6d,z6e,z6g,z6j,z7r,z7u,z7w,z8a,z8d,z9d,z9e,z9g,z9i,z9j,z9k,z9l,z9m,z9n,z9p,z9r,z9s,z9v,z9w,z9y,za0,za1,za3,za6,za7,za8,za9,zae,zaf,zag,zal,zam,zbt,zbu,zbv,zby,zbz,zc2,zc3,zc4,zc5,zc6,zc7,zc8,zca,zcc,zcd,zce,zcg,zch,zcj,zcn,zco,zcp,zcq,zcr,zct,zcu,zcv,zcw,zcy,zd3,zd5,zdd,zdh,zdj,zdk,zdl,zds,zdt,zdu,zdv,zdw,zdx,ze2,ze3,ze9,zea,zeb,zec,zeo,zep,zf5,zf6,zf7,zfa,zfb,zfc,zfd,zfg,zfm,zfo,zfp,zfr,zfs,zft,zfu,zfy,zfz,zg0,zg1,zhf, gN, sN, pN, cF_gr, cF_nm, cF_sl, cM_gr, cM_nm, cM_sl]; all_goals tactic => exact rfl)))
      · rw [gM_0]
        sym =>
          simp [etaM, etaF, z00,z01,z02,z03,z04,z05,z07,z0b,z0c,z0f,z0h,z0i,z0k,z0n,z0o,z0p,z0q,z0r,z0s,z0v,z11,z12,z1f,z1j,z1n,z1o,z22,z23,z28,z29,z2b,z2j,z2n,z2v,z3h,z4f,z4l,z4o,z4p,z4s,z4t,z4v,z4y,z54,z57,z59,z5b,z5e,z66,z69,z6a,z6d,z6e,z6g,z6j,z7r,z7u,z7w,z8a,z8d,z9d,z9e,z9g,z9i,z9j,z9k,z9l,z9m,z9n,z9p,z9r,z9s,z9v,z9w,z9y,za0,za1,za3,za6,za7,za8,za9,zae,zaf,zag,zal,zam,zbt,zbu,zbv,zby,zbz,zc2,zc3,zc4,zc5,zc6,zc7,zc8,zca,zcc,zcd,zce,zcg,zch,zcj,zcn,zco,zcp,zcq,zcr,zct,zcu,zcv,zcw,zcy,zd3,zd5,zdd,zdh,zdj,zdk,zdl,zds,zdt,zdu,zdv,zdw,zdx,ze2,ze3,ze9,zea,zeb,zec,zeo,zep,zf5,zf6,zf7,zfa,zfb,zfc,zfd,zfg,zfm,zfo,zfp,zfr,zfs,zft,zfu,zfy,zfz,zg0,zg1,zhf, s0, p0, z16, a2]
          tactic => simp only [a2]
      · intro i hi
        exact made_r1 h hi
      · rcases ex with ⟨g1, g2, q1⟩ | ⟨g1, g2, q1⟩ | ⟨g1, g2, q1⟩ <;> (sym => (simp [etaM, etaF, z00,z01,z02,z03,z04,z05,z07,z0b,z0c,z0f,z0h,z0i,z0k,z0n,z0o,z0p,z0q,z0r,z0s,z0v,z11,z12,z1f,z1j,z1n,z1o,z22,z23,z28,z29,z2b,z2j,z2n,z2v,z3h,z4f,z4l,z4o,z4p,z4s,z4t,z4v,z4y,z54,z57,z59,z5b,z5e,z66,z69,z6a,z6d,z6e,z6g,z6j,z7r,z7u,z7w,z8a,z8d,z9d,z9e,z9g,z9i,z9j,z9k,z9l,z9m,z9n,z9p,z9r,z9s,z9v,z9w,z9y,za0,za1,za3,za6,za7,za8,za9,zae,zaf,zag,zal,zam,zbt,zbu,zbv,zby,zbz,zc2,zc3,zc4,zc5,zc6,zc7,zc8,zca,zcc,zcd,zce,zcg,zch,zcj,zcn,zco,zcp,zcq,zcr,zct,zcu,zcv,zcw,zcy,zd3,zd5,zdd,zdh,zdj,zdk,zdl,zds,zdt,zdu,zdv,zdw,zdx,ze2,ze3,ze9,zea,zeb,zec,zeo,zep,zf5,zf6,zf7,zfa,zfb,zfc,zfd,zfg,zfm,zfo,zfp,zfr,zfs,zft,zfu,zfy,zfz,zg0,zg1,zhf, g1, g2, gM.eq_1, q1, sR.eq_1, pR.eq_1]; all_goals tactic => exact rfl))
end Go.Proofs.Ytdbikamciedfdaa
namespace Go.Proofs.Ytdbikamciedfdaa
open Go Go.DL
set_option maxRecDepth 100000
set_option maxHeartbeats 8000000

end Go.Proofs.Ytdbikamciedfdaa
namespace Go.Proofs.Ytdbikamciedfdaa
open Go Go.DL
set_option maxRecDepth 100000
set_option maxHeartbeats 1000000

/-- A flow as a plant may have it. -/
structure OkF (n : Nat) (x : Fl) : Prop where
  fr : -1 ≤ x.fr ∧ x.fr < n
  to : -1 ≤ x.to ∧ x.to < n
  ne : x.fr ≠ x.to
  ma : x.me = true → ∀ k, 0 ≤ cmp k x.m ∧ cmp k x.m ≤ 1000000000
theorem within_of {x : Ms} (h : ∀ k, 0 ≤ cmp k x ∧ cmp k x ≤ 1000000000) : x.within 0 1000000000 = true := by
  have h0 := h 0
  have h1 := h 1
  have h2 := h 2
  have h3 := h 3
  simp only [cmp] at h0 h1 h2 h3
  simp only [Ms.within, btw, Bool.and_eq_true, decide_eq_true_eq]
  omega
theorem chkF_of {n : Nat} (hn : n ≤ 8) {x : Fl} (h : OkF n x) : chkF n x = 0 := by
  obtain ⟨⟨a, b⟩, ⟨c, d⟩, e, g⟩ := h
  have w : wr ((n : Int) - 1) = (n : Int) - 1 := wrap_ok (by omega) (by omega)
  have h1 : btw (-1) x.fr (wr ((n : Int) - 1)) = true := by rw [w]; simp only [btw, Bool.and_eq_true, decide_eq_true_eq]; omega
  have h2 : btw (-1) x.to (wr ((n : Int) - 1)) = true := by rw [w]; simp only [btw, Bool.and_eq_true, decide_eq_true_eq]; omega
  unfold chkF
  rw [h1, h2, if_neg e]
  cases hm : x.me with
  | false => rfl
  | true => rw [within_of (g hm)]; rfl
theorem firstE_of {u : Int} : ∀ {l : List Fl}, (∀ x ∈ l, chkF u x = 0) → firstE u l = 0
  | [], _ => rfl
  | x :: r, h => by
    rw [firstE, if_pos (h x (by simp))]
    exact firstE_of fun y hy => h y (by simp [hy])
theorem checkP_of {n : Nat} (h1 : 1 ≤ n) (hn : n ≤ 8) {l : List Fl} (hl : l.length ≤ 20) (h : ∀ x ∈ l, OkF n x) : checkP n l = 0 := by
  have hb : btw 1 (n : Int) 8 = true := by simp only [btw, Bool.and_eq_true, decide_eq_true_eq]; omega
  unfold checkP
  rw [hb, if_pos rfl, if_neg (by omega)]
  exact firstE_of fun x hx => chkF_of hn (h x hx)
/-! ### What is left -/
def netT (m : Mi) (u k : Nat) : Nat → Int
  | 0 => 0
  | i + 1 => match m.ends[i]? with
    | some e => netT m u k i + (bi (decide (e2I m e = u)) - bi (decide (e1I m e = u))) * mval m i k
    | none => netT m u k i
theorem addK_at {t : Int} (ht : -1 ≤ t) {k k' u : Nat} (hk : k < 4) (hk' : k' < 4) (v : Int) (r : Nat → Int) : addK t k v r (u * 4 + k') = if t = u ∧ k = k' then wr (r (u * 4 + k') + v) else r (u * 4 + k') := by
  unfold addK
  by_cases h0 : 0 ≤ t
  · rw [if_pos h0]
    unfold upN
    by_cases h : t = u ∧ k = k'
    · rw [if_pos h, if_pos (by omega), show t.toNat * 4 + k = u * 4 + k' by omega]
    · rw [if_neg h, if_neg (by omega)]
  · rw [if_neg h0, if_neg (by omega)]
theorem subK_at {t : Int} (ht : -1 ≤ t) {k k' u : Nat} (hk : k < 4) (hk' : k' < 4) (v : Int) (r : Nat → Int) : subK t k v r (u * 4 + k') = if t = u ∧ k = k' then wr (r (u * 4 + k') - v) else r (u * 4 + k') := by
  unfold subK
  by_cases h0 : 0 ≤ t
  · rw [if_pos h0]
    unfold upN
    by_cases h : t = u ∧ k = k'
    · rw [if_pos h, if_pos (by omega), show t.toNat * 4 + k = u * 4 + k' by omega]
    · rw [if_neg h, if_neg (by omega)]
  · rw [if_neg h0, if_neg (by omega)]
theorem stepK_at {fr to : Int} (hf : -1 ≤ fr) (ht : -1 ≤ to) (m : Mi) (i : Nat) {k k' u : Nat} (hk : k < 4) (hk' : k' < 4) (r : Nat → Int) :
    stepK fr to m i k r (u * 4 + k') = if k = k' then (if fr = u then wr ((if to = u then wr (r (u * 4 + k') + mval m i k) else r (u * 4 + k')) - mval m i k) else (if to = u then wr (r (u * 4 + k') + mval m i k) else r (u * 4 + k'))) else r (u * 4 + k') := by
  unfold stepK
  rw [subK_at hf hk hk', addK_at ht hk hk']
  by_cases h : k = k'
  · subst h; simp
  · simp [h]
theorem net_bd {m : Mi} (h : m.Ok) (u k : Nat) : ∀ i : Nat, -(255 * (i : Int)) ≤ netT m u k i ∧ netT m u k i ≤ 255 * (i : Int)
  | 0 => by simp [netT]
  | i + 1 => by
    have ih := net_bd h u k i
    have b := mval_bd h i k
    rw [netT]
    split
    · unfold bi
      split <;> split <;> simp only [Int.sub_self, Int.zero_mul, Int.sub_zero, Int.one_mul, Int.zero_sub] <;> omega
    · omega
theorem rsT_net {m : Mi} (h : m.Ok) (u : Nat) {k : Nat} (hk : k < 4) : ∀ i : Nat, i ≤ 6 → rsT m i (u * 4 + k) = netT m u k i
  | 0, _ => rfl
  | i + 1, hi => by
    have ih := rsT_net h u hk i (by omega)
    have nb := net_bd h u k i
    rw [rsT, netT]
    cases he : m.ends[i]? with
    | none => exact ih
    | some e =>
      have hm := List.mem_of_getElem? he
      obtain ⟨h1, h2⟩ := h.ends e hm
      obtain ⟨b1, b2, b3, b4, b5⟩ := ends_bd (m := m) h1 h2
      have b := mval_bd h i k
      have key : (if e1I m e = u then wr ((if e2I m e = u then wr (netT m u k i + mval m i k) else netT m u k i) - mval m i k) else (if e2I m e = u then wr (netT m u k i + mval m i k) else netT m u k i)) = netT m u k i + (bi (decide (e2I m e = u)) - bi (decide (e1I m e = u))) * mval m i k := by
        by_cases c1 : e1I m e = u
        · have c2 : ¬ e2I m e = u := fun hc => b5 (by rw [c1, hc])
          rw [if_pos c1, if_neg c2, decide_eq_true c1, decide_eq_false c2, show wr (netT m u k i - mval m i k) = netT m u k i - mval m i k from wrap_ok (by omega) (by omega)]
          simp [bi]
          omega
        · rw [if_neg c1, decide_eq_false c1]
          by_cases c2 : e2I m e = u
          · rw [if_pos c2, decide_eq_true c2, show wr (netT m u k i + mval m i k) = netT m u k i + mval m i k from wrap_ok (by omega) (by omega)]
            simp [bi]
          · rw [if_neg c2, decide_eq_false c2]
            simp [bi]
      simp only []
      rw [← key, ← ih]
      match k, hk with
      | 0, hk => simp only [stepK_at b1 b3 m i (show 3 < 4 by decide) hk, stepK_at b1 b3 m i (show 2 < 4 by decide) hk, stepK_at b1 b3 m i (show 1 < 4 by decide) hk, stepK_at b1 b3 m i (show 0 < 4 by decide) hk]; simp
      | 1, hk => simp only [stepK_at b1 b3 m i (show 3 < 4 by decide) hk, stepK_at b1 b3 m i (show 2 < 4 by decide) hk, stepK_at b1 b3 m i (show 1 < 4 by decide) hk, stepK_at b1 b3 m i (show 0 < 4 by decide) hk]; simp
      | 2, hk => simp only [stepK_at b1 b3 m i (show 3 < 4 by decide) hk, stepK_at b1 b3 m i (show 2 < 4 by decide) hk, stepK_at b1 b3 m i (show 1 < 4 by decide) hk, stepK_at b1 b3 m i (show 0 < 4 by decide) hk]; simp
      | 3, hk => simp only [stepK_at b1 b3 m i (show 3 < 4 by decide) hk, stepK_at b1 b3 m i (show 2 < 4 by decide) hk, stepK_at b1 b3 m i (show 1 < 4 by decide) hk, stepK_at b1 b3 m i (show 0 < 4 by decide) hk]; simp
theorem cmp_4 (k : Nat) (m : Ms) : cmp k m = m.a ∨ cmp k m = m.b ∨ cmp k m = m.c ∨ cmp k m = m.d := by
  unfold cmp
  split
  · exact .inl rfl
  · exact .inr (.inl rfl)
  · exact .inr (.inr (.inl rfl))
  · exact .inr (.inr (.inr rfl))
/-- What is made: as a plant may have it, and small. -/
structure OkM (n : Nat) (x : Fl) : Prop where
  fr : -1 ≤ x.fr ∧ x.fr < n
  to : -1 ≤ x.to ∧ x.to < n
  ne : x.fr ≠ x.to
  ma : ∀ k, 0 ≤ cmp k x.m ∧ cmp k x.m ≤ 2000
theorem cmp_mass4 {m : Mi} (h : m.Ok) (i k : Nat) : 0 ≤ cmp k (mass4 m i) ∧ cmp k (mass4 m i) ≤ 2000 := by
  have := mval_bd h i 0
  have := mval_bd h i 1
  have := mval_bd h i 2
  have := mval_bd h i 3
  rcases cmp_4 k (mass4 m i) with e | e | e | e <;> rw [e] <;> unfold mass4 <;> dsimp only <;> omega
theorem cmp_zero (k : Nat) : cmp k Ms.zero = 0 := by unfold cmp; split <;> rfl
theorem flT_okM {m : Mi} (h : m.Ok) : ∀ i, i ≤ 6 → ∀ x ∈ flT m i, OkM m.n x
  | 0, _, x, hx => by simp [flT] at hx
  | i + 1, hi, x, hx => by
    rw [flT] at hx
    cases he : m.ends[i]? with
    | none => rw [he] at hx; exact flT_okM h i (by omega) x hx
    | some e =>
      rw [he] at hx
      rcases List.mem_append.1 hx with hx | hx
      · exact flT_okM h i (by omega) x hx
      · simp only [List.mem_cons, List.not_mem_nil, or_false] at hx
        obtain ⟨h1, h2⟩ := h.ends e (List.mem_of_getElem? he)
        obtain ⟨b1, b2, b3, b4, b5⟩ := ends_bd (m := m) h1 h2
        subst hx
        refine ⟨⟨b1, b2⟩, ⟨b3, b4⟩, b5, fun k => ?_⟩
        show 0 ≤ cmp k (if meB m.kn i then mass4 m i else Ms.zero) ∧ _
        unfold mkF
        dsimp only
        split
        · exact cmp_mass4 h i k
        · rw [cmp_zero]; omega
theorem c_le (m : Mi) : m.c ≤ 6 := by unfold Mi.c; omega
theorem flU_okM {m : Mi} (h : m.Ok) : ∀ u, u ≤ m.n → ∀ x ∈ flU m u, OkM m.n x
  | 0, _, x, hx => flT_okM h m.c (c_le m) x hx
  | u + 1, hu, x, hx => by
    rw [flU] at hx
    rcases List.mem_append.1 hx with hx | hx
    · exact flU_okM h u (by omega) x hx
    · simp only [List.mem_cons, List.not_mem_nil, or_false] at hx
      subst hx
      refine ⟨⟨by show -1 ≤ (u : Int); omega, by show (u : Int) < m.n; omega⟩, ⟨by show (-1 : Int) ≤ -1; omega, by show (-1 : Int) < m.n; omega⟩, by show (u : Int) ≠ -1; omega, fun k => ?_⟩
      unfold mkC
      dsimp only
      split
      · rename_i hme
        unfold mkMe at hme
        simp only [Bool.and_eq_true, decide_eq_true_eq] at hme
        obtain ⟨_, g0, g1, g2, g3⟩ := hme
        have c6 := c_le m
        have n0 := rsT_net h u (k := 0) (by decide) m.c c6
        have n1 := rsT_net h u (k := 1) (by decide) m.c c6
        have n2 := rsT_net h u (k := 2) (by decide) m.c c6
        have n3 := rsT_net h u (k := 3) (by decide) m.c c6
        have d0 := net_bd h u 0 m.c
        have d1 := net_bd h u 1 m.c
        have d2 := net_bd h u 2 m.c
        have d3 := net_bd h u 3 m.c
        rw [Nat.add_zero] at n0
        rcases cmp_4 k (rw4 (rsT m m.c) u) with e | e | e | e <;> rw [e] <;> unfold rw4 <;> dsimp only <;> omega
      · rw [cmp_zero]; omega
theorem okF_of {n : Nat} {x : Fl} (h : OkM n x) : OkF n x := ⟨h.fr, h.to, h.ne, fun _ k => by have := h.ma k; omega⟩
theorem N_le (m : Mi) : m.N ≤ 10 ∧ 1 ≤ m.N := by
  have := n_bd m
  have := c_le m
  unfold Mi.N; omega
theorem fl_len (m : Mi) : (flU m m.n).length = m.N := flU_len m m.n
theorem made_check {m : Mi} (h : m.Ok) : checkP m.n (flU m m.n) = 0 := by
  obtain ⟨n1, n2⟩ := n_bd m
  have := N_le m
  exact checkP_of n1 (by omega) (by rw [fl_len]; omega) fun x hx => okF_of (flU_okM h m.n (Nat.le_refl _) x hx)
end Go.Proofs.Ytdbikamciedfdaa
namespace Go.Proofs.Ytdbikamciedfdaa
open Go Go.DL
set_option maxRecDepth 100000
set_option maxHeartbeats 4000000

theorem cF_get {l : List Fl} {i : Nat} {x : Fl} (h : l[i]? = some x) {c : Nat} (hc : c < 7) : (cF l)[i * 7 + c]? = x.row[c]? := by
  induction l generalizing i with
  | nil => simp at h
  | cons y r ih =>
    have e : cF (y :: r) = y.row ++ cF r := rfl
    cases i with
    | zero =>
      simp only [List.getElem?_cons_zero, Option.some.injEq] at h
      subst h
      rw [e, Nat.zero_mul, Nat.zero_add, List.getElem?_append_left (by simpa using hc)]
    | succ i =>
      simp only [List.getElem?_cons_succ] at h
      rw [e, List.getElem?_append_right (by simp only [Fl.row, List.length_cons, List.length_nil]; omega), ← ih h]
      congr 1
      simp only [Fl.row, List.length_cons, List.length_nil]; omega
def setM (k : Nat) (v : Int) (m : Ms) : Ms := match k with
  | 0 => ⟨v, m.b, m.c, m.d⟩
  | 1 => ⟨m.a, v, m.c, m.d⟩
  | 2 => ⟨m.a, m.b, v, m.d⟩
  | _ => ⟨m.a, m.b, m.c, v⟩
theorem cF_set {l : List Fl} {i : Nat} {x : Fl} (h : l[i]? = some x) {k : Nat} (hk : k < 4) (v : Int) : (cF l).set (i * 7 + (3 + k)) (I v) = cF (l.set i ⟨x.fr, x.to, x.me, setM k v x.m⟩) := by
  induction l generalizing i with
  | nil => simp at h
  | cons y r ih =>
    have e : cF (y :: r) = y.row ++ cF r := rfl
    cases i with
    | zero =>
      simp only [List.getElem?_cons_zero, Option.some.injEq] at h
      subst h
      rw [e, Nat.zero_mul, Nat.zero_add, List.set_append_left _ _ (by simp only [Fl.row, List.length_cons, List.length_nil]; omega), List.set_cons_zero]
      match k, hk with
      | 0, _ => rfl
      | 1, _ => rfl
      | 2, _ => rfl
      | 3, _ => rfl
    | succ i =>
      simp only [List.getElem?_cons_succ] at h
      rw [e, List.set_append_right _ _ (by simp only [Fl.row, List.length_cons, List.length_nil]; omega), List.set_cons_succ, show cF (y :: r.set i ⟨x.fr, x.to, x.me, setM k v x.m⟩) = y.row ++ cF (r.set i ⟨x.fr, x.to, x.me, setM k v x.m⟩) from rfl, ← ih h]
      congr 2
      simp only [Fl.row, List.length_cons, List.length_nil]; omega
theorem cF_ch (l : List Fl) : chunks (cF l) 0 7 l.length = l.map Fl.row := by
  have := rows_chunks (fl_ok l)
  rw [List.length_map] at this
  exact this
theorem cF_spl {l : List Fl} {i : Nat} {x : Fl} (h : l[i]? = some x) {k : Nat} (hk : k < 4) (v : Int) : splice (cF l) (i * 7 + 3 + k) [I v] = cF (l.set i ⟨x.fr, x.to, x.me, setM k v x.m⟩) := by
  have hi : i < l.length := by rw [List.getElem?_eq_some_iff] at h; exact h.1
  rw [← cF_set h hk, ← setX_set (by rw [cF_len]; omega), Nat.add_assoc]
  simp [splice, setX]

end Go.Proofs.Ytdbikamciedfdaa
namespace Go.Proofs.Ytdbikamciedfdaa
open Go Go.DL
set_option maxRecDepth 100000
set_option maxHeartbeats 4000000

/-! ### A set by numbers -/
/-! ### Masses set one by one -/
end Go.Proofs.Ytdbikamciedfdaa
namespace Go.Proofs.Ytdbikamciedfdaa
open Go Go.DL
set_option maxRecDepth 100000
set_option maxHeartbeats 1000000

/-- What masses bring to a set. -/
def linR (S : Int → Bool) (l : List Fl) (rl : List Ms) (k : Nat) : Nat → Int
  | 0 => 0
  | i + 1 => linR S l rl k i + match l[i]? with
    | some x => (bi (S x.to) - bi (S x.fr)) * cmp k (rl.getD i Ms.zero)
    | none => 0
structure Bal (l : List Fl) (rl : List Ms) : Prop where
  zero : ∀ S : Int → Bool, S (-1) = false → ∀ k, linR S l rl k l.length = 0
  agree : ∀ (i : Nat) (x : Fl), l[i]? = some x → x.me = true → x.m = rl.getD i Ms.zero
section
variable {U : Nat} {l : List Fl} {rl : List Ms}
theorem lin_real (ha : ∀ (i : Nat) (x : Fl), l[i]? = some x → x.me = true → x.m = rl.getD i Ms.zero) {S : Int → Bool} (hS : ClosedS (-1) l S) (k : Nat) : ∀ n, linI S (-1) l k n = linR S l rl k n
  | 0 => rfl
  | n + 1 => by
    have ih := lin_real ha hS k n
    simp only [linI, linR, ih]
    cases hx : l[n]? with
    | none => rfl
    | some x =>
      simp only []
      have hd : decide ((n : Int) = -1) = false := decide_eq_false (by omega)
      cases hm : x.me with
      | true => rw [← ha n x hx hm, hd]; simp
      | false =>
        have := hS n x hx hm (by omega)
        rw [this]
        simp
theorem lin_real_j (ha : ∀ (i : Nat) (x : Fl), l[i]? = some x → x.me = true → x.m = rl.getD i Ms.zero) {S : Int → Bool} {j : Nat} {y : Fl} (hy : l[j]? = some y) (hym : y.me = false) (hS : ClosedS j l S) (k : Nat) :
    ∀ n, linI S (-1) l k n + (if j < n then (bi (S y.to) - bi (S y.fr)) * cmp k (rl.getD j Ms.zero) else 0) = linR S l rl k n
  | 0 => by simp [linI, linR]
  | n + 1 => by
    have ih := lin_real_j ha hy hym hS k n
    simp only [linI, linR, ← ih]
    cases hx : l[n]? with
    | none =>
      have h1 : n ≠ j := fun e => by rw [e, hy] at hx; simp at hx
      simp only []
      by_cases h2 : j < n
      · rw [if_pos h2, if_pos (by omega)]; omega
      · rw [if_neg h2, if_neg (by omega)]
    | some x =>
      simp only []
      have hd : decide ((n : Int) = -1) = false := decide_eq_false (by omega)
      by_cases hnj : n = j
      · subst hnj
        rw [hy] at hx
        simp only [Option.some.injEq] at hx
        subst hx
        rw [hym]
        simp only [Bool.false_and, Bool.false_eq_true, if_false, Nat.lt_irrefl, Nat.lt_succ_self, if_true]
      · rw [show (if j < n + 1 then (bi (S y.to) - bi (S y.fr)) * cmp k (rl.getD j Ms.zero) else 0) = (if j < n then (bi (S y.to) - bi (S y.fr)) * cmp k (rl.getD j Ms.zero) else 0) by
          by_cases h2 : j < n
          · rw [if_pos h2, if_pos (by omega)]
          · rw [if_neg h2, if_neg (by omega)]]
        cases hm : x.me with
        | true =>
          rw [← ha n x hx hm, hd]
          simp only [Bool.not_false, Bool.and_self, if_true]
          omega
        | false =>
          have := hS n x hx hm (by omega)
          rw [this]
          simp
theorem cls_closed (wo : Int) (c : Int) : ClosedS wo l fun y => decide (gI wo l l.length y = c) := by
  intro i y hy hm hw
  have hi : i < l.length := by rw [List.getElem?_eq_some_iff] at hy; exact hy.1
  simp only [gI_joined hy hm hw l.length hi]
/-- No part has an excess, said by sets. -/
theorem noClash_of (h : checkP U l = 0) (hz : ∀ S : Int → Bool, S (-1) = false → ClosedS (-1) l S → ∀ k, linI S (-1) l k l.length = 0) : NoClash U l := by
  obtain ⟨u1, u2, u3, u4⟩ := checkP_u h
  have gm1 := gI_m1 h (-1) l.length
  refine clF_none fun i hi => ?_
  unfold clP
  split
  · rw [ex_side (rngL_of h) gm1 i, Option.map_eq_none_iff]
    have hc : ∀ k, cmp k (exI (fun x => decide (gI (-1) l l.length x = i)) (-1) l l.length) = 0 := by
      intro k
      rw [ex_lin (boundL_of h) k l.length (by omega)]
      exact hz _ (by rw [gm1]; exact decide_eq_false (by omega)) (cls_closed _ _) k
    generalize exI (fun x => decide (gI (-1) l l.length x = i)) (-1) l l.length = m at hc
    have h0 : m.a = 0 := hc 0
    have h1 : m.b = 0 := hc 1
    have h2 : m.c = 0 := hc 2
    have h3 : m.d = 0 := hc 3
    unfold kd
    rw [if_pos h0, if_pos h1, if_pos h2, if_pos h3]
  · rfl
theorem bal_noclash (h : checkP U l = 0) (b : Bal l rl) : NoClash U l := noClash_of h fun S h1 h2 k => by rw [lin_real b.agree h2 k, b.zero S h1 k]
theorem kn_me {j : Nat} {x : Fl} (hm : x.me = true) : knAt l j x = ⟨1, x.m⟩ := by
  unfold knAt knF
  cases foundP l j x <;> simp [hm]
theorem kn_open {j : Nat} {x : Fl} (hm : x.me = false) (hg : gI j l l.length x.fr = gI j l l.length x.to) : knAt l j x = ⟨3, Ms.zero⟩ := by
  unfold knAt foundP
  rw [if_pos hg]
  simp [knF, hm]
theorem gap_set (h : checkP U l = 0) {j : Nat} {x : Fl} (hx : l[j]? = some x) (hg : ¬ gI j l l.length x.fr = gI j l l.length x.to) : ∃ S : Int → Bool, ClosedS j l S ∧ S (-1) = false ∧ S x.fr ≠ S x.to := by
  have gm1 := gI_m1 h j l.length
  by_cases h1 : gI j l l.length x.fr = -1
  · refine ⟨fun y => decide (gI j l l.length y = gI j l l.length x.to), cls_closed _ _, ?_, ?_⟩
    · show decide (gI j l l.length (-1) = gI j l l.length x.to) = false
      rw [gm1, ← h1]; exact decide_eq_false hg
    · simp [hg]
  · refine ⟨fun y => decide (gI j l l.length y = gI j l l.length x.fr), cls_closed _ _, ?_, ?_⟩
    · show decide (gI j l l.length (-1) = gI j l l.length x.fr) = false
      rw [gm1]; exact decide_eq_false (fun e => h1 e.symm)
    · simp only [decide_true, ne_eq]
      intro e
      exact hg (of_decide_eq_true e.symm).symm
theorem bal_found (h : checkP U l = 0) (b : Bal l rl) {j : Nat} {x : Fl} (hx : l[j]? = some x) (hm : x.me = false) (hg : ¬ gI j l l.length x.fr = gI j l l.length x.to) : knAt l j x = ⟨2, rl.getD j Ms.zero⟩ := by
  obtain ⟨S, s1, s2, s3⟩ := gap_set h hx hg
  obtain ⟨f1, f2⟩ := found_by h (bal_noclash h b) hx hm s1 s2 s3
  have hj : j < l.length := by rw [List.getElem?_eq_some_iff] at hx; exact hx.1
  have key : (knAt l j x).m = rl.getD j Ms.zero := by
    apply ms_ext
    intro k
    have e := lin_real_j b.agree hx hm s1 k l.length
    rw [if_pos hj, b.zero S s2 k] at e
    rw [f2 k]
    generalize cmp k (rl.getD j Ms.zero) = v at *
    generalize linI S (-1) l k l.length = t at *
    revert e s3
    cases S x.fr <;> cases S x.to <;> simp [bi] <;> omega
  revert f1 key
  cases knAt l j x
  simp only
  rintro rfl rfl
  rfl
end
/-! ### What is made -/
theorem cmp_mk (k : Nat) (f : Nat → Int) : cmp k ⟨f 0, f 1, f 2, f 3⟩ = f (min k 3) := by
  match k with
  | 0 => rfl
  | 1 => rfl
  | 2 => rfl
  | k + 3 => rw [show min (k + 3) 3 = 3 by omega]; rfl
theorem linR_app (S : Int → Bool) (l l2 : List Fl) (rl rl2 : List Ms) (k : Nat) (hl : rl.length = l.length) : ∀ n, n ≤ l.length → linR S (l ++ l2) (rl ++ rl2) k n = linR S l rl k n
  | 0, _ => rfl
  | n + 1, hn => by
    have ih := linR_app S l l2 rl rl2 k hl n (by omega)
    simp only [linR, ih, List.getD_eq_getElem?_getD]
    rw [List.getElem?_append_left (by omega), List.getElem?_append_left (by omega)]
theorem linR_snoc (S : Int → Bool) (l : List Fl) (rl : List Ms) (x : Fl) (m : Ms) (k : Nat) (hl : rl.length = l.length) : linR S (l ++ [x]) (rl ++ [m]) k (l.length + 1) = linR S l rl k l.length + (bi (S x.to) - bi (S x.fr)) * cmp k m := by
  rw [linR, linR_app S l [x] rl [m] k hl _ (Nat.le_refl _), List.getElem?_append_right (Nat.le_refl _), List.getD_eq_getElem?_getD, List.getElem?_append_right (by omega), hl, Nat.sub_self]
  rfl
/-- What all units are left. -/
def sumN (S : Int → Bool) (f : Nat → Int) : Nat → Int
  | 0 => 0
  | u + 1 => sumN S f u + bi (S u) * f u
theorem sumN_0 (S : Int → Bool) : ∀ n, sumN S (fun _ => 0) n = 0
  | 0 => rfl
  | n + 1 => by rw [sumN, sumN_0 S n]; simp
theorem sumN_add (S : Int → Bool) (f g : Nat → Int) : ∀ n, sumN S (fun u => f u + g u) n = sumN S f n + sumN S g n
  | 0 => rfl
  | n + 1 => by simp only [sumN, sumN_add S f g n, Int.mul_add]; omega
theorem sumN_at (S : Int → Bool) (t v : Int) (ht : -1 ≤ t) : ∀ n : Nat, sumN S (fun u => bi (decide (t = u)) * v) n = if 0 ≤ t ∧ t < n then bi (S t) * v else 0
  | 0 => by rw [if_neg (by omega)]; rfl
  | n + 1 => by
    rw [sumN, sumN_at S t v ht n]
    by_cases h : t = n
    · subst h
      rw [if_neg (by omega), if_pos (by omega), decide_eq_true rfl]
      simp [bi]
    · rw [decide_eq_false h]
      by_cases h2 : 0 ≤ t ∧ t < n
      · rw [if_pos h2, if_pos (by omega)]; simp [bi]
      · rw [if_neg h2, if_neg (by omega)]; simp [bi]
theorem sumN_neg (S : Int → Bool) (f : Nat → Int) : ∀ n, sumN S (fun u => - f u) n = - sumN S f n
  | 0 => rfl
  | n + 1 => by simp only [sumN, sumN_neg S f n, Int.mul_neg]; omega
theorem flT_bal {m : Mi} (h : m.Ok) {S : Int → Bool} (hS : S (-1) = false) (k : Nat) : ∀ i, i ≤ m.ends.length → linR S (flT m i) (rlT m i) k i = sumN S (fun u => netT m u (min k 3) i) m.n
  | 0, _ => by
    have : sumN S (fun u => netT m u (min k 3) 0) m.n = sumN S (fun _ => 0) m.n := rfl
    rw [this, sumN_0]; rfl
  | i + 1, hi => by
    have ih := flT_bal h hS k i (by omega)
    obtain ⟨e, he⟩ := at_ix (l := m.ends) (i := i) (by omega)
    obtain ⟨h1, h2⟩ := h.ends e (List.mem_of_getElem? he)
    obtain ⟨b1, b2, b3, b4, b5⟩ := ends_bd (m := m) h1 h2
    have e1 : flT m (i + 1) = flT m i ++ [mkF m i e] := by rw [flT, he]
    have e2 : rlT m (i + 1) = rlT m i ++ [mass4 m i] := rfl
    have l1 := flT_len m i (by omega)
    have l2 := rlT_len m i
    have sn := linR_snoc S (flT m i) (rlT m i) (mkF m i e) (mass4 m i) k (by omega)
    rw [l1, ih] at sn
    rw [e1, e2, sn]
    have c : cmp k (mass4 m i) = mval m i (min k 3) := cmp_mk k (mval m i)
    have net : ∀ u, netT m u (min k 3) (i + 1) = netT m u (min k 3) i + (bi (decide (e2I m e = u)) * mval m i (min k 3) + - (bi (decide (e1I m e = u)) * mval m i (min k 3))) := by
      intro u
      rw [netT, he]
      simp only []
      rw [Int.sub_mul]
      omega
    simp only [net]
    rw [sumN_add, sumN_add, sumN_neg, sumN_at S _ _ b3, sumN_at S _ _ b1, c]
    have p1 : (if 0 ≤ e2I m e ∧ e2I m e < m.n then bi (S (e2I m e)) * mval m i (min k 3) else 0) = bi (S (e2I m e)) * mval m i (min k 3) := by
      by_cases hq : 0 ≤ e2I m e
      · rw [if_pos ⟨hq, b4⟩]
      · have : e2I m e = -1 := by omega
        rw [if_neg (by omega), this, hS]; simp [bi]
    have p2 : (if 0 ≤ e1I m e ∧ e1I m e < m.n then bi (S (e1I m e)) * mval m i (min k 3) else 0) = bi (S (e1I m e)) * mval m i (min k 3) := by
      by_cases hq : 0 ≤ e1I m e
      · rw [if_pos ⟨hq, b2⟩]
      · have : e1I m e = -1 := by omega
        rw [if_neg (by omega), this, hS]; simp [bi]
    rw [p1, p2, Int.sub_mul, show (mkF m i e).to = e2I m e from rfl, show (mkF m i e).fr = e1I m e from rfl]
    omega
theorem flU_bal {m : Mi} (h : m.Ok) {S : Int → Bool} (hS : S (-1) = false) (k : Nat) : ∀ u, linR S (flU m u) (rlU m u) k (m.c + u) + sumN S (fun v => netT m v (min k 3) m.c) u = sumN S (fun v => netT m v (min k 3) m.c) m.n
  | 0 => by
    have := flT_bal h hS k m.c (Nat.min_le_left _ _)
    show linR S (flT m m.c) (rlT m m.c) k m.c + 0 = _
    omega
  | u + 1 => by
    have ih := flU_bal h hS k u
    have l1 := flU_len m u
    have l2 := rlU_len m u
    have sn := linR_snoc S (flU m u) (rlU m u) (mkC m (rsT m m.c) u) (rw4 (rsT m m.c) u) k (by omega)
    rw [l1] at sn
    have e1 : flU m (u + 1) = flU m u ++ [mkC m (rsT m m.c) u] := rfl
    have e2 : rlU m (u + 1) = rlU m u ++ [rw4 (rsT m m.c) u] := rfl
    rw [e1, e2, ← Nat.add_assoc, sn]
    have c : cmp k (rw4 (rsT m m.c) u) = netT m u (min k 3) m.c := by
      rw [← rsT_net h u (k := min k 3) (by omega) m.c (c_le m)]
      exact cmp_mk k (fun j => rsT m m.c (u * 4 + j))
    rw [c]
    have : (mkC m (rsT m m.c) u).to = -1 := rfl
    have : (mkC m (rsT m m.c) u).fr = (u : Int) := rfl
    rw [show S (mkC m (rsT m m.c) u).to = false from hS, show (mkC m (rsT m m.c) u).fr = (u : Int) from rfl]
    have e3 : sumN S (fun v => netT m v (min k 3) m.c) (u + 1) = sumN S (fun v => netT m v (min k 3) m.c) u + bi (S u) * netT m u (min k 3) m.c := rfl
    rw [e3, Int.sub_mul]
    simp [bi] at ih ⊢
    omega
theorem flT_agree (m : Mi) : ∀ i, i ≤ m.ends.length → ∀ (j : Nat) (x : Fl), (flT m i)[j]? = some x → (x.me = true → x.m = (rlT m i).getD j Ms.zero) ∧ (x.me = false → x.m = Ms.zero)
  | 0, _, j, x, hx => by simp [flT] at hx
  | i + 1, hi, j, x, hx => by
    obtain ⟨e, he⟩ := at_ix (l := m.ends) (i := i) (by omega)
    have l1 := flT_len m i (by omega)
    have l2 := rlT_len m i
    rw [flT, he] at hx
    rw [rlT, List.getD_eq_getElem?_getD]
    by_cases hj : j < i
    · rw [List.getElem?_append_left (by omega)] at hx
      rw [List.getElem?_append_left (by omega), ← List.getD_eq_getElem?_getD]
      exact flT_agree m i (by omega) j x hx
    · rw [List.getElem?_append_right (by omega)] at hx
      rw [List.getElem?_append_right (by omega)]
      have : j - (flT m i).length = 0 := by
        rcases Nat.eq_zero_or_pos (j - (flT m i).length) with h | h
        · exact h
        · rw [List.getElem?_eq_none (by simp; omega)] at hx; simp at hx
      rw [this] at hx
      rw [show j - (rlT m i).length = 0 by omega]
      simp only [List.getElem?_cons_zero, Option.some.injEq] at hx
      subst hx
      unfold mkF
      cases meB m.kn i <;> simp
theorem flU_agree (m : Mi) : ∀ u (j : Nat) (x : Fl), (flU m u)[j]? = some x → (x.me = true → x.m = (rlU m u).getD j Ms.zero) ∧ (x.me = false → x.m = Ms.zero)
  | 0, j, x, hx => flT_agree m m.c (Nat.min_le_left _ _) j x hx
  | u + 1, j, x, hx => by
    have l1 := flU_len m u
    have l2 := rlU_len m u
    rw [flU] at hx
    rw [rlU, List.getD_eq_getElem?_getD]
    by_cases hj : j < m.c + u
    · rw [List.getElem?_append_left (by omega)] at hx
      rw [List.getElem?_append_left (by omega), ← List.getD_eq_getElem?_getD]
      exact flU_agree m u j x hx
    · rw [List.getElem?_append_right (by omega)] at hx
      rw [List.getElem?_append_right (by omega)]
      have : j - (flU m u).length = 0 := by
        rcases Nat.eq_zero_or_pos (j - (flU m u).length) with h | h
        · exact h
        · rw [List.getElem?_eq_none (by simp; omega)] at hx; simp at hx
      rw [this] at hx
      rw [show j - (rlU m u).length = 0 by omega]
      simp only [List.getElem?_cons_zero, Option.some.injEq] at hx
      subst hx
      unfold mkC
      cases mkMe m (rsT m m.c) u <;> simp
theorem made_bal {m : Mi} (h : m.Ok) : Bal (flU m m.n) (rlU m m.n) := ⟨fun S hS k => by
  have := flU_bal h hS k m.n
  have := flU_len m m.n
  rw [flU_len m m.n]
  omega, fun i x hx hm => (flU_agree m m.n i x hx).1 hm⟩
end Go.Proofs.Ytdbikamciedfdaa
namespace Go.Proofs.Ytdbikamciedfdaa
open Go Go.DL
set_option maxRecDepth 100000
set_option maxHeartbeats 4000000

/-! ### The whole plant -/
end Go.Proofs.Ytdbikamciedfdaa
namespace Go.Proofs.Ytdbikamciedfdaa
open Go Go.DL
set_option maxRecDepth 100000
set_option maxHeartbeats 4000000

theorem knT_get {l : List Fl} {j : Nat} {x : Fl} (hx : l[j]? = some x) : ∀ i, i ≤ l.length → j < i → (knT l i)[j]? = some (knAt l j x)
  | 0, _, h => by omega
  | i + 1, hi, h => by
    obtain ⟨y, hy⟩ := at_ix (l := l) (i := i) (by omega)
    have hl := knT_len (l := l) i (by omega)
    rw [knT, hy]
    dsimp only
    by_cases hj : j = i
    · subst hj
      rw [hx, Option.some.injEq] at hy
      subst hy
      rw [List.getElem?_append_right (by omega), hl, Nat.sub_self]; rfl
    · rw [List.getElem?_append_left (by omega)]
      exact knT_get hx i (by omega) (by omega)
end Go.Proofs.Ytdbikamciedfdaa
namespace Go.Proofs.Ytdbikamciedfdaa
open Go Go.DL
set_option maxRecDepth 100000
set_option maxHeartbeats 1000000

section
variable {U : Nat} {l : List Fl} {rl : List Ms} {i : Nat} {x : Fl} {mm : Ms}
/-- The flow measured. -/
abbrev meF (x : Fl) (mm : Ms) : Fl := ⟨x.fr, x.to, true, mm⟩
theorem set_get (hx : l[i]? = some x) (j : Nat) (y : Fl) : (l.set i (meF x mm))[j]? = some y ↔ (j = i ∧ y = meF x mm) ∨ (j ≠ i ∧ l[j]? = some y) := by
  have hi : i < l.length := by rw [List.getElem?_eq_some_iff] at hx; exact hx.1
  by_cases hj : j = i
  · subst hj
    rw [List.getElem?_set_self hi]
    simp
    exact eq_comm
  · rw [List.getElem?_set_ne (fun e => hj e.symm)]
    simp [hj]
end
end Go.Proofs.Ytdbikamciedfdaa
namespace Go.Proofs.Ytdbikamciedfdaa
open Go Go.DL
set_option maxRecDepth 100000
set_option maxHeartbeats 4000000

theorem setM_self {k : Nat} (hk : k < 4) (v : Int) (m : Ms) : cmp k (setM k v m) = v := by
  match k, hk with
  | 0, _ => rfl
  | 1, _ => rfl
  | 2, _ => rfl
  | 3, _ => rfl
theorem setM_ne {k j : Nat} (hk : k < 4) (hj : j < 4) (h : j ≠ k) (v : Int) (m : Ms) : cmp j (setM k v m) = cmp j m := by
  match k, hk, j, hj with
  | 0, _, 0, _ => exact absurd rfl h
  | 0, _, 1, _ => rfl
  | 0, _, 2, _ => rfl
  | 0, _, 3, _ => rfl
  | 1, _, 0, _ => rfl
  | 1, _, 1, _ => exact absurd rfl h
  | 1, _, 2, _ => rfl
  | 1, _, 3, _ => rfl
  | 2, _, 0, _ => rfl
  | 2, _, 1, _ => rfl
  | 2, _, 2, _ => exact absurd rfl h
  | 2, _, 3, _ => rfl
  | 3, _, 0, _ => rfl
  | 3, _, 1, _ => rfl
  | 3, _, 2, _ => rfl
  | 3, _, 3, _ => exact absurd rfl h
theorem cmp_ge (k : Nat) (m : Ms) : cmp k m = cmp (min k 3) m := by
  match k with
  | 0 => rfl
  | 1 => rfl
  | 2 => rfl
  | 3 => rfl
  | k + 4 => rw [show min (k + 4) 3 = 3 by omega]; rfl
theorem spl_me {l : List Fl} {i : Nat} {x : Fl} (hx : l[i]? = some x) {k : Nat} (hk : k < 4) (v : Int) (mm : Ms) : splice (cF (l.set i (meF x mm))) (i * 7 + 3 + k) [I v] = cF (l.set i (meF x (setM k v mm))) := by
  rw [cF_spl ((set_get hx i (meF x mm)).2 (.inl ⟨rfl, rfl⟩)) hk v, List.set_set]

theorem fl_all (l : List Fl) : ((l.map Fl.row).all fun r => r.length == 7) = true := by
  rw [List.all_eq_true]
  intro r hr
  rw [(fl_ok l r hr).2.2.2]
  rfl
theorem fl_flat (l : List Fl) : (l.map Fl.row).flatten = cF l := rfl
end Go.Proofs.Ytdbikamciedfdaa
namespace Go.Proofs.Ytdbikamciedfdaa
open Go Go.DL
set_option maxRecDepth 100000
set_option maxHeartbeats 1000000

/-! ### Sums -/
def sigN (f : Nat → Int) : Nat → Int
  | 0 => 0
  | n + 1 => sigN f n + f n
theorem sigN_eq {f g : Nat → Int} : ∀ n, (∀ i, i < n → f i = g i) → sigN f n = sigN g n
  | 0, _ => rfl
  | n + 1, h => by rw [sigN, sigN, sigN_eq n fun i hi => h i (by omega), h n (by omega)]
theorem sigN_hd (f : Nat → Int) : ∀ n, sigN f (n + 1) = f 0 + sigN (fun i => f (i + 1)) n
  | 0 => by simp [sigN]
  | n + 1 => by
    rw [sigN, sigN_hd f n, sigN]
    omega
theorem sigN_rev (f : Nat → Int) : ∀ n, sigN (fun i => f (n - 1 - i)) n = sigN f n
  | 0 => rfl
  | n + 1 => by
    rw [sigN_hd, sigN, ← sigN_rev f n]
    have : sigN (fun i => f (n + 1 - 1 - (i + 1))) n = sigN (fun i => f (n - 1 - i)) n := sigN_eq n fun i hi => by rw [show n + 1 - 1 - (i + 1) = n - 1 - i by omega]
    rw [this]
    simp only [Nat.add_sub_cancel, Nat.sub_zero]
    omega
theorem sigN_set {f g : Nat → Int} {i : Nat} {d : Int} (h1 : f i = g i + d) (h2 : ∀ j, j ≠ i → f j = g j) : ∀ n, sigN f n = sigN g n + if i < n then d else 0
  | 0 => by simp [sigN]
  | n + 1 => by
    have ih := sigN_set h1 h2 n
    rw [sigN, sigN, ih]
    by_cases hn : n = i
    · subst hn
      rw [h1, if_neg (by omega), if_pos (by omega)]; omega
    · rw [h2 n hn]
      by_cases hi : i < n
      · rw [if_pos hi, if_pos (by omega)]; omega
      · rw [if_neg hi, if_neg (by omega)]; omega
def tmR (S : Int → Bool) (l : List Fl) (rl : List Ms) (k i : Nat) : Int := match l[i]? with
  | some x => (bi (S x.to) - bi (S x.fr)) * cmp k (rl.getD i Ms.zero)
  | none => 0
theorem linR_sum (S : Int → Bool) (l : List Fl) (rl : List Ms) (k : Nat) : ∀ n, linR S l rl k n = sigN (tmR S l rl k) n
  | 0 => rfl
  | n + 1 => by rw [linR, sigN, linR_sum S l rl k n]; rfl

/-! ### What is known is the same -/
section
variable {U U' : Nat} {l l' : List Fl} {rl rl' : List Ms}
theorem gap_iff (h : checkP U l = 0) {j : Nat} {x : Fl} (hx : l[j]? = some x) : (¬ gI j l l.length x.fr = gI j l l.length x.to) ↔ ∃ S : Int → Bool, ClosedS j l S ∧ S x.fr ≠ S x.to := by
  constructor
  · intro hg
    obtain ⟨S, s1, _, s3⟩ := gap_set h hx hg
    exact ⟨S, s1, s3⟩
  · rintro ⟨S, s1, s3⟩ hg
    exact s3 (closed_same s1 hg)
theorem kn_transfer (h : checkP U l = 0) (h' : checkP U' l' = 0) (b : Bal l rl) (b' : Bal l' rl') {j j' : Nat} {x x' : Fl} (hx : l[j]? = some x) (hx' : l'[j']? = some x') (he : x.me = x'.me) (hm : x.me = true → x.m = x'.m) (hr : rl.getD j Ms.zero = rl'.getD j' Ms.zero)
    (hg : (∃ S : Int → Bool, ClosedS j l S ∧ S x.fr ≠ S x.to) ↔ ∃ S : Int → Bool, ClosedS j' l' S ∧ S x'.fr ≠ S x'.to) : knAt l j x = knAt l' j' x' := by
  cases hme : x.me with
  | true => rw [kn_me hme, kn_me (he ▸ hme), hm hme]
  | false =>
    have hme' : x'.me = false := he ▸ hme
    rw [← gap_iff h hx, ← gap_iff h' hx'] at hg
    by_cases hq : gI j l l.length x.fr = gI j l l.length x.to
    · rw [kn_open hme hq, kn_open hme' (Classical.not_not.1 fun hc => hg.2 hc hq)]
    · rw [bal_found h b hx hme hq, bal_found h' b' hx' hme' (hg.1 hq), hr]
end

/-! ### Other numbers, another order -/
def toI (n by_ u : Int) : Int := if u < 0 then u else (u + by_).tmod n
theorem toI_m1 (n b : Int) : toI n b (-1) = -1 := rfl
theorem toI_bd {n : Nat} {b u : Int} (hn : 1 ≤ n) (hb : 0 ≤ b) (hu : -1 ≤ u ∧ u < n) : -1 ≤ toI n b u ∧ toI n b u < n := by
  unfold toI
  split
  · omega
  · rw [Int.tmod_eq_emod_of_nonneg (by omega)]
    have := Int.emod_nonneg (u + b) (b := (n : Int)) (by omega)
    have := Int.emod_lt_of_pos (u + b) (b := (n : Int)) (by omega)
    omega
/-- The way back. -/
def froI (n b u : Int) : Int := if u < 0 then u else (u + (n - b % n)) % n
theorem fro_to {n : Nat} {b u : Int} (hn : 1 ≤ n) (hn4 : n ≤ 4) (hb : 0 ≤ b) (hu : -1 ≤ u ∧ u < n) : froI n b (toI n b u) = u := by
  unfold toI
  split
  · rename_i h
    unfold froI
    rw [if_pos h]
  · rw [Int.tmod_eq_emod_of_nonneg (by omega)]
    unfold froI
    have h4 : n = 1 ∨ n = 2 ∨ n = 3 ∨ n = 4 := by omega
    rcases h4 with rfl | rfl | rfl | rfl
    · rw [if_neg (by omega)]; omega
    · rw [if_neg (by omega)]; omega
    · rw [if_neg (by omega)]; omega
    · rw [if_neg (by omega)]; omega
abbrev qF (n b : Int) (x : Fl) : Fl := ⟨toI n b x.fr, toI n b x.to, x.me, x.m⟩
def qL (n b : Int) (l : List Fl) : List Fl := l.reverse.map (qF n b)
theorem qL_len (n b : Int) (l : List Fl) : (qL n b l).length = l.length := by simp [qL]
theorem qL_get {n b : Int} {l : List Fl} {i : Nat} (hi : i < l.length) : (qL n b l)[i]? = (l[l.length - 1 - i]?).map (qF n b) := by
  unfold qL
  rw [List.getElem?_map, List.getElem?_reverse hi]
section
variable {n : Nat} {b : Int} {l : List Fl} {rl : List Ms}
theorem qL_okM (hn : 1 ≤ n) (hn4 : n ≤ 4) (hb : 0 ≤ b) (h : ∀ x ∈ l, OkM n x) : ∀ x ∈ qL n b l, OkM n x := by
  intro y hy
  simp only [qL, List.mem_map, List.mem_reverse] at hy
  obtain ⟨x, hx, rfl⟩ := hy
  obtain ⟨h1, h2, h3, h4⟩ := h x hx
  refine ⟨toI_bd hn hb h1, toI_bd hn hb h2, fun he => h3 ?_, h4⟩
  rw [← fro_to hn hn4 hb h1, ← fro_to hn hn4 hb h2]
  exact congrArg _ he
theorem rev_getD (hl : rl.length = l.length) {i : Nat} (hi : i < l.length) : rl.reverse.getD i Ms.zero = rl.getD (l.length - 1 - i) Ms.zero := by
  rw [List.getD_eq_getElem?_getD, List.getD_eq_getElem?_getD, List.getElem?_reverse (by omega), hl]
theorem qL_bal (hl : rl.length = l.length) (hb : Bal l rl) : Bal (qL n b l) rl.reverse := by
  constructor
  · intro S hS k
    rw [qL_len, linR_sum]
    have e : sigN (tmR S (qL n b l) rl.reverse k) l.length = sigN (fun i => tmR (fun x => S (toI n b x)) l rl k (l.length - 1 - i)) l.length := by
      refine sigN_eq _ fun i hi => ?_
      unfold tmR
      rw [qL_get hi, rev_getD hl hi]
      cases l[l.length - 1 - i]? <;> rfl
    rw [e, sigN_rev, ← linR_sum]
    exact hb.zero (fun x => S (toI n b x)) (by show S (toI n b (-1)) = false; rw [toI_m1]; exact hS) k
  · intro i x hx hm
    have hi : i < l.length := by
      rw [List.getElem?_eq_some_iff] at hx
      rw [← qL_len n b l]; exact hx.1
    rw [qL_get hi] at hx
    simp only [Option.map_eq_some_iff] at hx
    obtain ⟨y, hy, rfl⟩ := hx
    rw [rev_getD hl hi]
    exact hb.agree _ y hy hm
theorem qL_gap (hn : 1 ≤ n) (hn4 : n ≤ 4) (hb : 0 ≤ b) (h : ∀ x ∈ l, OkM n x) {j : Nat} {x : Fl} (hx : l[j]? = some x) :
    (∃ S : Int → Bool, ClosedS j l S ∧ S x.fr ≠ S x.to) ↔ ∃ S : Int → Bool, ClosedS ((l.length - 1 - j : Nat) : Int) (qL n b l) S ∧ S (qF n b x).fr ≠ S (qF n b x).to := by
  have hj : j < l.length := by rw [List.getElem?_eq_some_iff] at hx; exact hx.1
  have ok := h x (List.mem_of_getElem? hx)
  constructor
  · rintro ⟨S, s1, s2⟩
    refine ⟨fun y => S (froI n b y), ?_, ?_⟩
    · intro i y hy hm hw
      have hi : i < l.length := by
        rw [List.getElem?_eq_some_iff] at hy
        rw [← qL_len n b l]; exact hy.1
      rw [qL_get hi] at hy
      simp only [Option.map_eq_some_iff] at hy
      obtain ⟨z, hz, rfl⟩ := hy
      have okz := h z (List.mem_of_getElem? hz)
      show S (froI n b (toI n b z.fr)) = S (froI n b (toI n b z.to))
      rw [fro_to hn hn4 hb okz.fr, fro_to hn hn4 hb okz.to]
      exact s1 _ z hz hm (by omega)
    · show S (froI n b (toI n b x.fr)) ≠ S (froI n b (toI n b x.to))
      rw [fro_to hn hn4 hb ok.fr, fro_to hn hn4 hb ok.to]
      exact s2
  · rintro ⟨S, s1, s2⟩
    refine ⟨fun y => S (toI n b y), ?_, s2⟩
    intro i y hy hm hw
    have hi : i < l.length := by rw [List.getElem?_eq_some_iff] at hy; exact hy.1
    exact s1 (l.length - 1 - i) (qF n b y) (by rw [qL_get (by omega), show l.length - 1 - (l.length - 1 - i) = i by omega, hy]; rfl) hm (by omega)
end

/-! ### A flow told as two -/
section
variable {U : Nat} {l : List Fl} {rl : List Ms} {i : Nat} {x : Fl} {p q : Ms}
/-- The flow told as two: its rest at its place, a part at the end. -/
abbrev twoL (l : List Fl) (i : Nat) (x : Fl) (q p : Ms) : List Fl := l.set i (meF x q) ++ [meF x p]
theorem two_len : (twoL l i x q p).length = l.length + 1 := by simp [twoL]
theorem two_get (hx : l[i]? = some x) (j : Nat) (y : Fl) : (twoL l i x q p)[j]? = some y ↔ (j = i ∧ y = meF x q) ∨ (j ≠ i ∧ l[j]? = some y) ∨ (j = l.length ∧ y = meF x p) := by
  have hi : i < l.length := by rw [List.getElem?_eq_some_iff] at hx; exact hx.1
  by_cases hj : j < l.length
  · rw [List.getElem?_append_left (by rw [List.length_set]; exact hj), set_get hx]
    constructor
    · rintro (h | h)
      · exact .inl h
      · exact .inr (.inl h)
    · rintro (h | h | ⟨h, _⟩)
      · exact .inl h
      · exact .inr h
      · omega
  · by_cases he : j = l.length
    · subst he
      rw [List.getElem?_append_right (by simp), List.length_set, Nat.sub_self]
      simp
      constructor
      · intro h; exact .inr h.symm
      · rintro (⟨h, _⟩ | h)
        · omega
        · exact h.symm
    · rw [List.getElem?_eq_none (by rw [two_len]; omega)]
      simp
      refine ⟨by omega, ?_, by omega⟩
      intro _ h
      rw [List.getElem?_eq_some_iff] at h
      exact absurd h.1 hj
theorem two_closed (hx : l[i]? = some x) (hm : x.me = true) {j : Nat} {S : Int → Bool} : ClosedS j l S ↔ ClosedS j (twoL l i x q p) S := by
  constructor
  · intro h a y hy hym hw
    rcases (two_get hx a y).1 hy with ⟨_, rfl⟩ | ⟨_, hy⟩ | ⟨_, rfl⟩
    · simp at hym
    · exact h a y hy hym hw
    · simp at hym
  · intro h a y hy hym hw
    refine h a y ((two_get hx a y).2 (.inr (.inl ⟨?_, hy⟩))) hym hw
    rintro rfl
    rw [hx, Option.some.injEq] at hy
    rw [← hy, hm] at hym
    simp at hym
theorem two_rl (hl : rl.length = l.length) (hi : i < l.length) (j : Nat) : (rl.set i q ++ [p]).getD j Ms.zero = if j = i then q else if j = l.length then p else rl.getD j Ms.zero := by
  rw [List.getD_eq_getElem?_getD]
  by_cases hj : j = i
  · subst hj
    rw [if_pos rfl, List.getElem?_append_left (by rw [List.length_set]; omega), List.getElem?_set_self (by omega)]; rfl
  · rw [if_neg hj]
    by_cases he : j = l.length
    · subst he
      rw [if_pos rfl, List.getElem?_append_right (by rw [List.length_set]; omega), List.length_set, hl, Nat.sub_self]; rfl
    · rw [if_neg he, List.getD_eq_getElem?_getD]
      by_cases hlt : j < l.length
      · rw [List.getElem?_append_left (by rw [List.length_set]; omega), List.getElem?_set_ne (fun e => hj e.symm)]
      · rw [List.getElem?_eq_none (by simp; omega), List.getElem?_eq_none (by omega)]
theorem two_bal (hl : rl.length = l.length) (hx : l[i]? = some x) (hm : x.me = true) (hs : ∀ k, cmp k q + cmp k p = cmp k x.m) (b : Bal l rl) : Bal (twoL l i x q p) (rl.set i q ++ [p]) := by
  have hi : i < l.length := by rw [List.getElem?_eq_some_iff] at hx; exact hx.1
  have hrx : x.m = rl.getD i Ms.zero := b.agree i x hx hm
  constructor
  · intro S hS k
    rw [two_len, linR_sum, sigN]
    have e0 : tmR S (twoL l i x q p) (rl.set i q ++ [p]) k l.length = (bi (S x.to) - bi (S x.fr)) * cmp k p := by
      unfold tmR
      rw [(two_get hx l.length (meF x p)).2 (.inr (.inr ⟨rfl, rfl⟩)), two_rl hl hi, if_neg (by omega), if_pos rfl]
    have e1 : sigN (tmR S (twoL l i x q p) (rl.set i q ++ [p]) k) l.length = sigN (fun j => if j = i then (bi (S x.to) - bi (S x.fr)) * cmp k q else tmR S l rl k j) l.length := by
      refine sigN_eq _ fun j hj => ?_
      unfold tmR
      by_cases hji : j = i
      · subst hji
        rw [if_pos rfl, (two_get hx j (meF x q)).2 (.inl ⟨rfl, rfl⟩), two_rl hl hi, if_pos rfl]
      · rw [if_neg hji]
        have hy : l[j]? = some l[j] := List.getElem?_eq_getElem hj
        rw [(two_get hx j _).2 (.inr (.inl ⟨hji, hy⟩)), hy, two_rl hl hi, if_neg hji, if_neg (by omega)]
    have e2 := sigN_set (f := fun j => if j = i then (bi (S x.to) - bi (S x.fr)) * cmp k q else tmR S l rl k j) (g := tmR S l rl k) (i := i) (d := - ((bi (S x.to) - bi (S x.fr)) * cmp k p)) (by
      show (if i = i then _ else _) = _
      rw [if_pos rfl]
      unfold tmR
      rw [hx]
      simp only
      rw [← hrx, ← hs k, Int.mul_add]
      omega) (fun j hj => if_neg hj) l.length
    rw [e0, e1, e2, if_pos hi, ← linR_sum, b.zero S hS k]
    omega
  · intro j y hy hym
    rcases (two_get hx j y).1 hy with ⟨rfl, rfl⟩ | ⟨hj, hy⟩ | ⟨rfl, rfl⟩
    · rw [two_rl hl hi, if_pos rfl]
    · have hjl : j < l.length := by rw [List.getElem?_eq_some_iff] at hy; exact hy.1
      rw [two_rl hl hi, if_neg hj, if_neg (by omega)]
      exact b.agree j y hy hym
    · rw [two_rl hl hi, if_neg (by omega), if_pos rfl]
theorem two_kn {U' : Nat} (h : checkP U l = 0) (h' : checkP U' (twoL l i x q p) = 0) (hl : rl.length = l.length) (hx : l[i]? = some x) (hm : x.me = true) (hs : ∀ k, cmp k q + cmp k p = cmp k x.m) (b : Bal l rl) {j : Nat} {y : Fl} (hy : l[j]? = some y) (hj : j ≠ i) : knAt l j y = knAt (twoL l i x q p) j y := by
  have hi : i < l.length := by rw [List.getElem?_eq_some_iff] at hx; exact hx.1
  have hjl : j < l.length := by rw [List.getElem?_eq_some_iff] at hy; exact hy.1
  refine kn_transfer h h' b (two_bal hl hx hm hs b) hy ((two_get hx j y).2 (.inr (.inl ⟨hj, hy⟩))) rfl (fun _ => rfl) (by rw [two_rl hl hi, if_neg hj, if_neg (by omega)]) ?_
  constructor
  · rintro ⟨S, s1, s2⟩
    exact ⟨S, (two_closed hx hm).1 s1, s2⟩
  · rintro ⟨S, s1, s2⟩
    exact ⟨S, (two_closed hx hm).2 s1, s2⟩
end
theorem q_kn {n : Nat} {b : Int} {l : List Fl} {rl : List Ms} (hn : 1 ≤ n) (hn4 : n ≤ 4) (hb : 0 ≤ b) (hN : l.length ≤ 20) (h : ∀ x ∈ l, OkM n x) (hck : checkP n l = 0) (hl : rl.length = l.length) (hB : Bal l rl) : checkP n (qL n b l) = 0 ∧ NoClash n (qL n b l) ∧
    ∀ (j : Nat) (x : Fl), l[j]? = some x → knAt (qL n b l) (l.length - 1 - j) (qF n b x) = knAt l j x := by
  have hq : checkP n (qL n b l) = 0 := checkP_of hn (by omega) (by rw [qL_len]; exact hN) fun x hx => okF_of (qL_okM hn hn4 hb h x hx)
  have hqb : Bal (qL n b l) rl.reverse := qL_bal hl hB
  refine ⟨hq, bal_noclash hq hqb, fun j x hx => ?_⟩
  have hj : j < l.length := by rw [List.getElem?_eq_some_iff] at hx; exact hx.1
  symm
  refine kn_transfer hck hq hB hqb hx ?_ rfl (fun _ => rfl) ?_ (qL_gap hn hn4 hb h hx)
  · rw [qL_get (by omega), show l.length - 1 - (l.length - 1 - j) = j by omega, hx]; rfl
  · rw [rev_getD hl (by omega), show l.length - 1 - (l.length - 1 - j) = j by omega]
end Go.Proofs.Ytdbikamciedfdaa
namespace Go.Proofs.Ytdbikamciedfdaa
open Go Go.DL
set_option maxRecDepth 100000
set_option maxHeartbeats 4000000

abbrev PB (n : Nat) (l : List Fl) : Option XB := some (.blk true (.cells true [I n, .fs (l.map Fl.row)]))
abbrev BB (b : Int) : Option XB := some (.blk true (.cells true [.int .u8 b]))
theorem w31 {n : Nat} (hn : 1 ≤ n ∧ n ≤ 4) (l : List Fl) {b : Int} (hb : 0 ≤ b ∧ b ≤ 255) {u : Int} (hu : -1 ≤ u ∧ u < n) : runW progX 31 [I u, .pt 0 0, .pt 1 0] [BB b, PB n l] = some (I (toI n b u), [BB b, PB n l]) := by
  have a1 : IntKind.i64.wrap b = b := wrap_ok (by omega) (by omega)
  have a2 : IntKind.i64.wrap (u + b) = u + b := wrap_ok (by omega) (by omega)
  have a3 : ((n : Int) = 0) = False := eq_false (by omega)
  have bd := toI_bd (n := n) (b := b) hn.1 hb.1 hu
  rcases ptf (u < 0) with g | g
  · have e : toI n b u = u := if_pos (of_eq_true g)
    rw [e]
    rw [r31 (by simp)]; unfold x31; dsimp only
    (sym => (simp [etaM, etaF, z00,z01,z05,z07,z0b,z0c,z0n,z0v,z11,z12,z1j,z28,z29,z2j,z2n,z2v,z4l,z66,z6p,z7r,z7z,z9d,z9e,z9g,z9n,z9p,z9y,za3,za5,za6,za7,za8,zae,zaf,zak,zal,zba,zbt,zbu,zbw,zbx,zby,zbz,zc0,zc3,zc4,zc5,zc6,zc8,zce,zcf,zcg,zcj,zcn,zco,zcr,zcs,zct,zcu,zcv,zdk,zdl,zdo,zds,zdt,ze2,ze3,zf6,zf7,zfb,zfm,zfo,zfp,zfq,zft,zfv,zg0,zg1, a1, a2, a3, g]; all_goals tactic => exact rfl))
  · have e : toI n b u = (u + b).tmod n := if_neg (of_eq_false g)
    have a4 : IntKind.i64.wrap ((u + b).tmod n) = (u + b).tmod n := by rw [← e]; exact wrap_ok (by omega) (by omega)
    rw [e]
    rw [r31 (by simp)]; unfold x31; dsimp only
    (sym => (simp [etaM, etaF, z00,z01,z05,z07,z0b,z0c,z0n,z0v,z11,z12,z1j,z28,z29,z2j,z2n,z2v,z4l,z66,z6p,z7r,z7z,z9d,z9e,z9g,z9n,z9p,z9y,za3,za5,za6,za7,za8,zae,zaf,zak,zal,zba,zbt,zbu,zbw,zbx,zby,zbz,zc0,zc3,zc4,zc5,zc6,zc8,zce,zcf,zcg,zcj,zcn,zco,zcr,zcs,zct,zcu,zcv,zdk,zdl,zdo,zds,zdt,ze2,ze3,zf6,zf7,zfb,zfm,zfo,zfp,zfq,zft,zfv,zg0,zg1, a1, a2, a3, a4, g]; all_goals tactic => exact rfl))
def gQ (n : Nat) (b : Int) (l q : List Fl) (j : Nat) : XH := if j = 0 then [PB n l, BB b, some (.blk true (.cells true [I n, .nilsl]))] else [PB n l, BB b, some (.blk false (.cells true [I n, .sl 3 0 7 j])), some (.blk true (.cells true (cF (q.take j))))]
/-- A flow's round: it comes to the other end of the list. -/
theorem round9a {n : Nat} (hn : 1 ≤ n ∧ n ≤ 4) {l : List Fl} (hl : l.length ≤ 10) (hok : ∀ x ∈ l, OkM n x) {b : Int} (hb : 0 ≤ b ∧ b ≤ 255) (sp pa : Int) (kn : List Kn) {j : Nat} (hj : j < l.length) :
    headX 0 [2, 3, 9, 11, 13, 14, 51, 52] (execW progX 9 0 none (match x9l0 with | .loop _ a => a | c => c) (envL [2, 3, 9, 11, 13, 14, 51, 52] [.int .u8 sp, .int .u8 pa, .pt 0 0, rK kn, .fn (.func 31) [] [.pt 1 0, .pt 0 0], .pt 2 0, I l.length, I (j : Nat)]) (gQ n b l (qL n b l) j)) =
      some ([.int .u8 sp, .int .u8 pa, .pt 0 0, rK kn, .fn (.func 31) [] [.pt 1 0, .pt 0 0], .pt 2 0, I l.length, I (j + 1 : Nat)], gQ n b l (qL n b l) (j + 1)) := by
  obtain ⟨x, hx⟩ := at_ix (l := l) (i := l.length - 1 - j) (by omega)
  have ok := hok x (List.mem_of_getElem? hx)
  have e1 := w31 hn l hb ok.fr
  have e2 := w31 hn l hb ok.to
  have eq1 : (qL n b l).take (j + 1) = (qL n b l).take j ++ [⟨toI n b x.fr, toI n b x.to, x.me, x.m⟩] := by
    rw [List.take_add_one, qL_get hj, hx]; rfl
  have eq2 : ((qL n b l).take j).length = j := by rw [List.length_take, qL_len]; omega
  have eq3 : j = 0 → cF ((qL n b l).take j) = [] := fun h => by rw [h]; rfl
  have a1 := lt_ix hj
  have a2 := up_ix hj (by omega)
  have a3 : IntKind.i64.wrap ((l.length : Int) - 1) = (l.length : Int) - 1 := wrap_ok (by omega) (by omega)
  have a4 : IntKind.i64.wrap ((l.length : Int) - 1 - (j : Int)) = ((l.length - 1 - j : Nat) : Int) := by rw [wrap_ok (by omega) (by omega)]; omega
  have a5 : (((l.length - 1 - j : Nat) : Int) < (l.length : Int)) = True := eq_true (by omega)
  have q2 : ((j + 1) * 56 ≤ 1099511627776) = True := eq_true (by omega)
  have q4 : (j + 1 ≤ 1099511627776) = True := eq_true (by omega)
  have e0 : gQ n b l (qL n b l) (j + 1) = [PB n l, BB b, some (.blk false (.cells true [I n, .sl 3 0 7 (j + 1)])), some (.blk true (.cells true (cF ((qL n b l).take j ++ [⟨toI n b x.fr, toI n b x.to, x.me, x.m⟩]))))] := by
    unfold gQ
    rw [if_neg (by omega), eq1]
  rw [e0]
  unfold gQ
  generalize (qL n b l).take j = qj at *
  generalize l.length - 1 - j = jj at *
  generalize toI n b x.fr = f1 at *
  generalize toI n b x.to = f2 at *
  unfold x9l0
  dsimp only
  clear e0
  by_cases hz : j = 0
  · have y1 := eq3 hz
    subst hz
    rw [if_pos rfl]
    have a1 : ((0 : Int) < (l.length : Int)) = True := eq_true (by omega)
    have a4 : IntKind.i64.wrap ((l.length : Int) - 1 - 0) = ((jj : Nat) : Int) := a4
    (sym => (simp [etaM, etaF, z00,z01,z02,z03,z04,z05,z06,z07,z09,z0a,z0b,z0c,z0f,z0n,z0o,z0t,z0v,z12,z15,z1f,z1j,z1k,z1m,z1n,z1o,z1p,z1q,z1v,z1w,z1z,z20,z21,z29,z2b,z2g,z2h,z2j,z2k,z2v,z33,z34,z36,z3h,z3j,z4l,z4q,z4s,z4t,z4y,z54,z55,z57,z5b,z66,z6b,z6d,z6e,z6j,z8a,z8d,z8h,z91,z9d,z9e,z9g,z9i,z9j,z9k,z9l,z9m,z9p,z9r,z9s,z9t,z9v,z9w,z9y,za0,za1,za2,za3,za5,za6,za7,za8,za9,zaa,zab,zac,zae,zaf,zag,zal,zam,zaq,zas,zat,zau,zav,zaw,zax,zaz,zba,zbc,zbd,zbf,zbg,zbk,zca,zcc,zcd,zce,zcf,zcn,zco,zcp,zcq,zcr,zct,zcu,zcv,zcw,zcx,zcy,zd3,zd5,zd6,zd7,zd8,zd9,zdd,zdh,zdj,zdk,zdm,zdn,zdo,zds,zdt,zdu,zdv,zdw,zdx,ze9,zea,zeb,zec,zeq,zer,zes,zet,zez,zf0,zf1,zf2,zf3,zf4,zf6,zf7,zf8,zf9,zfa,zfb,zfc,zfd,zfg,zfh,zfi,zfj,zfl,zfm,zfo,zfq,zfs,zft,zfw,zfz,zg0,zg1,zhf,zhp,zj8, a1, a2, a3, a4, a5, q2, q4, hx, e1, e2, y1, cF_gr, cF_nm, cF_sl, cF_len, cF_app]; all_goals tactic => exact rfl))
  · rw [if_neg hz]
    (sym => (simp [etaM, etaF, z00,z01,z02,z03,z04,z05,z06,z07,z09,z0a,z0b,z0c,z0f,z0n,z0o,z0t,z0v,z12,z15,z1f,z1j,z1k,z1m,z1n,z1o,z1p,z1q,z1v,z1w,z1z,z20,z21,z29,z2b,z2g,z2h,z2j,z2k,z2v,z33,z34,z36,z3h,z3j,z4l,z4q,z4s,z4t,z4y,z54,z55,z57,z5b,z66,z6b,z6d,z6e,z6j,z8a,z8d,z8h,z91,z9d,z9e,z9g,z9i,z9j,z9k,z9l,z9m,z9p,z9r,z9s,z9t,z9v,z9w,z9y,za0,za1,za2,za3,za5,za6,za7,za8,za9,zaa,zab,zac,zae,zaf,zag,zal,zam,zaq,zas,zat,zau,zav,zaw,zax,zaz,zba,zbc,zbd,zbf,zbg,zbk,zca,zcc,zcd,zce,zcf,zcn,zco,zcp,zcq,zcr,zct,zcu,zcv,zcw,zcx,zcy,zd3,zd5,zd6,zd7,zd8,zd9,zdd,zdh,zdj,zdk,zdm,zdn,zdo,zds,zdt,zdu,zdv,zdw,zdx,ze9,zea,zeb,zec,zeq,zer,zes,zet,zez,zf0,zf1,zf2,zf3,zf4,zf6,zf7,zf8,zf9,zfa,zfb,zfc,zfd,zfg,zfh,zfi,zfj,zfl,zfm,zfo,zfq,zfs,zft,zfw,zfz,zg0,zg1,zhf,zhp,zj8, a1, a2, a3, a4, a5, q2, q4, hx, e1, e2, eq2, cF_gr, cF_nm, cF_sl, cF_len, cF_app]; all_goals tactic => exact rfl))
/-- The part of a mass, the parts, and what is left, after some kinds. -/
def pv (pa : Int) (x : Ms) (k : Nat) : Int := (cmp k x * pa.tmod 5).tdiv 5
def ptM (pa : Int) (x : Ms) : Nat → Ms
  | 0 => x
  | k + 1 => setM k (pv pa x k) (ptM pa x k)
def rsM (pa : Int) (x : Ms) : Nat → Ms
  | 0 => x
  | k + 1 => setM k (cmp k x - pv pa x k) (rsM pa x k)
theorem pv_bd {pa : Int} (hp : 0 ≤ pa ∧ pa ≤ 255) {x : Ms} {k : Nat} (hx : 0 ≤ cmp k x ∧ cmp k x ≤ 2000) : 0 ≤ pv pa x k ∧ pv pa x k ≤ cmp k x := by
  unfold pv
  have h5 : pa.tmod 5 = pa % 5 := Int.tmod_eq_emod_of_nonneg hp.1
  have h6 : 0 ≤ pa % 5 ∧ pa % 5 ≤ 4 := by omega
  rw [h5]
  generalize pa % 5 = r at *
  have hm : 0 ≤ cmp k x * r := Int.mul_nonneg hx.1 h6.1
  have hm2 : cmp k x * r ≤ cmp k x * 4 := Int.mul_le_mul_of_nonneg_left h6.2 hx.1
  rw [Int.tdiv_eq_ediv_of_nonneg hm]
  omega
theorem ptM_cmp (pa : Int) (x : Ms) (j : Nat) (hj : j < 4) : ∀ k, k ≤ 4 → cmp j (ptM pa x k) = if j < k then pv pa x j else cmp j x
  | 0, _ => by rw [if_neg (by omega)]; rfl
  | k + 1, hk => by
    rw [ptM]
    by_cases e : j = k
    · subst e; rw [setM_self hj, if_pos (by omega)]
    · rw [setM_ne (by omega) hj e, ptM_cmp pa x j hj k (by omega)]
      by_cases h : j < k
      · rw [if_pos h, if_pos (by omega)]
      · rw [if_neg h, if_neg (by omega)]
theorem rsM_cmp (pa : Int) (x : Ms) (j : Nat) (hj : j < 4) : ∀ k, k ≤ 4 → cmp j (rsM pa x k) = if j < k then cmp j x - pv pa x j else cmp j x
  | 0, _ => by rw [if_neg (by omega)]; rfl
  | k + 1, hk => by
    rw [rsM]
    by_cases e : j = k
    · subst e; rw [setM_self hj, if_pos (by omega)]
    · rw [setM_ne (by omega) hj e, rsM_cmp pa x j hj k (by omega)]
      by_cases h : j < k
      · rw [if_pos h, if_pos (by omega)]
      · rw [if_neg h, if_neg (by omega)]
theorem row_set {f : Fl} {k : Nat} (hk : k < 4) (v : Int) : splice (Fl.row f) (3 + k) [I v] = Fl.row ⟨f.fr, f.to, f.me, setM k v f.m⟩ := by
  match k, hk with
  | 0, _ => rfl
  | 1, _ => rfl
  | 2, _ => rfl
  | 3, _ => rfl
theorem row_get (f : Fl) {k : Nat} (hk : k < 4) : (Fl.row f)[3 + k]? = some (I (cmp k f.m)) := by
  match k, hk with
  | 0, _ => rfl
  | 1, _ => rfl
  | 2, _ => rfl
  | 3, _ => rfl
abbrev hS (n : Nat) (rows : List (List AV)) (q tl : List Fl) (N : Nat) (fr : List AV) : XH := [some (.blk true (.cells true [I n, .fs rows])), some (.blk false (.cells true [I n, .sl 2 0 7 N])), some (.blk true (.cells true (cF q))), some (.blk false (.cells true [I n, .sl 4 0 7 N])), some (.blk true (.cells true (cF tl))), some (.blk true (.cells true fr))]
/-- A kind's round: a part of the mass. -/
theorem round9b {n : Nat} {l q : List Fl} (hl : l.length ≤ 10) {i : Nat} {x : Fl} (hx : l[i]? = some x) (hb : ∀ k, 0 ≤ cmp k x.m ∧ cmp k x.m ≤ 2000) {pa : Int} (hp : 0 ≤ pa ∧ pa ≤ 255) (kn : List Kn) {k : Nat} (hk : k < 4) :
    headX 0 [3, 9, 11, 14, 17, 18, 19, 106] (execW progX 9 0 none (match x9l1 with | .loop _ a => a | c => c) (envL [3, 9, 11, 14, 17, 18, 19, 106] [.int .u8 pa, .pt 0 0, rK kn, .pt 1 0, I (i : Nat), .pt 3 0, .pt 5 0, I (k : Nat)]) (hS n (l.map Fl.row) q (l.set i (meF x (rsM pa x.m k))) l.length (Fl.row (meF x (ptM pa x.m k))))) =
      some ([.int .u8 pa, .pt 0 0, rK kn, .pt 1 0, I (i : Nat), .pt 3 0, .pt 5 0, I (k + 1 : Nat)], hS n (l.map Fl.row) q (l.set i (meF x (rsM pa x.m (k + 1)))) l.length (Fl.row (meF x (ptM pa x.m (k + 1))))) := by
  have hi : i < l.length := by rw [List.getElem?_eq_some_iff] at hx; exact hx.1
  have b0 := hb k
  have b1 := pv_bd hp b0
  have c1 := rsM_cmp pa x.m k hk k (by omega)
  rw [if_neg (by omega)] at c1
  rw [ptM, rsM]
  have r1 := row_get x hk
  have r2 : (l.map Fl.row)[i]? = some (Fl.row x) := by rw [List.getElem?_map, hx]; rfl
  have r3 : (Fl.row x).length = 7 := rfl
  have r4 : (l.map Fl.row).length = l.length := List.length_map ..
  have s1 := row_set (f := meF x (ptM pa x.m k)) hk (pv pa x.m k)
  have s3 : (Fl.row (meF x (ptM pa x.m k))).length = 7 := rfl
  have s5 : (3 + k + 1 ≤ (Fl.row (meF x (ptM pa x.m k))).length) = True := eq_true (by rw [s3]; omega)
  have s4 := row_get (meF x (setM k (pv pa x.m k) (ptM pa x.m k))) hk
  rw [show cmp k (meF x (setM k (pv pa x.m k) (ptM pa x.m k))).m = pv pa x.m k from setM_self hk ..] at s4
  have t1 := spl_me hx hk (cmp k x.m - pv pa x.m k) (rsM pa x.m k)
  have t2 : (cF (l.set i (meF x (rsM pa x.m k))))[i * 7 + 3 + k]? = some (I (cmp k x.m)) := by
    have := cF_get ((set_get hx i (meF x (rsM pa x.m k))).2 (.inl ⟨rfl, rfl⟩)) (c := 3 + k) (by omega)
    rw [row_get _ hk, ← Nat.add_assoc] at this
    rw [this, ← c1]
  have t3 : (i * 7 + 3 + k + 1 ≤ (cF (l.set i (meF x (rsM pa x.m k)))).length) = True := eq_true (by rw [cF_len, List.length_set]; omega)
  have g1 : ((k : Int) < 4) = True := eq_true (by omega)
  have g2 : IntKind.i64.wrap ((k : Int) + 1) = (k : Int) + 1 := wrap_ok (by omega) (by omega)
  have g3 : ((i : Int) < (l.length : Int)) = True := eq_true (by omega)
  have g5 : IntKind.i64.wrap pa = pa := wrap_ok (by omega) (by omega)
  have h5 : pa.tmod 5 = pa % 5 := Int.tmod_eq_emod_of_nonneg hp.1
  have g6 : IntKind.i64.wrap (pa.tmod 5) = pa.tmod 5 := by rw [h5]; exact wrap_ok (by omega) (by omega)
  have g7 : IntKind.i64.wrap (cmp k x.m * pa.tmod 5) = cmp k x.m * pa.tmod 5 := by
    have h6 : 0 ≤ pa % 5 ∧ pa % 5 ≤ 4 := by omega
    rw [h5]
    generalize pa % 5 = r at *
    have hm : 0 ≤ cmp k x.m * r := Int.mul_nonneg b0.1 h6.1
    have hm2 : cmp k x.m * r ≤ cmp k x.m * 4 := Int.mul_le_mul_of_nonneg_left h6.2 b0.1
    exact wrap_ok (by omega) (by omega)
  have g8 : (cmp k x.m * pa.tmod 5).tdiv 5 = pv pa x.m k := rfl
  have g9 : IntKind.i64.wrap (pv pa x.m k) = pv pa x.m k := wrap_ok (by omega) (by omega)
  have g10 : IntKind.i64.wrap (cmp k x.m - pv pa x.m k) = cmp k x.m - pv pa x.m k := wrap_ok (by omega) (by omega)
  unfold hS x9l1
  dsimp only
  generalize l.set i (meF x (rsM pa x.m k)) = l1 at *
  generalize l.set i (meF x (setM k (cmp k x.m - pv pa x.m k) (rsM pa x.m k))) = l2 at *
  generalize hf1 : Fl.row (meF x (ptM pa x.m k)) = f1 at *
  generalize hf2 : Fl.row (meF x (setM k (pv pa x.m k) (ptM pa x.m k))) = f2 at *
  have s1 : splice f1 (3 + k) [I (pv pa x.m k)] = f2 := s1
  generalize Fl.row x = rowx at *
  generalize l.map Fl.row = rows at *
  generalize pv pa x.m k = v at *
  generalize cmp k x.m = w at *
  sym =>
    simp [etaM, etaF, z00,z01,z02,z05,z07,z08,z0b,z0c,z0n,z0v,z11,z12,z14,z15,z1j,z1k,z1m,z1n,z1o,z1p,z1q,z28,z29,z2a,z2f,z2g,z2h,z2j,z2k,z2l,z2m,z2n,z2v,z33,z34,z3p,z40,z41,z4l,z4q,z4s,z4t,z54,z66,z6b,z6d,z6e,z8a,z91,z9d,z9e,z9g,z9i,z9p,z9r,z9s,z9v,z9w,z9y,za0,za1,za3,za6,za7,za8,za9,zae,zaf,zag,zal,zam,zav,zca,zcc,zcd,zce,zcf,zcn,zco,zcp,zcq,zcr,zct,zcu,zcv,zcy,zd3,zd7,zd8,zdd,zdj,zdk,zdm,zdn,zds,zdt,zdu,zdv,zdw,zdx,zf6,zf7,zf8,zf9,zfb,zfc,zfd,zfm,zfo,zfq,zfs,zft,zfw,zfz,zg0,zg1,zhd,zhe,zhf,zj8, g1, g2, g3, g5, r1, r2, r3, r4, s5, cF_gr, cF_nm, cF_sl]
    tactic =>
      simp only [g6, g7, g8, g9]
      (sym => (simp [etaM, etaF, z00,z01,z02,z05,z07,z08,z0b,z0c,z0n,z0v,z11,z12,z14,z15,z1j,z1k,z1m,z1n,z1o,z1p,z1q,z28,z29,z2a,z2f,z2g,z2h,z2j,z2k,z2l,z2m,z2n,z2v,z33,z34,z3p,z40,z41,z4l,z4q,z4s,z4t,z54,z66,z6b,z6d,z6e,z8a,z91,z9d,z9e,z9g,z9i,z9p,z9r,z9s,z9v,z9w,z9y,za0,za1,za3,za6,za7,za8,za9,zae,zaf,zag,zal,zam,zav,zca,zcc,zcd,zce,zcf,zcn,zco,zcp,zcq,zcr,zct,zcu,zcv,zcy,zd3,zd7,zd8,zdd,zdj,zdk,zdm,zdn,zds,zdt,zdu,zdv,zdw,zdx,zf6,zf7,zf8,zf9,zfb,zfc,zfd,zfm,zfo,zfq,zfs,zft,zfw,zfz,zg0,zg1,zhd,zhe,zhf,zj8, g1, g2, g3, g5, g10, r1, r2, r3, r4, s1, s4, s5, t1, t2, t3, cF_gr, cF_nm, cF_sl]; all_goals tactic => exact rfl))
/-- A flow's round: what is known of it is the same. -/
theorem round9c {N : Nat} (hN : N ≤ 10) {kn kq k2 : List Kn} {i j : Nat} (hj : j < N) (h1 : kn.length = N) (h2 : kq.length = N) (h3 : N ≤ k2.length) {y : Kn} (hy : kn[j]? = some y) (hq : kq[N - 1 - j]? = some y) (ht : j ≠ i → k2[j]? = some y) :
    headX 0 [11, 17, 21, 22, 180, 181] (execW progX 9 0 none (match x9l2 with | .loop _ a => a | c => c) (envL [11, 17, 21, 22, 180, 181] [rK kn, I (i : Nat), rK kq, rK k2, I N, I (j : Nat)]) []) =
      some ([rK kn, I (i : Nat), rK kq, rK k2, I N, I (j + 1 : Nat)], []) := by
  have a1 : ((j : Int) < (N : Int)) = True := eq_true (by omega)
  have a2 : IntKind.i64.wrap ((j : Int) + 1) = (j : Int) + 1 := wrap_ok (by omega) (by omega)
  have a3 : IntKind.i64.wrap ((N : Int) - 1) = (N : Int) - 1 := wrap_ok (by omega) (by omega)
  have a4 : IntKind.i64.wrap ((N : Int) - 1 - (j : Int)) = ((N - 1 - j : Nat) : Int) := by rw [wrap_ok (by omega) (by omega)]; omega
  have a5 : (((N - 1 - j : Nat) : Int) < (N : Int)) = True := eq_true (by omega)
  have a6 : ((j : Int) < (k2.length : Int)) = True := eq_true (by omega)
  generalize N - 1 - j = jj at *
  unfold x9l2
  dsimp only
  by_cases hji : j = i
  · subst hji
    (sym => (simp [etaM, etaF, z00,z01,z05,z07,z08,z0b,z0c,z0h,z0i,z0j,z0k,z0n,z0q,z0v,z0x,z15,z1f,z1l,z1m,z22,z23,z2b,z2g,z2h,z2j,z2k,z2u,z2v,z33,z34,z44,z45,z4l,z4q,z66,z6b,z9j,z9k,z9l,z9y,za3,za5,za7,za8,zca,zcc,zcd,zce,zcf,zcg,zcn,zco,zcr,zct,zcu,zcv,zcw,zcx,zcy,zd3,zd6,zd7,zdd,zdk,zdl,zdo,zds,zdt,zdu,zdv,zed,zeg,zeh,zei,zf8,zf9,zfa,zfm,zfo,zfq,zfs,zft,zfw,zfz,zg0,zg1, a1, a2, a3, a4, a5, a6, h1, h2, hy, hq]; all_goals tactic => exact rfl))
  · have b1 : ((j : Int) = (i : Int)) = False := eq_false (by omega)
    have ht := ht hji
    (sym => (simp [etaM, etaF, z00,z01,z05,z07,z08,z0b,z0c,z0h,z0i,z0j,z0k,z0n,z0q,z0v,z0x,z15,z1f,z1l,z1m,z22,z23,z2b,z2g,z2h,z2j,z2k,z2u,z2v,z33,z34,z44,z45,z4l,z4q,z66,z6b,z9j,z9k,z9l,z9y,za3,za5,za7,za8,zca,zcc,zcd,zce,zcf,zcg,zcn,zco,zcr,zct,zcu,zcv,zcw,zcx,zcy,zd3,zd6,zd7,zdd,zdk,zdl,zdo,zds,zdt,zdu,zdv,zed,zeg,zeh,zei,zf8,zf9,zfa,zfm,zfo,zfq,zfs,zft,zfw,zfz,zg0,zg1, a1, a2, a3, a4, a5, a6, b1, h1, h2, hy, hq, ht]; all_goals tactic => exact rfl))
theorem w9 {m : Mi} (h : m.Ok) (b sp pa : Int) (hb : 0 ≤ b ∧ b ≤ 255) (hsp : 0 ≤ sp ∧ sp ≤ 255) (hpa : 0 ≤ pa ∧ pa ≤ 255) : runW progX 9 [miA m, .int .u8 b, .int .u8 sp, .int .u8 pa] [] = some (.bool true, []) := by
  have e29 := w29 h
  have hlen := fl_len m
  obtain ⟨n1, n2⟩ := N_le m
  have hn := n_bd m
  have hck := made_check h
  have hB := made_bal h
  have hok := flU_okM h m.n (Nat.le_refl _)
  have hrl : (rlU m m.n).length = m.N := rlU_len m m.n
  generalize flU m m.n = l at *
  generalize rlU m m.n = rl at *
  obtain ⟨i, hi⟩ : ∃ i : Nat, i = sp.toNat % m.N := ⟨_, rfl⟩
  have hiN : i < m.N := by rw [hi]; exact Nat.mod_lt _ (by omega)
  have a3 : sp.tmod (m.N : Int) = (i : Int) := by
    rw [hi, show sp = ((sp.toNat : Nat) : Int) by omega, tmod_nat]; rfl
  rw [← hlen] at e29 hrl n1 n2 hiN a3
  clear hi
  have hnc : clF (gI (-1) l l.length) m.n l m.n = none := bal_noclash hck hB
  have e23 := w23 m.n l (by omega)
  unfold knR clE at e23
  rw [if_pos hck, hnc] at e23
  have e23 : runW progX 23 [plA m.n l] [] = some (.tup [rK (knT l l.length), I 0], []) := e23
  have hkl : (knT l l.length).length = l.length := knT_len _ (Nat.le_refl _)
  obtain ⟨x, hx⟩ := at_ix hiN
  have hkg : ∀ (j : Nat) (z : Fl), l[j]? = some z → (knT l l.length)[j]? = some (knAt l j z) := fun j z hz => knT_get hz _ (Nat.le_refl _) (by rw [List.getElem?_eq_some_iff] at hz; exact hz.1)
  obtain ⟨qk1, qk2, qk3⟩ := q_kn hn.1 hn.2 hb.1 (by omega) hok hck hrl hB
  have hql := qL_len m.n b l
  have hqg : ∀ (j : Nat) (z : Fl), l[j]? = some z → (knT (qL m.n b l) (qL m.n b l).length)[l.length - 1 - j]? = some (knAt l j z) := by
    intro j z hz
    have hjl : j < l.length := by rw [List.getElem?_eq_some_iff] at hz; exact hz.1
    rw [← qk3 j z hz]
    refine knT_get ?_ _ (Nat.le_refl _) (by omega)
    rw [qL_get (by omega), show l.length - 1 - (l.length - 1 - j) = j by omega, hz]; rfl
  have e23q := w23 m.n (qL m.n b l) (by omega)
  unfold knR clE at e23q
  rw [if_pos qk1, show clF (gI (-1) (qL m.n b l) (qL m.n b l).length) m.n (qL m.n b l) m.n = none from qk2] at e23q
  have e23q : runW progX 23 [plA m.n (qL m.n b l)] [] = some (.tup [rK (knT (qL m.n b l) (qL m.n b l).length), I 0], []) := e23q
  have hkq : (knT (qL m.n b l) (qL m.n b l).length).length = l.length := by rw [knT_len _ (Nat.le_refl _), hql]
  have a1 : IntKind.i64.wrap sp = sp := wrap_ok (by omega) (by omega)
  have a5 : ((i : Int) < (l.length : Int)) = True := eq_true (by omega)
  have a6 : ((l.length : Int) = 0) = False := eq_false (by omega)
  have a8 : (l.length = 0) = False := eq_false (by omega)
  have b2 := cF_ch l
  have b3 : (l.length * 7 ≤ (cF l).length) = True := eq_true (by rw [cF_len]; omega)
  have b4 := cF_ch (qL m.n b l)
  have b5 : (l.length * 7 ≤ (cF (qL m.n b l)).length) = True := eq_true (by rw [cF_len]; omega)
  rw [hql] at b4
  have tk : (qL m.n b l).take l.length = qL m.n b l := List.take_of_length_le (by omega)
  have z1 := zf5 (n := (l.length : Int))
  have d3 := fl_all l
  have d4 := fl_flat l
  have d5 : (l.length * 56 ≤ 1099511627776) = True := eq_true (by omega)
  have d6 : (l.length ≤ 1099511627776) = True := eq_true (by omega)
  have rda := fun (j : Nat) (hj : j < l.length) => round9a hn n1 hok hb sp pa (knT l l.length) hj
  have gQn : gQ m.n b l (qL m.n b l) l.length = [PB m.n l, BB b, some (.blk false (.cells true [I m.n, .sl 3 0 7 l.length])), some (.blk true (.cells true (cF (qL m.n b l))))] := by
    unfold gQ; rw [if_neg (by omega), tk]
  have gQ0 : gQ m.n b l (qL m.n b l) 0 = [PB m.n l, BB b, some (.blk true (.cells true [I m.n, .nilsl]))] := rfl
  obtain ⟨GQ, hGQ⟩ : ∃ G : Nat → XH, G = gQ m.n b l (qL m.n b l) := ⟨_, rfl⟩
  have c2 : (cF l)[i * 7 + 2]? = some (.bool x.me) := by rw [cF_get hx (by omega)]; rfl
  cases hme : x.me
  · have rdc := fun (j : Nat) (hj : j < l.length) => round9c n1 (i := i) hj hkl hkq (Nat.le_of_eq hkl.symm) (hkg j _ (at_ix hj).choose_spec) (hqg j _ (at_ix hj).choose_spec) fun _ => hkg j _ (at_ix hj).choose_spec
    rw [← hGQ] at rda gQn gQ0
    generalize knT l l.length = kn at *
    generalize knT (qL m.n b l) (qL m.n b l).length = kq at *
    generalize qL m.n b l = q at *
    rw [r9 (by simp)]; unfold x9; dsimp only
    sym =>
      simp [etaM, etaF, z00,z01,z02,z03,z04,z05,z06,z07,z08,z09,z0b,z0c,z0f,z0h,z0j,z0n,z0o,z0p,z0q,z0r,z0s,z0t,z0v,z11,z12,z15,z1e,z1f,z1j,z1k,z1m,z1n,z1o,z1p,z1q,z1r,z1u,z1z,z20,z21,z23,z28,z29,z2a,z2b,z2g,z2h,z2i,z2n,z2u,z2v,z33,z34,z3h,z3p,z4f,z4l,z4m,z4o,z4q,z4s,z4t,z4y,z54,z55,z57,z59,z5b,z5e,z66,z67,z69,z6a,z6b,z6d,z6e,z6j,z6p,z6q,z6w,z78,z7d,z7f,z7g,z7r,z7s,z7u,z7w,z8a,z8d,z8h,z90,z91,z9d,z9e,z9g,z9i,z9j,z9k,z9l,z9m,z9n,z9p,z9r,z9s,z9v,z9w,z9x,z9y,za0,za1,za2,za3,za5,za6,za7,za8,za9,zaa,zab,zae,zaf,zag,zal,zam,zaq,zas,zat,zav,zb4,zb5,zb9,zba,zbb,zbc,zbd,zbf,zbg,zbj,zbk,zbl,zbm,zbn,zbp,zbt,zbu,zbw,zbx,zby,zbz,zc0,zc3,zc4,zc5,zc6,zc8,zca,zcc,zcd,zce,zcf,zcg,zch,zcj,zcn,zco,zcp,zcq,zcr,zct,zcu,zcv,zcw,zcx,zcy,zd3,zd5,zd6,zd7,zd8,zdd,zde,zdh,zdj,zdk,zdl,zdm,zdn,zdo,zds,zdt,zdu,zdv,zdw,zdx,zdy,zdz,ze0,ze1,ze2,ze3,ze9,zea,zeb,zec,zeo,zep,zeq,zer,zes,zet,zey,zez,zf0,zf1,zf3,zf4,zf5,zf6,zf7,zf8,zf9,zfa,zfb,zfc,zfd,zfg,zfh,zfi,zfj,zfk,zfm,zfo,zfp,zfq,zfr,zfs,zft,zfu,zfy,zfz,zg0,zg1,zhe,zhf,zhp,zj4,zj8, e29, b2, b3, e23, hkl, cF_gr, cF_nm, cF_sl]
      tactic =>
        unfold x9l0
        rw [loop_rule l.length (fun j => [.int .u8 sp, .int .u8 pa, .pt 0 0, rK kn, .fn (.func 31) [] [.pt 1 0, .pt 0 0], .pt 2 0, I l.length, I (j : Nat)]) GQ]
        · sym =>
            simp [etaM, etaF, z00,z01,z02,z03,z04,z05,z06,z07,z08,z09,z0b,z0c,z0f,z0h,z0j,z0n,z0o,z0p,z0q,z0r,z0s,z0t,z0v,z11,z12,z15,z1e,z1f,z1j,z1k,z1m,z1n,z1o,z1p,z1q,z1r,z1u,z1z,z20,z21,z23,z28,z29,z2a,z2b,z2g,z2h,z2i,z2n,z2u,z2v,z33,z34,z3h,z3p,z4f,z4l,z4m,z4o,z4q,z4s,z4t,z4y,z54,z55,z57,z59,z5b,z5e,z66,z67,z69,z6a,z6b,z6d,z6e,z6j,z6p,z6q,z6w,z78,z7d,z7f,z7g,z7r,z7s,z7u,z7w,z8a,z8d,z8h,z90,z91,z9d,z9e,z9g,z9i,z9j,z9k,z9l,z9m,z9n,z9p,z9r,z9s,z9v,z9w,z9x,z9y,za0,za1,za2,za3,za5,za6,za7,za8,za9,zaa,zab,zae,zaf,zag,zal,zam,zaq,zas,zat,zav,zb4,zb5,zb9,zba,zbb,zbc,zbd,zbf,zbg,zbj,zbk,zbl,zbm,zbn,zbp,zbt,zbu,zbw,zbx,zby,zbz,zc0,zc3,zc4,zc5,zc6,zc8,zca,zcc,zcd,zce,zcf,zcg,zch,zcj,zcn,zco,zcp,zcq,zcr,zct,zcu,zcv,zcw,zcx,zcy,zd3,zd5,zd6,zd7,zd8,zdd,zde,zdh,zdj,zdk,zdl,zdm,zdn,zdo,zds,zdt,zdu,zdv,zdw,zdx,zdy,zdz,ze0,ze1,ze2,ze3,ze9,zea,zeb,zec,zeo,zep,zeq,zer,zes,zet,zey,zez,zf0,zf1,zf3,zf4,zf5,zf6,zf7,zf8,zf9,zfa,zfb,zfc,zfd,zfg,zfh,zfi,zfj,zfk,zfm,zfo,zfp,zfq,zfr,zfs,zft,zfu,zfy,zfz,zg0,zg1,zhe,zhf,zhp,zj4,zj8, gQn, z1, a1, a3, a5, a6, hx, hme, d3, d4, d5, d6, b2, b3, b4, b5, hql, hkl, hkq, e23q, e23, cF_gr, cF_nm, cF_sl]
            tactic =>
              unfold x9l2
              rw [loop_rule l.length (fun j => [rK kn, I (i : Nat), rK kq, rK kn, I l.length, I (j : Nat)]) (fun _ => [])]
              · (sym => (simp [etaM, etaF, z00,z01,z02,z03,z04,z05,z06,z07,z08,z09,z0b,z0c,z0f,z0h,z0j,z0n,z0o,z0p,z0q,z0r,z0s,z0t,z0v,z11,z12,z15,z1e,z1f,z1j,z1k,z1m,z1n,z1o,z1p,z1q,z1r,z1u,z1z,z20,z21,z23,z28,z29,z2a,z2b,z2g,z2h,z2i,z2n,z2u,z2v,z33,z34,z3h,z3p,z4f,z4l,z4m,z4o,z4q,z4s,z4t,z4y,z54,z55,z57,z59,z5b,z5e,z66,z67,z69,z6a,z6b,z6d,z6e,z6j,z6p,z6q,z6w,z78,z7d,z7f,z7g,z7r,z7s,z7u,z7w,z8a,z8d,z8h,z90,z91,z9d,z9e,z9g,z9i,z9j,z9k,z9l,z9m,z9n,z9p,z9r,z9s,z9v,z9w,z9x,z9y,za0,za1,za2,za3,za5,za6,za7,za8,za9,zaa,zab,zae,zaf,zag,zal,zam,zaq,zas,zat,zav,zb4,zb5,zb9,zba,zbb,zbc,zbd,zbf,zbg,zbj,zbk,zbl,zbm,zbn,zbp,zbt,zbu,zbw,zbx,zby,zbz,zc0,zc3,zc4,zc5,zc6,zc8,zca,zcc,zcd,zce,zcf,zcg,zch,zcj,zcn,zco,zcp,zcq,zcr,zct,zcu,zcv,zcw,zcx,zcy,zd3,zd5,zd6,zd7,zd8,zdd,zde,zdh,zdj,zdk,zdl,zdm,zdn,zdo,zds,zdt,zdu,zdv,zdw,zdx,zdy,zdz,ze0,ze1,ze2,ze3,ze9,zea,zeb,zec,zeo,zep,zeq,zer,zes,zet,zey,zez,zf0,zf1,zf3,zf4,zf5,zf6,zf7,zf8,zf9,zfa,zfb,zfc,zfd,zfg,zfh,zfi,zfj,zfk,zfm,zfo,zfp,zfq,zfr,zfs,zft,zfu,zfy,zfz,zg0,zg1,zhe,zhf,zhp,zj4,zj8, z1, works_w]; all_goals tactic => exact rfl))
              · (sym => (simp [etaM, etaF, z00,z01,z02,z03,z04,z05,z06,z07,z08,z09,z0b,z0c,z0f,z0h,z0j,z0n,z0o,z0p,z0q,z0r,z0s,z0t,z0v,z11,z12,z15,z1e,z1f,z1j,z1k,z1m,z1n,z1o,z1p,z1q,z1r,z1u,z1z,z20,z21,z23,z28,z29,z2a,z2b,z2g,z2h,z2i,z2n,z2u,z2v,z33,z34,z3h,z3p,z4f,z4l,z4m,z4o,z4q,z4s,z4t,z4y,z54,z55,z57,z59,z5b,z5e,z66,z67,z69,z6a,z6b,z6d,z6e,z6j,z6p,z6q,z6w,z78,z7d,z7f,z7g,z7r,z7s,z7u,z7w,z8a,z8d,z8h,z90,z91,z9d,z9e,z9g,z9i,z9j,z9k,z9l,z9m,z9n,z9p,z9r,z9s,z9v,z9w,z9x,z9y,za0,za1,za2,za3,za5,za6,za7,za8,za9,zaa,zab,zae,zaf,zag,zal,zam,zaq,zas,zat,zav,zb4,zb5,zb9,zba,zbb,zbc,zbd,zbf,zbg,zbj,zbk,zbl,zbm,zbn,zbp,zbt,zbu,zbw,zbx,zby,zbz,zc0,zc3,zc4,zc5,zc6,zc8,zca,zcc,zcd,zce,zcf,zcg,zch,zcj,zcn,zco,zcp,zcq,zcr,zct,zcu,zcv,zcw,zcx,zcy,zd3,zd5,zd6,zd7,zd8,zdd,zde,zdh,zdj,zdk,zdl,zdm,zdn,zdo,zds,zdt,zdu,zdv,zdw,zdx,zdy,zdz,ze0,ze1,ze2,ze3,ze9,zea,zeb,zec,zeo,zep,zeq,zer,zes,zet,zey,zez,zf0,zf1,zf3,zf4,zf5,zf6,zf7,zf8,zf9,zfa,zfb,zfc,zfd,zfg,zfh,zfi,zfj,zfk,zfm,zfo,zfp,zfq,zfr,zfs,zft,zfu,zfy,zfz,zg0,zg1,zhe,zhf,zhp,zj4,zj8]; all_goals tactic => exact rfl))
              · exact rdc
              · (sym => (simp [etaM, etaF, z00,z01,z02,z03,z04,z05,z06,z07,z08,z09,z0b,z0c,z0f,z0h,z0j,z0n,z0o,z0p,z0q,z0r,z0s,z0t,z0v,z11,z12,z15,z1e,z1f,z1j,z1k,z1m,z1n,z1o,z1p,z1q,z1r,z1u,z1z,z20,z21,z23,z28,z29,z2a,z2b,z2g,z2h,z2i,z2n,z2u,z2v,z33,z34,z3h,z3p,z4f,z4l,z4m,z4o,z4q,z4s,z4t,z4y,z54,z55,z57,z59,z5b,z5e,z66,z67,z69,z6a,z6b,z6d,z6e,z6j,z6p,z6q,z6w,z78,z7d,z7f,z7g,z7r,z7s,z7u,z7w,z8a,z8d,z8h,z90,z91,z9d,z9e,z9g,z9i,z9j,z9k,z9l,z9m,z9n,z9p,z9r,z9s,z9v,z9w,z9x,z9y,za0,za1,za2,za3,za5,za6,za7,za8,za9,zaa,zab,zae,zaf,zag,zal,zam,zaq,zas,zat,zav,zb4,zb5,zb9,zba,zbb,zbc,zbd,zbf,zbg,zbj,zbk,zbl,zbm,zbn,zbp,zbt,zbu,zbw,zbx,zby,zbz,zc0,zc3,zc4,zc5,zc6,zc8,zca,zcc,zcd,zce,zcf,zcg,zch,zcj,zcn,zco,zcp,zcq,zcr,zct,zcu,zcv,zcw,zcx,zcy,zd3,zd5,zd6,zd7,zd8,zdd,zde,zdh,zdj,zdk,zdl,zdm,zdn,zdo,zds,zdt,zdu,zdv,zdw,zdx,zdy,zdz,ze0,ze1,ze2,ze3,ze9,zea,zeb,zec,zeo,zep,zeq,zer,zes,zet,zey,zez,zf0,zf1,zf3,zf4,zf5,zf6,zf7,zf8,zf9,zfa,zfb,zfc,zfd,zfg,zfh,zfi,zfj,zfk,zfm,zfo,zfp,zfq,zfr,zfs,zft,zfu,zfy,zfz,zg0,zg1,zhe,zhf,zhp,zj4,zj8, z1]; all_goals tactic => exact rfl))
        · (sym => (simp [etaM, etaF, z00,z01,z02,z03,z04,z05,z06,z07,z08,z09,z0b,z0c,z0f,z0h,z0j,z0n,z0o,z0p,z0q,z0r,z0s,z0t,z0v,z11,z12,z15,z1e,z1f,z1j,z1k,z1m,z1n,z1o,z1p,z1q,z1r,z1u,z1z,z20,z21,z23,z28,z29,z2a,z2b,z2g,z2h,z2i,z2n,z2u,z2v,z33,z34,z3h,z3p,z4f,z4l,z4m,z4o,z4q,z4s,z4t,z4y,z54,z55,z57,z59,z5b,z5e,z66,z67,z69,z6a,z6b,z6d,z6e,z6j,z6p,z6q,z6w,z78,z7d,z7f,z7g,z7r,z7s,z7u,z7w,z8a,z8d,z8h,z90,z91,z9d,z9e,z9g,z9i,z9j,z9k,z9l,z9m,z9n,z9p,z9r,z9s,z9v,z9w,z9x,z9y,za0,za1,za2,za3,za5,za6,za7,za8,za9,zaa,zab,zae,zaf,zag,zal,zam,zaq,zas,zat,zav,zb4,zb5,zb9,zba,zbb,zbc,zbd,zbf,zbg,zbj,zbk,zbl,zbm,zbn,zbp,zbt,zbu,zbw,zbx,zby,zbz,zc0,zc3,zc4,zc5,zc6,zc8,zca,zcc,zcd,zce,zcf,zcg,zch,zcj,zcn,zco,zcp,zcq,zcr,zct,zcu,zcv,zcw,zcx,zcy,zd3,zd5,zd6,zd7,zd8,zdd,zde,zdh,zdj,zdk,zdl,zdm,zdn,zdo,zds,zdt,zdu,zdv,zdw,zdx,zdy,zdz,ze0,ze1,ze2,ze3,ze9,zea,zeb,zec,zeo,zep,zeq,zer,zes,zet,zey,zez,zf0,zf1,zf3,zf4,zf5,zf6,zf7,zf8,zf9,zfa,zfb,zfc,zfd,zfg,zfh,zfi,zfj,zfk,zfm,zfo,zfp,zfq,zfr,zfs,zft,zfu,zfy,zfz,zg0,zg1,zhe,zhf,zhp,zj4,zj8, gQ0, cF_gr, cF_nm, cF_sl]; all_goals tactic => exact rfl))
        · exact rda
        · (sym => (simp [etaM, etaF, z00,z01,z02,z03,z04,z05,z06,z07,z08,z09,z0b,z0c,z0f,z0h,z0j,z0n,z0o,z0p,z0q,z0r,z0s,z0t,z0v,z11,z12,z15,z1e,z1f,z1j,z1k,z1m,z1n,z1o,z1p,z1q,z1r,z1u,z1z,z20,z21,z23,z28,z29,z2a,z2b,z2g,z2h,z2i,z2n,z2u,z2v,z33,z34,z3h,z3p,z4f,z4l,z4m,z4o,z4q,z4s,z4t,z4y,z54,z55,z57,z59,z5b,z5e,z66,z67,z69,z6a,z6b,z6d,z6e,z6j,z6p,z6q,z6w,z78,z7d,z7f,z7g,z7r,z7s,z7u,z7w,z8a,z8d,z8h,z90,z91,z9d,z9e,z9g,z9i,z9j,z9k,z9l,z9m,z9n,z9p,z9r,z9s,z9v,z9w,z9x,z9y,za0,za1,za2,za3,za5,za6,za7,za8,za9,zaa,zab,zae,zaf,zag,zal,zam,zaq,zas,zat,zav,zb4,zb5,zb9,zba,zbb,zbc,zbd,zbf,zbg,zbj,zbk,zbl,zbm,zbn,zbp,zbt,zbu,zbw,zbx,zby,zbz,zc0,zc3,zc4,zc5,zc6,zc8,zca,zcc,zcd,zce,zcf,zcg,zch,zcj,zcn,zco,zcp,zcq,zcr,zct,zcu,zcv,zcw,zcx,zcy,zd3,zd5,zd6,zd7,zd8,zdd,zde,zdh,zdj,zdk,zdl,zdm,zdn,zdo,zds,zdt,zdu,zdv,zdw,zdx,zdy,zdz,ze0,ze1,ze2,ze3,ze9,zea,zeb,zec,zeo,zep,zeq,zer,zes,zet,zey,zez,zf0,zf1,zf3,zf4,zf5,zf6,zf7,zf8,zf9,zfa,zfb,zfc,zfd,zfg,zfh,zfi,zfj,zfk,zfm,zfo,zfp,zfq,zfr,zfs,zft,zfu,zfy,zfz,zg0,zg1,zhe,zhf,zhp,zj4,zj8, gQn, z1]; all_goals tactic => exact rfl))
  · have hxo := hok x (List.mem_of_getElem? hx)
    have hps := fun k => pv_bd hpa (hxo.ma k)
    have hq4 : ∀ k, cmp k (rsM pa x.m 4) = cmp (min k 3) x.m - pv pa x.m (min k 3) := fun k => by rw [cmp_ge, rsM_cmp pa x.m (min k 3) (by omega) 4 (by omega), if_pos (by omega)]
    have hp4 : ∀ k, cmp k (ptM pa x.m 4) = pv pa x.m (min k 3) := fun k => by rw [cmp_ge, ptM_cmp pa x.m (min k 3) (by omega) 4 (by omega), if_pos (by omega)]
    have hsum : ∀ k, cmp k (rsM pa x.m 4) + cmp k (ptM pa x.m 4) = cmp k x.m := fun k => by rw [hq4, hp4, cmp_ge k x.m]; omega
    have hl1 : ∀ k, (l.set i (meF x (rsM pa x.m k))).length = l.length := fun k => List.length_set ..
    have htl := two_len (l := l) (i := i) (x := x) (p := ptM pa x.m 4) (q := rsM pa x.m 4)
    have hckt : checkP m.n (twoL l i x (rsM pa x.m 4) (ptM pa x.m 4)) = 0 := checkP_of hn.1 (by omega) (by omega) fun z hz => by
      obtain ⟨a, ha⟩ := List.getElem?_of_mem hz
      rcases (two_get hx a z).1 ha with ⟨_, rfl⟩ | ⟨_, hz⟩ | ⟨_, rfl⟩
      · refine ⟨hxo.fr, hxo.to, hxo.ne, fun _ k => ?_⟩
        show 0 ≤ cmp k (rsM pa x.m 4) ∧ _
        have := hps (min k 3)
        have := hxo.ma (min k 3)
        rw [hq4]; omega
      · exact okF_of (hok z (List.mem_of_getElem? hz))
      · refine ⟨hxo.fr, hxo.to, hxo.ne, fun _ k => ?_⟩
        show 0 ≤ cmp k (ptM pa x.m 4) ∧ _
        have := hps (min k 3)
        have := hxo.ma (min k 3)
        rw [hp4]; omega
    have hnt : NoClash m.n (twoL l i x (rsM pa x.m 4) (ptM pa x.m 4)) := bal_noclash hckt (two_bal hrl hx hme hsum hB)
    have e23t := w23 m.n (twoL l i x (rsM pa x.m 4) (ptM pa x.m 4)) (by omega)
    unfold knR clE at e23t
    rw [if_pos hckt, show clF (gI (-1) (twoL l i x (rsM pa x.m 4) (ptM pa x.m 4)) (twoL l i x (rsM pa x.m 4) (ptM pa x.m 4)).length) m.n (twoL l i x (rsM pa x.m 4) (ptM pa x.m 4)) m.n = none from hnt] at e23t
    have e23t : runW progX 23 [plA m.n (twoL l i x (rsM pa x.m 4) (ptM pa x.m 4))] [] = some (.tup [rK (knT (twoL l i x (rsM pa x.m 4) (ptM pa x.m 4)) (twoL l i x (rsM pa x.m 4) (ptM pa x.m 4)).length), I 0], []) := e23t
    have hkt : (knT (twoL l i x (rsM pa x.m 4) (ptM pa x.m 4)) (twoL l i x (rsM pa x.m 4) (ptM pa x.m 4)).length).length = l.length + 1 := by rw [knT_len _ (Nat.le_refl _), htl]
    have htg : ∀ (j : Nat) (z : Fl), l[j]? = some z → j ≠ i → (knT (twoL l i x (rsM pa x.m 4) (ptM pa x.m 4)) (twoL l i x (rsM pa x.m 4) (ptM pa x.m 4)).length)[j]? = some (knAt l j z) := by
      intro j z hz hji
      have hjl : j < l.length := by rw [List.getElem?_eq_some_iff] at hz; exact hz.1
      rw [two_kn hck hckt hrl hx hme hsum hB hz hji]
      exact knT_get ((two_get hx j z).2 (.inr (.inl ⟨hji, hz⟩))) _ (Nat.le_refl _) (by omega)
    have rdc := fun (j : Nat) (hj : j < l.length) => round9c n1 (i := i) hj hkl hkq (by omega) (hkg j _ (at_ix hj).choose_spec) (hqg j _ (at_ix hj).choose_spec) (htg j _ (at_ix hj).choose_spec)
    have rdb := fun (k : Nat) (hk : k < 4) => round9b (n := m.n) (q := qL m.n b l) n1 hx hxo.ma hpa (knT l l.length) hk
    have eapp : cF (twoL l i x (rsM pa x.m 4) (ptM pa x.m 4)) = cF (l.set i (meF x (rsM pa x.m 4))) ++ Fl.row (meF x (ptM pa x.m 4)) := cF_app _ _
    obtain ⟨L, hL⟩ : ∃ L : Nat → List Fl, ∀ k, L k = l.set i (meF x (rsM pa x.m k)) := ⟨_, fun _ => rfl⟩
    obtain ⟨FR, hFR⟩ : ∃ R : Nat → List AV, ∀ k, R k = Fl.row (meF x (ptM pa x.m k)) := ⟨_, fun _ => rfl⟩
    have L0 : L 0 = l := by
      rw [hL]
      have : meF x (rsM pa x.m 0) = x := by cases x; simp only at hme; subst hme; rfl
      rw [this]
      apply List.ext_getElem?
      intro k
      by_cases hk : i = k
      · subst hk; rw [List.getElem?_set_self hiN, hx]
      · rw [List.getElem?_set_ne hk]
    have FR0 : FR 0 = [I x.fr, I x.to, .bool true, I x.m.a, I x.m.b, I x.m.c, I x.m.d] := hFR 0
    have FR4 : FR 4 = [I x.fr, I x.to, .bool true, I (ptM pa x.m 4).a, I (ptM pa x.m 4).b, I (ptM pa x.m 4).c, I (ptM pa x.m 4).d] := hFR 4
    have L4l : (L 4).length = l.length := by rw [hL]; exact hl1 4
    have cl4 : (cF (L 4)).length = l.length * 7 := by rw [cF_len, L4l]
    simp only [← hL, ← hFR] at rdb eapp
    rw [FR4] at eapp
    have eapp := eapp.symm
    clear hL hFR
    generalize twoL l i x (rsM pa x.m 4) (ptM pa x.m 4) = tl at *
    have b6 := cF_ch tl
    have b7 : ((l.length + 1) * 7 ≤ (cF tl).length) = True := eq_true (by rw [cF_len]; omega)
    rw [htl] at b6
    generalize ptM pa x.m 4 = p4 at *
    rw [← hGQ] at rda gQn gQ0
    have q2 : ((l.length + 1) * 56 ≤ 1099511627776) = True := eq_true (by omega)
    have q4 : (l.length + 1 ≤ 1099511627776) = True := eq_true (by omega)
    generalize knT l l.length = kn at *
    generalize knT (qL m.n b l) (qL m.n b l).length = kq at *
    generalize knT tl tl.length = kt at *
    generalize qL m.n b l = q at *
    rw [r9 (by simp)]; unfold x9; dsimp only
    sym =>
      simp [etaM, etaF, z00,z01,z02,z03,z04,z05,z06,z07,z08,z09,z0b,z0c,z0f,z0h,z0j,z0n,z0o,z0p,z0q,z0r,z0s,z0t,z0v,z11,z12,z15,z1e,z1f,z1j,z1k,z1m,z1n,z1o,z1p,z1q,z1r,z1u,z1z,z20,z21,z23,z28,z29,z2a,z2b,z2g,z2h,z2i,z2n,z2u,z2v,z33,z34,z3h,z3p,z4f,z4l,z4m,z4o,z4q,z4s,z4t,z4y,z54,z55,z57,z59,z5b,z5e,z66,z67,z69,z6a,z6b,z6d,z6e,z6j,z6p,z6q,z6w,z78,z7d,z7f,z7g,z7r,z7s,z7u,z7w,z8a,z8d,z8h,z90,z91,z9d,z9e,z9g,z9i,z9j,z9k,z9l,z9m,z9n,z9p,z9r,z9s,z9v,z9w,z9x,z9y,za0,za1,za2,za3,za5,za6,za7,za8,za9,zaa,zab,zae,zaf,zag,zal,zam,zaq,zas,zat,zav,zb4,zb5,zb9,zba,zbb,zbc,zbd,zbf,zbg,zbj,zbk,zbl,zbm,zbn,zbp,zbt,zbu,zbw,zbx,zby,zbz,zc0,zc3,zc4,zc5,zc6,zc8,zca,zcc,zcd,zce,zcf,zcg,zch,zcj,zcn,zco,zcp,zcq,zcr,zct,zcu,zcv,zcw,zcx,zcy,zd3,zd5,zd6,zd7,zd8,zdd,zde,zdh,zdj,zdk,zdl,zdm,zdn,zdo,zds,zdt,zdu,zdv,zdw,zdx,zdy,zdz,ze0,ze1,ze2,ze3,ze9,zea,zeb,zec,zeo,zep,zeq,zer,zes,zet,zey,zez,zf0,zf1,zf3,zf4,zf5,zf6,zf7,zf8,zf9,zfa,zfb,zfc,zfd,zfg,zfh,zfi,zfj,zfk,zfm,zfo,zfp,zfq,zfr,zfs,zft,zfu,zfy,zfz,zg0,zg1,zhe,zhf,zhp,zj4,zj8, e29, b2, b3, e23, hkl, cF_gr, cF_nm, cF_sl]
      tactic =>
        unfold x9l0
        rw [loop_rule l.length (fun j => [.int .u8 sp, .int .u8 pa, .pt 0 0, rK kn, .fn (.func 31) [] [.pt 1 0, .pt 0 0], .pt 2 0, I l.length, I (j : Nat)]) GQ]
        · sym =>
            simp [etaM, etaF, z00,z01,z02,z03,z04,z05,z06,z07,z08,z09,z0b,z0c,z0f,z0h,z0j,z0n,z0o,z0p,z0q,z0r,z0s,z0t,z0v,z11,z12,z15,z1e,z1f,z1j,z1k,z1m,z1n,z1o,z1p,z1q,z1r,z1u,z1z,z20,z21,z23,z28,z29,z2a,z2b,z2g,z2h,z2i,z2n,z2u,z2v,z33,z34,z3h,z3p,z4f,z4l,z4m,z4o,z4q,z4s,z4t,z4y,z54,z55,z57,z59,z5b,z5e,z66,z67,z69,z6a,z6b,z6d,z6e,z6j,z6p,z6q,z6w,z78,z7d,z7f,z7g,z7r,z7s,z7u,z7w,z8a,z8d,z8h,z90,z91,z9d,z9e,z9g,z9i,z9j,z9k,z9l,z9m,z9n,z9p,z9r,z9s,z9v,z9w,z9x,z9y,za0,za1,za2,za3,za5,za6,za7,za8,za9,zaa,zab,zae,zaf,zag,zal,zam,zaq,zas,zat,zav,zb4,zb5,zb9,zba,zbb,zbc,zbd,zbf,zbg,zbj,zbk,zbl,zbm,zbn,zbp,zbt,zbu,zbw,zbx,zby,zbz,zc0,zc3,zc4,zc5,zc6,zc8,zca,zcc,zcd,zce,zcf,zcg,zch,zcj,zcn,zco,zcp,zcq,zcr,zct,zcu,zcv,zcw,zcx,zcy,zd3,zd5,zd6,zd7,zd8,zdd,zde,zdh,zdj,zdk,zdl,zdm,zdn,zdo,zds,zdt,zdu,zdv,zdw,zdx,zdy,zdz,ze0,ze1,ze2,ze3,ze9,zea,zeb,zec,zeo,zep,zeq,zer,zes,zet,zey,zez,zf0,zf1,zf3,zf4,zf5,zf6,zf7,zf8,zf9,zfa,zfb,zfc,zfd,zfg,zfh,zfi,zfj,zfk,zfm,zfo,zfp,zfq,zfr,zfs,zft,zfu,zfy,zfz,zg0,zg1,zhe,zhf,zhp,zj4,zj8, gQn, z1, a1, a3, a5, a6, hx, hme, d3, d4, d5, d6, b2, b3, b4, b5, hql, hkl, hkq, e23q, e23, cF_gr, cF_nm, cF_sl]
            tactic =>
              unfold x9l1
              rw [loop_rule 4 (fun k => [.int .u8 pa, .pt 0 0, rK kn, .pt 1 0, I (i : Nat), .pt 3 0, .pt 5 0, I (k : Nat)]) (fun k => hS m.n (l.map Fl.row) q (L k) l.length (FR k))]
              · sym =>
                  simp [etaM, etaF, z00,z01,z02,z03,z04,z05,z06,z07,z08,z09,z0b,z0c,z0f,z0h,z0j,z0n,z0o,z0p,z0q,z0r,z0s,z0t,z0v,z11,z12,z15,z1e,z1f,z1j,z1k,z1m,z1n,z1o,z1p,z1q,z1r,z1u,z1z,z20,z21,z23,z28,z29,z2a,z2b,z2g,z2h,z2i,z2n,z2u,z2v,z33,z34,z3h,z3p,z4f,z4l,z4m,z4o,z4q,z4s,z4t,z4y,z54,z55,z57,z59,z5b,z5e,z66,z67,z69,z6a,z6b,z6d,z6e,z6j,z6p,z6q,z6w,z78,z7d,z7f,z7g,z7r,z7s,z7u,z7w,z8a,z8d,z8h,z90,z91,z9d,z9e,z9g,z9i,z9j,z9k,z9l,z9m,z9n,z9p,z9r,z9s,z9v,z9w,z9x,z9y,za0,za1,za2,za3,za5,za6,za7,za8,za9,zaa,zab,zae,zaf,zag,zal,zam,zaq,zas,zat,zav,zb4,zb5,zb9,zba,zbb,zbc,zbd,zbf,zbg,zbj,zbk,zbl,zbm,zbn,zbp,zbt,zbu,zbw,zbx,zby,zbz,zc0,zc3,zc4,zc5,zc6,zc8,zca,zcc,zcd,zce,zcf,zcg,zch,zcj,zcn,zco,zcp,zcq,zcr,zct,zcu,zcv,zcw,zcx,zcy,zd3,zd5,zd6,zd7,zd8,zdd,zde,zdh,zdj,zdk,zdl,zdm,zdn,zdo,zds,zdt,zdu,zdv,zdw,zdx,zdy,zdz,ze0,ze1,ze2,ze3,ze9,zea,zeb,zec,zeo,zep,zeq,zer,zes,zet,zey,zez,zf0,zf1,zf3,zf4,zf5,zf6,zf7,zf8,zf9,zfa,zfb,zfc,zfd,zfg,zfh,zfi,zfj,zfk,zfm,zfo,zfp,zfq,zfr,zfs,zft,zfu,zfy,zfz,zg0,zg1,zhe,zhf,zhp,zj4,zj8, FR4, L4l, cl4, eapp, htl, b4, b5, b6, b7, q2, q4, hql, hkl, hkq, hkt, e23q, e23t, cF_gr, cF_nm, cF_sl]
                  tactic =>
                    unfold x9l2
                    rw [loop_rule l.length (fun j => [rK kn, I (i : Nat), rK kq, rK kt, I l.length, I (j : Nat)]) (fun _ => [])]
                    · (sym => (simp [etaM, etaF, z00,z01,z02,z03,z04,z05,z06,z07,z08,z09,z0b,z0c,z0f,z0h,z0j,z0n,z0o,z0p,z0q,z0r,z0s,z0t,z0v,z11,z12,z15,z1e,z1f,z1j,z1k,z1m,z1n,z1o,z1p,z1q,z1r,z1u,z1z,z20,z21,z23,z28,z29,z2a,z2b,z2g,z2h,z2i,z2n,z2u,z2v,z33,z34,z3h,z3p,z4f,z4l,z4m,z4o,z4q,z4s,z4t,z4y,z54,z55,z57,z59,z5b,z5e,z66,z67,z69,z6a,z6b,z6d,z6e,z6j,z6p,z6q,z6w,z78,z7d,z7f,z7g,z7r,z7s,z7u,z7w,z8a,z8d,z8h,z90,z91,z9d,z9e,z9g,z9i,z9j,z9k,z9l,z9m,z9n,z9p,z9r,z9s,z9v,z9w,z9x,z9y,za0,za1,za2,za3,za5,za6,za7,za8,za9,zaa,zab,zae,zaf,zag,zal,zam,zaq,zas,zat,zav,zb4,zb5,zb9,zba,zbb,zbc,zbd,zbf,zbg,zbj,zbk,zbl,zbm,zbn,zbp,zbt,zbu,zbw,zbx,zby,zbz,zc0,zc3,zc4,zc5,zc6,zc8,zca,zcc,zcd,zce,zcf,zcg,zch,zcj,zcn,zco,zcp,zcq,zcr,zct,zcu,zcv,zcw,zcx,zcy,zd3,zd5,zd6,zd7,zd8,zdd,zde,zdh,zdj,zdk,zdl,zdm,zdn,zdo,zds,zdt,zdu,zdv,zdw,zdx,zdy,zdz,ze0,ze1,ze2,ze3,ze9,zea,zeb,zec,zeo,zep,zeq,zer,zes,zet,zey,zez,zf0,zf1,zf3,zf4,zf5,zf6,zf7,zf8,zf9,zfa,zfb,zfc,zfd,zfg,zfh,zfi,zfj,zfk,zfm,zfo,zfp,zfq,zfr,zfs,zft,zfu,zfy,zfz,zg0,zg1,zhe,zhf,zhp,zj4,zj8, z1, works_w]; all_goals tactic => exact rfl))
                    · (sym => (simp [etaM, etaF, z00,z01,z02,z03,z04,z05,z06,z07,z08,z09,z0b,z0c,z0f,z0h,z0j,z0n,z0o,z0p,z0q,z0r,z0s,z0t,z0v,z11,z12,z15,z1e,z1f,z1j,z1k,z1m,z1n,z1o,z1p,z1q,z1r,z1u,z1z,z20,z21,z23,z28,z29,z2a,z2b,z2g,z2h,z2i,z2n,z2u,z2v,z33,z34,z3h,z3p,z4f,z4l,z4m,z4o,z4q,z4s,z4t,z4y,z54,z55,z57,z59,z5b,z5e,z66,z67,z69,z6a,z6b,z6d,z6e,z6j,z6p,z6q,z6w,z78,z7d,z7f,z7g,z7r,z7s,z7u,z7w,z8a,z8d,z8h,z90,z91,z9d,z9e,z9g,z9i,z9j,z9k,z9l,z9m,z9n,z9p,z9r,z9s,z9v,z9w,z9x,z9y,za0,za1,za2,za3,za5,za6,za7,za8,za9,zaa,zab,zae,zaf,zag,zal,zam,zaq,zas,zat,zav,zb4,zb5,zb9,zba,zbb,zbc,zbd,zbf,zbg,zbj,zbk,zbl,zbm,zbn,zbp,zbt,zbu,zbw,zbx,zby,zbz,zc0,zc3,zc4,zc5,zc6,zc8,zca,zcc,zcd,zce,zcf,zcg,zch,zcj,zcn,zco,zcp,zcq,zcr,zct,zcu,zcv,zcw,zcx,zcy,zd3,zd5,zd6,zd7,zd8,zdd,zde,zdh,zdj,zdk,zdl,zdm,zdn,zdo,zds,zdt,zdu,zdv,zdw,zdx,zdy,zdz,ze0,ze1,ze2,ze3,ze9,zea,zeb,zec,zeo,zep,zeq,zer,zes,zet,zey,zez,zf0,zf1,zf3,zf4,zf5,zf6,zf7,zf8,zf9,zfa,zfb,zfc,zfd,zfg,zfh,zfi,zfj,zfk,zfm,zfo,zfp,zfq,zfr,zfs,zft,zfu,zfy,zfz,zg0,zg1,zhe,zhf,zhp,zj4,zj8]; all_goals tactic => exact rfl))
                    · exact rdc
                    · (sym => (simp [etaM, etaF, z00,z01,z02,z03,z04,z05,z06,z07,z08,z09,z0b,z0c,z0f,z0h,z0j,z0n,z0o,z0p,z0q,z0r,z0s,z0t,z0v,z11,z12,z15,z1e,z1f,z1j,z1k,z1m,z1n,z1o,z1p,z1q,z1r,z1u,z1z,z20,z21,z23,z28,z29,z2a,z2b,z2g,z2h,z2i,z2n,z2u,z2v,z33,z34,z3h,z3p,z4f,z4l,z4m,z4o,z4q,z4s,z4t,z4y,z54,z55,z57,z59,z5b,z5e,z66,z67,z69,z6a,z6b,z6d,z6e,z6j,z6p,z6q,z6w,z78,z7d,z7f,z7g,z7r,z7s,z7u,z7w,z8a,z8d,z8h,z90,z91,z9d,z9e,z9g,z9i,z9j,z9k,z9l,z9m,z9n,z9p,z9r,z9s,z9v,z9w,z9x,z9y,za0,za1,za2,za3,za5,za6,za7,za8,za9,zaa,zab,zae,zaf,zag,zal,zam,zaq,zas,zat,zav,zb4,zb5,zb9,zba,zbb,zbc,zbd,zbf,zbg,zbj,zbk,zbl,zbm,zbn,zbp,zbt,zbu,zbw,zbx,zby,zbz,zc0,zc3,zc4,zc5,zc6,zc8,zca,zcc,zcd,zce,zcf,zcg,zch,zcj,zcn,zco,zcp,zcq,zcr,zct,zcu,zcv,zcw,zcx,zcy,zd3,zd5,zd6,zd7,zd8,zdd,zde,zdh,zdj,zdk,zdl,zdm,zdn,zdo,zds,zdt,zdu,zdv,zdw,zdx,zdy,zdz,ze0,ze1,ze2,ze3,ze9,zea,zeb,zec,zeo,zep,zeq,zer,zes,zet,zey,zez,zf0,zf1,zf3,zf4,zf5,zf6,zf7,zf8,zf9,zfa,zfb,zfc,zfd,zfg,zfh,zfi,zfj,zfk,zfm,zfo,zfp,zfq,zfr,zfs,zft,zfu,zfy,zfz,zg0,zg1,zhe,zhf,zhp,zj4,zj8, z1]; all_goals tactic => exact rfl))
              · (sym => (simp [etaM, etaF, z00,z01,z02,z03,z04,z05,z06,z07,z08,z09,z0b,z0c,z0f,z0h,z0j,z0n,z0o,z0p,z0q,z0r,z0s,z0t,z0v,z11,z12,z15,z1e,z1f,z1j,z1k,z1m,z1n,z1o,z1p,z1q,z1r,z1u,z1z,z20,z21,z23,z28,z29,z2a,z2b,z2g,z2h,z2i,z2n,z2u,z2v,z33,z34,z3h,z3p,z4f,z4l,z4m,z4o,z4q,z4s,z4t,z4y,z54,z55,z57,z59,z5b,z5e,z66,z67,z69,z6a,z6b,z6d,z6e,z6j,z6p,z6q,z6w,z78,z7d,z7f,z7g,z7r,z7s,z7u,z7w,z8a,z8d,z8h,z90,z91,z9d,z9e,z9g,z9i,z9j,z9k,z9l,z9m,z9n,z9p,z9r,z9s,z9v,z9w,z9x,z9y,za0,za1,za2,za3,za5,za6,za7,za8,za9,zaa,zab,zae,zaf,zag,zal,zam,zaq,zas,zat,zav,zb4,zb5,zb9,zba,zbb,zbc,zbd,zbf,zbg,zbj,zbk,zbl,zbm,zbn,zbp,zbt,zbu,zbw,zbx,zby,zbz,zc0,zc3,zc4,zc5,zc6,zc8,zca,zcc,zcd,zce,zcf,zcg,zch,zcj,zcn,zco,zcp,zcq,zcr,zct,zcu,zcv,zcw,zcx,zcy,zd3,zd5,zd6,zd7,zd8,zdd,zde,zdh,zdj,zdk,zdl,zdm,zdn,zdo,zds,zdt,zdu,zdv,zdw,zdx,zdy,zdz,ze0,ze1,ze2,ze3,ze9,zea,zeb,zec,zeo,zep,zeq,zer,zes,zet,zey,zez,zf0,zf1,zf3,zf4,zf5,zf6,zf7,zf8,zf9,zfa,zfb,zfc,zfd,zfg,zfh,zfi,zfj,zfk,zfm,zfo,zfp,zfq,zfr,zfs,zft,zfu,zfy,zfz,zg0,zg1,zhe,zhf,zhp,zj4,zj8, L0, FR0, hme, cF_gr, cF_nm, cF_sl]; all_goals tactic => exact rfl))
              · exact rdb
              · (sym => (simp [etaM, etaF, z00,z01,z02,z03,z04,z05,z06,z07,z08,z09,z0b,z0c,z0f,z0h,z0j,z0n,z0o,z0p,z0q,z0r,z0s,z0t,z0v,z11,z12,z15,z1e,z1f,z1j,z1k,z1m,z1n,z1o,z1p,z1q,z1r,z1u,z1z,z20,z21,z23,z28,z29,z2a,z2b,z2g,z2h,z2i,z2n,z2u,z2v,z33,z34,z3h,z3p,z4f,z4l,z4m,z4o,z4q,z4s,z4t,z4y,z54,z55,z57,z59,z5b,z5e,z66,z67,z69,z6a,z6b,z6d,z6e,z6j,z6p,z6q,z6w,z78,z7d,z7f,z7g,z7r,z7s,z7u,z7w,z8a,z8d,z8h,z90,z91,z9d,z9e,z9g,z9i,z9j,z9k,z9l,z9m,z9n,z9p,z9r,z9s,z9v,z9w,z9x,z9y,za0,za1,za2,za3,za5,za6,za7,za8,za9,zaa,zab,zae,zaf,zag,zal,zam,zaq,zas,zat,zav,zb4,zb5,zb9,zba,zbb,zbc,zbd,zbf,zbg,zbj,zbk,zbl,zbm,zbn,zbp,zbt,zbu,zbw,zbx,zby,zbz,zc0,zc3,zc4,zc5,zc6,zc8,zca,zcc,zcd,zce,zcf,zcg,zch,zcj,zcn,zco,zcp,zcq,zcr,zct,zcu,zcv,zcw,zcx,zcy,zd3,zd5,zd6,zd7,zd8,zdd,zde,zdh,zdj,zdk,zdl,zdm,zdn,zdo,zds,zdt,zdu,zdv,zdw,zdx,zdy,zdz,ze0,ze1,ze2,ze3,ze9,zea,zeb,zec,zeo,zep,zeq,zer,zes,zet,zey,zez,zf0,zf1,zf3,zf4,zf5,zf6,zf7,zf8,zf9,zfa,zfb,zfc,zfd,zfg,zfh,zfi,zfj,zfk,zfm,zfo,zfp,zfq,zfr,zfs,zft,zfu,zfy,zfz,zg0,zg1,zhe,zhf,zhp,zj4,zj8]; all_goals tactic => exact rfl))
        · (sym => (simp [etaM, etaF, z00,z01,z02,z03,z04,z05,z06,z07,z08,z09,z0b,z0c,z0f,z0h,z0j,z0n,z0o,z0p,z0q,z0r,z0s,z0t,z0v,z11,z12,z15,z1e,z1f,z1j,z1k,z1m,z1n,z1o,z1p,z1q,z1r,z1u,z1z,z20,z21,z23,z28,z29,z2a,z2b,z2g,z2h,z2i,z2n,z2u,z2v,z33,z34,z3h,z3p,z4f,z4l,z4m,z4o,z4q,z4s,z4t,z4y,z54,z55,z57,z59,z5b,z5e,z66,z67,z69,z6a,z6b,z6d,z6e,z6j,z6p,z6q,z6w,z78,z7d,z7f,z7g,z7r,z7s,z7u,z7w,z8a,z8d,z8h,z90,z91,z9d,z9e,z9g,z9i,z9j,z9k,z9l,z9m,z9n,z9p,z9r,z9s,z9v,z9w,z9x,z9y,za0,za1,za2,za3,za5,za6,za7,za8,za9,zaa,zab,zae,zaf,zag,zal,zam,zaq,zas,zat,zav,zb4,zb5,zb9,zba,zbb,zbc,zbd,zbf,zbg,zbj,zbk,zbl,zbm,zbn,zbp,zbt,zbu,zbw,zbx,zby,zbz,zc0,zc3,zc4,zc5,zc6,zc8,zca,zcc,zcd,zce,zcf,zcg,zch,zcj,zcn,zco,zcp,zcq,zcr,zct,zcu,zcv,zcw,zcx,zcy,zd3,zd5,zd6,zd7,zd8,zdd,zde,zdh,zdj,zdk,zdl,zdm,zdn,zdo,zds,zdt,zdu,zdv,zdw,zdx,zdy,zdz,ze0,ze1,ze2,ze3,ze9,zea,zeb,zec,zeo,zep,zeq,zer,zes,zet,zey,zez,zf0,zf1,zf3,zf4,zf5,zf6,zf7,zf8,zf9,zfa,zfb,zfc,zfd,zfg,zfh,zfi,zfj,zfk,zfm,zfo,zfp,zfq,zfr,zfs,zft,zfu,zfy,zfz,zg0,zg1,zhe,zhf,zhp,zj4,zj8, gQ0, cF_gr, cF_nm, cF_sl]; all_goals tactic => exact rfl))
        · exact rda
        · (sym => (simp [etaM, etaF, z00,z01,z02,z03,z04,z05,z06,z07,z08,z09,z0b,z0c,z0f,z0h,z0j,z0n,z0o,z0p,z0q,z0r,z0s,z0t,z0v,z11,z12,z15,z1e,z1f,z1j,z1k,z1m,z1n,z1o,z1p,z1q,z1r,z1u,z1z,z20,z21,z23,z28,z29,z2a,z2b,z2g,z2h,z2i,z2n,z2u,z2v,z33,z34,z3h,z3p,z4f,z4l,z4m,z4o,z4q,z4s,z4t,z4y,z54,z55,z57,z59,z5b,z5e,z66,z67,z69,z6a,z6b,z6d,z6e,z6j,z6p,z6q,z6w,z78,z7d,z7f,z7g,z7r,z7s,z7u,z7w,z8a,z8d,z8h,z90,z91,z9d,z9e,z9g,z9i,z9j,z9k,z9l,z9m,z9n,z9p,z9r,z9s,z9v,z9w,z9x,z9y,za0,za1,za2,za3,za5,za6,za7,za8,za9,zaa,zab,zae,zaf,zag,zal,zam,zaq,zas,zat,zav,zb4,zb5,zb9,zba,zbb,zbc,zbd,zbf,zbg,zbj,zbk,zbl,zbm,zbn,zbp,zbt,zbu,zbw,zbx,zby,zbz,zc0,zc3,zc4,zc5,zc6,zc8,zca,zcc,zcd,zce,zcf,zcg,zch,zcj,zcn,zco,zcp,zcq,zcr,zct,zcu,zcv,zcw,zcx,zcy,zd3,zd5,zd6,zd7,zd8,zdd,zde,zdh,zdj,zdk,zdl,zdm,zdn,zdo,zds,zdt,zdu,zdv,zdw,zdx,zdy,zdz,ze0,ze1,ze2,ze3,ze9,zea,zeb,zec,zeo,zep,zeq,zer,zes,zet,zey,zez,zf0,zf1,zf3,zf4,zf5,zf6,zf7,zf8,zf9,zfa,zfb,zfc,zfd,zfg,zfh,zfi,zfj,zfk,zfm,zfo,zfp,zfq,zfr,zfs,zft,zfu,zfy,zfz,zg0,zg1,zhe,zhf,zhp,zj4,zj8, gQn, z1]; all_goals tactic => exact rfl))
end Go.Proofs.Ytdbikamciedfdaa
