/- Parts of a proof, joined: GT E0 E1 K1 K2 K3 K4 K5 K6 K7 K8 K9 K10 K11 K12 K13 K14 K15 K16 K17 K18 K19 K20 K21 K22 K23 K24 K25 K26 K27 K28 K29 K30 K31 K32 K33 K34 K35 K36 K37 K38 K39 K40 K41 K42 K43 K44 K45 K46 K47 K48 K49. No statement of the seed is proved here. -/
import Derived.KernelRfl
import Derived.Test.YtdbikamciedfdaaT4
set_option linter.unusedSimpArgs false
set_option linter.unusedVariables false
set_option linter.unusedSectionVars false
namespace Go.Proofs.Ytdbikamciedfdaa
open Go Go.DL Go.Proofs.Try

def progX : Nat → Option XFn
  | 3 => some x3
  | 4 => some x4
  | 5 => some x5
  | 6 => some x6
  | 7 => some x7
  | 8 => some x8
  | 9 => some x9
  | 10 => some x10
  | 11 => some x11
  | 12 => some x12
  | 13 => some x13
  | 14 => some x14
  | 15 => some x15
  | 16 => some x16
  | 17 => some x17
  | 18 => some x18
  | 19 => some x19
  | 20 => some x20
  | 21 => some x21
  | 22 => some x22
  | 23 => some x23
  | 24 => some x24
  | 25 => some x25
  | 26 => some x26
  | 27 => some x27
  | 28 => some x28
  | 29 => some x29
  | 30 => some x30
  | 31 => some x31
  | 32 => some x32
  | 33 => some x33
  | 34 => some x34
  | 35 => some x35
  | 36 => some x36
  | 37 => some x37
  | 38 => some x38
  | 39 => some x39
  | 40 => some x40
  | 41 => some x41
  | 42 => some x42
  | 43 => some x43
  | 44 => some x44
  | 45 => some x45
  | 46 => some x46
  | 47 => some x47
  | 48 => some x48
  | 49 => some x49
  | 50 => some x50
  | 51 => some x51
  | 52 => some x52
  | 53 => some x53
  | 54 => some x54
  | 55 => some x55
  | 56 => some x56
  | 57 => some x57
  | 58 => some x58
  | 59 => some x59
  | 60 => some x60
  | 61 => some x61
  | 62 => some x62
  | 63 => some x63
  | 64 => some x64
  | 65 => some x65
  | 66 => some x66
  | 67 => some x67
  | 68 => some x68
  | 69 => some x69
  | 70 => some x70
  | 71 => some x71
  | 72 => some x72
  | 73 => some x73
  | 74 => some x74
  | 75 => some x75
  | 76 => some x76
  | 77 => some x77
  | 78 => some x78
  | 79 => some x79
  | 80 => some x80
  | _ => none
theorem progX_ok : XOk prog progX := by
  refine ⟨rfl, fun k d h => ?_, fun k d h => ?_, fun k d h => ?_⟩
  · unfold progX at h
    split at h <;> first | (cases h; done) | (simp only [Option.some.injEq] at h; subst h; first | exact is3 | exact is4 | exact is5 | exact is6 | exact is7 | exact is8 | exact is9 | exact is10 | exact is11 | exact is12 | exact is13 | exact is14 | exact is15 | exact is16 | exact is17 | exact is18 | exact is19 | exact is20 | exact is21 | exact is22 | exact is23 | exact is24 | exact is25 | exact is26 | exact is27 | exact is28 | exact is29 | exact is30 | exact is31 | exact is32 | exact is33 | exact is34 | exact is35 | exact is36 | exact is37 | exact is38 | exact is39 | exact is40 | exact is41 | exact is42 | exact is43 | exact is44 | exact is45 | exact is46 | exact is47 | exact is48 | exact is49 | exact is50 | exact is51 | exact is52 | exact is53 | exact is54 | exact is55 | exact is56 | exact is57 | exact is58 | exact is59 | exact is60 | exact is61 | exact is62 | exact is63 | exact is64 | exact is65 | exact is66 | exact is67 | exact is68 | exact is69 | exact is70 | exact is71 | exact is72 | exact is73 | exact is74 | exact is75 | exact is76 | exact is77 | exact is78 | exact is79 | exact is80)
  · unfold progX at h
    split at h <;> first | (cases h; done) | (simp only [Option.some.injEq] at h; subst h; first | exact ok3 | exact ok4 | exact ok5 | exact ok6 | exact ok7 | exact ok8 | exact ok9 | exact ok10 | exact ok11 | exact ok12 | exact ok13 | exact ok14 | exact ok15 | exact ok16 | exact ok17 | exact ok18 | exact ok19 | exact ok20 | exact ok21 | exact ok22 | exact ok23 | exact ok24 | exact ok25 | exact ok26 | exact ok27 | exact ok28 | exact ok29 | exact ok30 | exact ok31 | exact ok32 | exact ok33 | exact ok34 | exact ok35 | exact ok36 | exact ok37 | exact ok38 | exact ok39 | exact ok40 | exact ok41 | exact ok42 | exact ok43 | exact ok44 | exact ok45 | exact ok46 | exact ok47 | exact ok48 | exact ok49 | exact ok50 | exact ok51 | exact ok52 | exact ok53 | exact ok54 | exact ok55 | exact ok56 | exact ok57 | exact ok58 | exact ok59 | exact ok60 | exact ok61 | exact ok62 | exact ok63 | exact ok64 | exact ok65 | exact ok66 | exact ok67 | exact ok68 | exact ok69 | exact ok70 | exact ok71 | exact ok72 | exact ok73 | exact ok74 | exact ok75 | exact ok76 | exact ok77 | exact ok78 | exact ok79 | exact ok80)
  · unfold progX at h
    split at h <;> first | (cases h; done) | (simp only [Option.some.injEq] at h; subst h; first | exact st3 | exact st4 | exact st5 | exact st6 | exact st7 | exact st8 | exact st9 | exact st10 | exact st11 | exact st12 | exact st13 | exact st14 | exact st15 | exact st16 | exact st17 | exact st18 | exact st19 | exact st20 | exact st21 | exact st22 | exact st23 | exact st24 | exact st25 | exact st26 | exact st27 | exact st28 | exact st29 | exact st30 | exact st31 | exact st32 | exact st33 | exact st34 | exact st35 | exact st36 | exact st37 | exact st38 | exact st39 | exact st40 | exact st41 | exact st42 | exact st43 | exact st44 | exact st45 | exact st46 | exact st47 | exact st48 | exact st49 | exact st50 | exact st51 | exact st52 | exact st53 | exact st54 | exact st55 | exact st56 | exact st57 | exact st58 | exact st59 | exact st60 | exact st61 | exact st62 | exact st63 | exact st64 | exact st65 | exact st66 | exact st67 | exact st68 | exact st69 | exact st70 | exact st71 | exact st72 | exact st73 | exact st74 | exact st75 | exact st76 | exact st77 | exact st78 | exact st79 | exact st80)
theorem r3 {vs : List AV} {h : XH} (hl : vs.length ≤ 90) : runW progX 3 vs h = retX x3.res x3.ownR h.length (execW progX 3 h.length none x3.body (argEnv (if x3.ownA then vs else nzL vs)) h) := runW_eq rfl hl h
theorem r4 {vs : List AV} {h : XH} (hl : vs.length ≤ 65) : runW progX 4 vs h = retX x4.res x4.ownR h.length (execW progX 4 h.length none x4.body (argEnv (if x4.ownA then vs else nzL vs)) h) := runW_eq rfl hl h
theorem r8 {vs : List AV} {h : XH} (hl : vs.length ≤ 179) : runW progX 8 vs h = retX x8.res x8.ownR h.length (execW progX 8 h.length none x8.body (argEnv (if x8.ownA then vs else nzL vs)) h) := runW_eq rfl hl h
theorem r20 {vs : List AV} {h : XH} (hl : vs.length ≤ 18) : runW progX 20 vs h = retX x20.res x20.ownR h.length (execW progX 20 h.length none x20.body (argEnv (if x20.ownA then vs else nzL vs)) h) := runW_eq rfl hl h
theorem r23 {vs : List AV} {h : XH} (hl : vs.length ≤ 56) : runW progX 23 vs h = retX x23.res x23.ownR h.length (execW progX 23 h.length none x23.body (argEnv (if x23.ownA then vs else nzL vs)) h) := runW_eq rfl hl h
theorem r29 {vs : List AV} {h : XH} (hl : vs.length ≤ 180) : runW progX 29 vs h = retX x29.res x29.ownR h.length (execW progX 29 h.length none x29.body (argEnv (if x29.ownA then vs else nzL vs)) h) := runW_eq rfl hl h
theorem r36 {vs : List AV} {h : XH} (hl : vs.length ≤ 4) : runW progX 36 vs h = retX x36.res x36.ownR h.length (execW progX 36 h.length none x36.body (argEnv (if x36.ownA then vs else nzL vs)) h) := runW_eq rfl hl h
theorem r39 {vs : List AV} {h : XH} (hl : vs.length ≤ 54) : runW progX 39 vs h = retX x39.res x39.ownR h.length (execW progX 39 h.length none x39.body (argEnv (if x39.ownA then vs else nzL vs)) h) := runW_eq rfl hl h
theorem r42 {vs : List AV} {h : XH} (hl : vs.length ≤ 15) : runW progX 42 vs h = retX x42.res x42.ownR h.length (execW progX 42 h.length none x42.body (argEnv (if x42.ownA then vs else nzL vs)) h) := runW_eq rfl hl h
theorem r43 {vs : List AV} {h : XH} (hl : vs.length ≤ 21) : runW progX 43 vs h = retX x43.res x43.ownR h.length (execW progX 43 h.length none x43.body (argEnv (if x43.ownA then vs else nzL vs)) h) := runW_eq rfl hl h
theorem r44 {vs : List AV} {h : XH} (hl : vs.length ≤ 37) : runW progX 44 vs h = retX x44.res x44.ownR h.length (execW progX 44 h.length none x44.body (argEnv (if x44.ownA then vs else nzL vs)) h) := runW_eq rfl hl h
theorem r47 {vs : List AV} {h : XH} (hl : vs.length ≤ 28) : runW progX 47 vs h = retX x47.res x47.ownR h.length (execW progX 47 h.length none x47.body (argEnv (if x47.ownA then vs else nzL vs)) h) := runW_eq rfl hl h
theorem r48 {vs : List AV} {h : XH} (hl : vs.length ≤ 44) : runW progX 48 vs h = retX x48.res x48.ownR h.length (execW progX 48 h.length none x48.body (argEnv (if x48.ownA then vs else nzL vs)) h) := runW_eq rfl hl h
theorem r54 {vs : List AV} {h : XH} (hl : vs.length ≤ 23) : runW progX 54 vs h = retX x54.res x54.ownR h.length (execW progX 54 h.length none x54.body (argEnv (if x54.ownA then vs else nzL vs)) h) := runW_eq rfl hl h
theorem r55 {vs : List AV} {h : XH} (hl : vs.length ≤ 11) : runW progX 55 vs h = retX x55.res x55.ownR h.length (execW progX 55 h.length none x55.body (argEnv (if x55.ownA then vs else nzL vs)) h) := runW_eq rfl hl h
theorem r57 {vs : List AV} {h : XH} (hl : vs.length ≤ 22) : runW progX 57 vs h = retX x57.res x57.ownR h.length (execW progX 57 h.length none x57.body (argEnv (if x57.ownA then vs else nzL vs)) h) := runW_eq rfl hl h
theorem r58 {vs : List AV} {h : XH} (hl : vs.length ≤ 21) : runW progX 58 vs h = retX x58.res x58.ownR h.length (execW progX 58 h.length none x58.body (argEnv (if x58.ownA then vs else nzL vs)) h) := runW_eq rfl hl h
theorem r61 {vs : List AV} {h : XH} (hl : vs.length ≤ 23) : runW progX 61 vs h = retX x61.res x61.ownR h.length (execW progX 61 h.length none x61.body (argEnv (if x61.ownA then vs else nzL vs)) h) := runW_eq rfl hl h
theorem r66 {vs : List AV} {h : XH} (hl : vs.length ≤ 39) : runW progX 66 vs h = retX x66.res x66.ownR h.length (execW progX 66 h.length none x66.body (argEnv (if x66.ownA then vs else nzL vs)) h) := runW_eq rfl hl h
theorem r67 {vs : List AV} {h : XH} (hl : vs.length ≤ 33) : runW progX 67 vs h = retX x67.res x67.ownR h.length (execW progX 67 h.length none x67.body (argEnv (if x67.ownA then vs else nzL vs)) h) := runW_eq rfl hl h
theorem r69 {vs : List AV} {h : XH} (hl : vs.length ≤ 9) : runW progX 69 vs h = retX x69.res x69.ownR h.length (execW progX 69 h.length none x69.body (argEnv (if x69.ownA then vs else nzL vs)) h) := runW_eq rfl hl h
theorem r70 {vs : List AV} {h : XH} (hl : vs.length ≤ 7) : runW progX 70 vs h = retX x70.res x70.ownR h.length (execW progX 70 h.length none x70.body (argEnv (if x70.ownA then vs else nzL vs)) h) := runW_eq rfl hl h
theorem r71 {vs : List AV} {h : XH} (hl : vs.length ≤ 10) : runW progX 71 vs h = retX x71.res x71.ownR h.length (execW progX 71 h.length none x71.body (argEnv (if x71.ownA then vs else nzL vs)) h) := runW_eq rfl hl h
theorem r72 {vs : List AV} {h : XH} (hl : vs.length ≤ 10) : runW progX 72 vs h = retX x72.res x72.ownR h.length (execW progX 72 h.length none x72.body (argEnv (if x72.ownA then vs else nzL vs)) h) := runW_eq rfl hl h
theorem r74 {vs : List AV} {h : XH} (hl : vs.length ≤ 9) : runW progX 74 vs h = retX x74.res x74.ownR h.length (execW progX 74 h.length none x74.body (argEnv (if x74.ownA then vs else nzL vs)) h) := runW_eq rfl hl h
theorem r75 {vs : List AV} {h : XH} (hl : vs.length ≤ 10) : runW progX 75 vs h = retX x75.res x75.ownR h.length (execW progX 75 h.length none x75.body (argEnv (if x75.ownA then vs else nzL vs)) h) := runW_eq rfl hl h
theorem r79 {vs : List AV} {h : XH} (hl : vs.length ≤ 19) : runW progX 79 vs h = retX x79.res x79.ownR h.length (execW progX 79 h.length none x79.body (argEnv (if x79.ownA then vs else nzL vs)) h) := runW_eq rfl hl h
theorem r80 {vs : List AV} {h : XH} (hl : vs.length ≤ 19) : runW progX 80 vs h = retX x80.res x80.ownR h.length (execW progX 80 h.length none x80.body (argEnv (if x80.ownA then vs else nzL vs)) h) := runW_eq rfl hl h

end Go.Proofs.Ytdbikamciedfdaa
namespace Go.Proofs.Ytdbikamciedfdaa
open Go Go.DL
theorem wk_0 : runW progX 32 [] [] = some (.agg [I (3), .sl 0 0 7 7], [some (.blk true (.cells true [I (-1), I (0), .bool true, I (100), I (600), I (130), I (20), I (0), I (1), .bool false, I (0), I (0), I (0), I (0), I (0), I (-1), .bool true, I (5), I (150), I (125), I (8), I (1), I (2), .bool true, I (90), I (40), I (0), I (6), I (1), I (-1), .bool false, I (0), I (0), I (0), I (0), I (2), I (-1), .bool false, I (0), I (0), I (0), I (0), I (2), I (-1), .bool true, I (80), I (1), I (0), I (1)]))]) := runW_iff.2 ⟨100, by kernel_rfl⟩
theorem wk_1 : runW progX 13 [.agg [I (3), .fs [[I (-1), I (0), .bool true, I (100), I (600), I (130), I (20)], [I (0), I (1), .bool false, I (0), I (0), I (0), I (0)], [I (0), I (-1), .bool true, I (5), I (150), I (125), I (8)], [I (1), I (2), .bool true, I (90), I (40), I (0), I (6)], [I (1), I (-1), .bool false, I (0), I (0), I (0), I (0)], [I (2), I (-1), .bool false, I (0), I (0), I (0), I (0)], [I (2), I (-1), .bool true, I (80), I (1), I (0), I (1)]]]] [] = some (.tup [.fs [[I (-1)], [I (-1)], [I (-1)]], I (0)], []) := runW_iff.2 ⟨100, by kernel_rfl⟩
theorem wk_2 : runW progX 23 [.agg [I (3), .fs [[I (-1), I (0), .bool true, I (100), I (600), I (130), I (20)], [I (0), I (1), .bool false, I (0), I (0), I (0), I (0)], [I (0), I (-1), .bool true, I (5), I (150), I (125), I (8)], [I (1), I (2), .bool true, I (90), I (40), I (0), I (6)], [I (1), I (-1), .bool false, I (0), I (0), I (0), I (0)], [I (2), I (-1), .bool false, I (0), I (0), I (0), I (0)], [I (2), I (-1), .bool true, I (80), I (1), I (0), I (1)]]]] [] = some (.tup [.fs [[I (1), I (100), I (600), I (130), I (20)], [I (2), I (95), I (450), I (5), I (12)], [I (1), I (5), I (150), I (125), I (8)], [I (1), I (90), I (40), I (0), I (6)], [I (2), I (5), I (410), I (5), I (6)], [I (2), I (10), I (39), I (0), I (5)], [I (1), I (80), I (1), I (0), I (1)]], I (0)], []) := runW_iff.2 ⟨100, by kernel_rfl⟩
theorem wk_3 : runW progX 23 [.agg [I (3), .fs [[I (-1), I (0), .bool true, I (100), I (600), I (130), I (20)], [I (0), I (1), .bool false, I (0), I (0), I (0), I (0)], [I (0), I (-1), .bool true, I (5), I (150), I (125), I (8)], [I (1), I (2), .bool false, I (90), I (40), I (0), I (6)], [I (1), I (-1), .bool false, I (0), I (0), I (0), I (0)], [I (2), I (-1), .bool false, I (0), I (0), I (0), I (0)], [I (2), I (-1), .bool true, I (80), I (1), I (0), I (1)]]]] [] = some (.tup [.fs [[I (1), I (100), I (600), I (130), I (20)], [I (2), I (95), I (450), I (5), I (12)], [I (1), I (5), I (150), I (125), I (8)], [I (3), I (0), I (0), I (0), I (0)], [I (3), I (0), I (0), I (0), I (0)], [I (3), I (0), I (0), I (0), I (0)], [I (1), I (80), I (1), I (0), I (1)]], I (0)], []) := runW_iff.2 ⟨100, by kernel_rfl⟩
theorem wk_4 : runW progX 16 [.agg [I (3), .fs [[I (-1), I (0), .bool true, I (100), I (600), I (130), I (20)], [I (0), I (1), .bool false, I (0), I (0), I (0), I (0)], [I (0), I (-1), .bool true, I (5), I (150), I (125), I (8)], [I (1), I (2), .bool true, I (90), I (40), I (0), I (6)], [I (1), I (-1), .bool false, I (0), I (0), I (0), I (0)], [I (2), I (-1), .bool false, I (0), I (0), I (0), I (0)], [I (2), I (-1), .bool true, I (80), I (1), I (0), I (1)]]], .sl 0 0 1 2] [some (.blk true (.cells true [I (0), I (1)]))] = some (.tup [.agg [I (5), I (410), I (5), I (6)], I (0)], [none]) := runW_iff.2 ⟨100, by kernel_rfl⟩
theorem wk_5 : runW progX 33 [.agg [I (3), .fs [[I (-1), I (0), .bool true, I (100), I (600), I (130), I (20)], [I (0), I (1), .bool false, I (0), I (0), I (0), I (0)], [I (0), I (-1), .bool true, I (5), I (150), I (125), I (8)], [I (1), I (2), .bool false, I (90), I (40), I (0), I (6)], [I (1), I (-1), .bool false, I (0), I (0), I (0), I (0)], [I (2), I (-1), .bool false, I (0), I (0), I (0), I (0)], [I (2), I (-1), .bool true, I (80), I (1), I (0), I (1)]]], I (3), .agg [I (0), I (0), I (0), I (0)]] [] = some (.tup [.fs [[I (100), I (600), I (130), I (20)], [I (95), I (450), I (5), I (12)], [I (5), I (150), I (125), I (8)], [I (0), I (0), I (0), I (0)], [I (95), I (450), I (5), I (12)], [I (-80), I (-1), I (0), I (-1)], [I (80), I (1), I (0), I (1)]], I (0)], []) := runW_iff.2 ⟨100, by kernel_rfl⟩
theorem wk_6 : runW progX 23 [.agg [I (3), .fs [[I (-1), I (0), .bool true, I (100), I (600), I (130), I (20)], [I (0), I (1), .bool true, I (95), I (450), I (5), I (12)], [I (0), I (-1), .bool true, I (5), I (150), I (125), I (8)], [I (1), I (2), .bool true, I (90), I (40), I (0), I (6)], [I (1), I (-1), .bool true, I (5), I (410), I (5), I (6)], [I (2), I (-1), .bool true, I (10), I (39), I (0), I (4)], [I (2), I (-1), .bool true, I (80), I (1), I (0), I (1)]]]] [] = some (.tup [.fs [], I (12)], []) := runW_iff.2 ⟨100, by kernel_rfl⟩
theorem wk_7 : runW progX 25 [.agg [I (3), .fs [[I (-1), I (0), .bool true, I (100), I (600), I (130), I (20)], [I (0), I (1), .bool true, I (95), I (450), I (5), I (12)], [I (0), I (-1), .bool true, I (5), I (150), I (125), I (8)], [I (1), I (2), .bool true, I (90), I (40), I (0), I (6)], [I (1), I (-1), .bool true, I (5), I (410), I (5), I (6)], [I (2), I (-1), .bool true, I (10), I (39), I (0), I (4)], [I (2), I (-1), .bool true, I (80), I (1), I (0), I (1)]]]] [] = some (.tup [.fs [[I (2)]], I (3), I (0)], []) := runW_iff.2 ⟨100, by kernel_rfl⟩
theorem wk_8 : runW progX 22 [.fs [[I (-1)], [I (-1)], [I (-1)]], .sl 0 0 1 3] [some (.blk true (.cells true [I (-1), I (-1), I (-1)]))] = some (.bool true, [some (.blk true (.cells true [I (-1), I (-1), I (-1)]))]) := runW_iff.2 ⟨100, by kernel_rfl⟩
theorem wk_9 : runW progX 28 [.agg [I (3), .fs [[I (-1), I (0), .bool true, I (100), I (600), I (130), I (20)], [I (0), I (1), .bool true, I (95), I (450), I (5), I (12)], [I (0), I (-1), .bool true, I (5), I (150), I (125), I (8)], [I (1), I (2), .bool true, I (90), I (40), I (0), I (6)], [I (1), I (-1), .bool true, I (5), I (410), I (5), I (6)], [I (2), I (-1), .bool true, I (10), I (39), I (0), I (4)], [I (2), I (-1), .bool true, I (80), I (1), I (0), I (1)]]], .fs [[I (2)]], I (3)] [] = some (I (0), []) := runW_iff.2 ⟨100, by kernel_rfl⟩
theorem wk_10 : runW progX 28 [.agg [I (3), .fs [[I (-1), I (0), .bool true, I (100), I (600), I (130), I (20)], [I (0), I (1), .bool true, I (95), I (450), I (5), I (12)], [I (0), I (-1), .bool true, I (5), I (150), I (125), I (8)], [I (1), I (2), .bool true, I (90), I (40), I (0), I (6)], [I (1), I (-1), .bool true, I (5), I (410), I (5), I (6)], [I (2), I (-1), .bool true, I (10), I (39), I (0), I (4)], [I (2), I (-1), .bool true, I (80), I (1), I (0), I (1)]]], .sl 0 0 1 1, I (3)] [some (.blk true (.cells true [I (2)]))] = some (I (0), [none]) := runW_iff.2 ⟨100, by kernel_rfl⟩
theorem wk_11 : runW progX 18 [.str ⟨#[97, 57]⟩] [] = some (.bool true, []) := runW_iff.2 ⟨100, by kernel_rfl⟩
theorem wk_12 : runW progX 18 [.str ⟨#[57, 97]⟩] [] = some (.bool false, []) := runW_iff.2 ⟨100, by kernel_rfl⟩
end Go.Proofs.Ytdbikamciedfdaa
namespace Go.Proofs.Ytdbikamciedfdaa
open Go Go.DL
set_option maxHeartbeats 4000000
set_option maxRecDepth 100000
theorem works_w : runW progX 12 [] [] = some (.bool true, []) := by
  rw [runW_eq (d := x12) rfl (by simp)]
  simp (config := { maxSteps := 2000000 }) [nzL, nzA, zfo, execW_regS, execW_regD, zfp, zfq, zfr, zfs, execW_cond, zft, zfu, zfv, zfw, zfx, zfy, xops, xopsD, gd, xcore, evalQ, evA, updo, upd_eq, binA, intA, fzX, fzNs, fzOf, fz1, retX_n, retX_r, resA, resL, resA1, finX, slN, slL, keepAcc, reachX, reachFuel, nmL, nmA, nmO, nmB, keepH, padTake, rnA, rnL, rnO, rnB, argEnv, List.flatMap, callX, passedOf, passed, localH, posOf, mergeR, mergeH, setL, backS, hat, hpOf, xNew, flagNew, flagH, grA, grL, loadA, readA, xStore, cellsOf, splice, fzA, fzL, fzB, fzO, chunks, keepS, cellsEq, cellEq, logOk, logPost, logX, blkA, callQ, fillA, canonE, canonH, envL, eqnA, boundA, slslA, srcA, appA, lookA, findA, keyEqA, putA, xMapup, xCopy, sameO, sameL, sameA, keptB, roX, gdA, gdL, gdR, anyE, wrap_ok, canonL, zfz, leaves, x12, x12l0, execW_loop, wk_0, wk_1, wk_2, wk_3, wk_4, wk_5, wk_6, wk_7, wk_8, wk_9, wk_10, wk_11, wk_12]
end Go.Proofs.Ytdbikamciedfdaa
namespace Go.Proofs.Ytdbikamciedfdaa
open Go Go.DL
set_option maxRecDepth 100000
set_option maxHeartbeats 1000000
abbrev wr (n : Int) : Int := IntKind.i64.wrap n

def btw (a b c : Int) : Bool := decide (a ≤ b) && decide (b ≤ c)
theorem w42 (a b c : Int) : runW progX 42 [I a, I b, I c] [] = some (.bool (btw a b c), []) := by
  rw [r42 (by simp)]; unfold x42; dsimp only
  by_cases h : a ≤ b
  · have h := eq_true h
    (sym => (simp [z00,z01,z05,z07,z0b,z0c,z0h,z0i,z0k,z0n,z0q,z0v,z22,z23,z2w,z4m,z67,z6q,z7r,z7s,z9n,z9y,za3,za5,za7,za8,zba,zbt,zbu,zbw,zbx,zby,zbz,zc0,zc3,zc4,zc5,zc6,zc8,zcj,zco,zcr,zct,zcv,zd2,zd4,zdk,zdl,zdo,zds,zdt,ze2,ze3,zfm,zfo,zfp,zft,zg0,zg1, h, btw.eq_1]; all_goals tactic => exact rfl))
  · have h := eq_false h
    (sym => (simp [z00,z01,z05,z07,z0b,z0c,z0h,z0i,z0k,z0n,z0q,z0v,z22,z23,z2w,z4m,z67,z6q,z7r,z7s,z9n,z9y,za3,za5,za7,za8,zba,zbt,zbu,zbw,zbx,zby,zbz,zc0,zc3,zc4,zc5,zc6,zc8,zcj,zco,zcr,zct,zcv,zd2,zd4,zdk,zdl,zdo,zds,zdt,ze2,ze3,zfm,zfo,zfp,zft,zg0,zg1, h, btw.eq_1]; all_goals tactic => exact rfl))
/-- Masses. -/
structure Ms where
  a : Int
  b : Int
  c : Int
  d : Int
deriving DecidableEq
abbrev Ms.cs (m : Ms) : List AV := [I m.a, I m.b, I m.c, I m.d]
def Ms.plus (m : Ms) (t : Int) (o : Ms) : Ms := ⟨wr (m.a + wr (t * o.a)), wr (m.b + wr (t * o.b)), wr (m.c + wr (t * o.c)), wr (m.d + wr (t * o.d))⟩

theorem w61 (a b c d t a' b' c' d' : Int) : runW progX 61 [.agg [I a, I b, I c, I d], I t, .agg [I a', I b', I c', I d']] [] = some (.agg (Ms.plus ⟨a, b, c, d⟩ t ⟨a', b', c', d'⟩).cs, []) := by
  rw [r61 (by simp)]; unfold x61; dsimp only
  unfold x61l0
  (sym => (simp [z00,z01,z02,z05,z07,z08,z0b,z0c,z0f,z0n,z0o,z0r,z0v,z14,z1j,z1k,z1m,z1n,z1o,z1p,z1q,z2j,z2l,z2v,z36,z37,z38,z39,z3g,z3i,z3k,z3m,z3p,z40,z4l,z4o,z4t,z54,z57,z66,z69,z6e,z6p,z6s,z7r,z7u,z8a,z8d,z91,z9d,z9e,z9g,z9i,z9j,z9k,z9l,z9m,z9n,z9p,z9r,z9s,z9v,z9w,z9y,za0,za1,za3,za6,za7,za8,za9,zae,zaf,zal,zav,zba,zbt,zbu,zbw,zbx,zby,zbz,zc0,zc3,zc4,zc5,zc7,zc8,zca,zcb,zcc,zcd,zce,zcf,zcg,zcj,zcn,zco,zcp,zcq,zcr,zct,zcu,zcv,zcy,zd3,zd7,zd8,zdd,zdj,zdk,zdl,zdm,zdn,zds,zdt,zdu,zdv,zdw,zdx,zdy,zdz,ze2,ze3,ze9,zeo,zep,zf6,zf7,zfa,zfb,zfc,zfd,zfg,zfm,zfo,zfp,zfq,zfr,zfs,zft,zfu,zfw,zfy,zg0,zg1,zhf,zj8, execW_loop]; all_goals tactic => exact rfl))
end Go.Proofs.Ytdbikamciedfdaa
namespace Go.Proofs.Ytdbikamciedfdaa
open Go Go.DL
set_option maxRecDepth 100000
set_option maxHeartbeats 1000000

def encM (es : List (Int × Int)) : List (AV × AV) := es.map fun p => (I p.1, I p.2)
def look (es : List (Int × Int)) (x : Int) : Option Int := match es with
  | [] => none
  | p :: r => if p.1 = x then some p.2 else look r x
abbrev mapB (es : List (Int × Int)) : Option XB := some (.blk true (.map true (encM es)))

theorem findA_enc (es : List (Int × Int)) (x : Int) : findA false (I x) (encM es) = some ((look es x).map I) := by
  induction es with
  | nil => rfl
  | cons p r ih =>
    simp only [encM, List.map_cons, findA, keyEqA, if_true, look] at ih ⊢
    by_cases h : p.1 = x
    · simp [h]
    · rw [show (x == p.1) = false by simpa using fun e => h e.symm]
      simpa [h] using ih

def stepH (es : List (Int × Int)) (x : Int) : Int := (look es x).getD x
def itH (es : List (Int × Int)) : Nat → Int → Int
  | 0, x => x
  | n + 1, x => stepH es (itH es n x)

theorem w57 (es : List (Int × Int)) (x : Int) (n : Nat) (h1 : ∀ i, i < n → stepH es (itH es i x) ≠ itH es i x) (h2 : stepH es (itH es n x) = itH es n x) :
    runW progX 57 [.mp 0, I x] [mapB es] = some (I (itH es n x), [mapB es]) := by
  rw [r57 (by simp)]; unfold x57; dsimp only
  have hl : look es (itH es n x) = none ∨ look es (itH es n x) = some (itH es n x) := by
    unfold stepH at h2
    cases hx : look es (itH es n x) with
    | none => exact .inl rfl
    | some y => rw [hx] at h2; simp at h2; right; rw [h2]
  sym =>
    simp [z00,z01,z05,z07,z0b,z0c,z0h,z0j,z0l,z0n,z0q,z0v,z0z,z1d,z1e,z22,z23,z26,z2i,z2t,z47,z48,z4a,z4c,z4d,z4l,z4u,z66,z6f,z6p,z7r,z80,z9d,z9e,z9g,z9n,z9p,z9r,z9w,z9y,za1,za3,za5,za6,za7,za8,zae,zaf,zak,zal,zba,zbt,zbu,zbw,zbx,zby,zbz,zc0,zc3,zc4,zc5,zc6,zc8,zca,zcc,zcd,zce,zcf,zcg,zci,zcj,zcn,zco,zcr,zcs,zct,zcu,zcv,zcy,zcz,zd6,zd7,zdj,zdk,zdl,zdo,zds,zdt,zdu,zdv,ze2,ze3,zfm,zfo,zfp,zfq,zfs,zft,zfv,zfw,zfx,zfz,zg0,zg1]
    tactic =>
      unfold x57l0
      rw [loop_rule n (fun i => [.mp 0, I (itH es i x)]) (fun _ => [mapB es])]
      · rcases hl with hl | hl <;> (sym => (simp [z00,z01,z05,z07,z0b,z0c,z0h,z0j,z0l,z0n,z0q,z0v,z0z,z1d,z1e,z22,z23,z26,z2i,z2t,z47,z48,z4a,z4c,z4d,z4l,z4u,z66,z6f,z6p,z7r,z80,z9d,z9e,z9g,z9n,z9p,z9r,z9w,z9y,za1,za3,za5,za6,za7,za8,zae,zaf,zak,zal,zba,zbt,zbu,zbw,zbx,zby,zbz,zc0,zc3,zc4,zc5,zc6,zc8,zca,zcc,zcd,zce,zcf,zcg,zci,zcj,zcn,zco,zcr,zcs,zct,zcu,zcv,zcy,zcz,zd6,zd7,zdj,zdk,zdl,zdo,zds,zdt,zdu,zdv,ze2,ze3,zfm,zfo,zfp,zfq,zfs,zft,zfv,zfw,zfx,zfz,zg0,zg1, hl, findA_enc]; all_goals tactic => exact rfl))
      · (sym => (simp [z00,z01,z05,z07,z0b,z0c,z0h,z0j,z0l,z0n,z0q,z0v,z0z,z1d,z1e,z22,z23,z26,z2i,z2t,z47,z48,z4a,z4c,z4d,z4l,z4u,z66,z6f,z6p,z7r,z80,z9d,z9e,z9g,z9n,z9p,z9r,z9w,z9y,za1,za3,za5,za6,za7,za8,zae,zaf,zak,zal,zba,zbt,zbu,zbw,zbx,zby,zbz,zc0,zc3,zc4,zc5,zc6,zc8,zca,zcc,zcd,zce,zcf,zcg,zci,zcj,zcn,zco,zcr,zcs,zct,zcu,zcv,zcy,zcz,zd6,zd7,zdj,zdk,zdl,zdo,zds,zdt,zdu,zdv,ze2,ze3,zfm,zfo,zfp,zfq,zfs,zft,zfv,zfw,zfx,zfz,zg0,zg1, itH.eq_1]; all_goals tactic => exact rfl))
      · intro i hi
        have h3 := h1 i hi
        unfold stepH at h3
        cases hx : look es (itH es i x) with
        | none => rw [hx] at h3; simp at h3
        | some y =>
          rw [hx] at h3
          simp only [Option.getD_some] at h3
          have h4 := eq_false h3
          have h5 : itH es (i + 1) x = y := by simp [itH, stepH, hx]
          simp only [h5]
          (sym => (simp [z00,z01,z05,z07,z0b,z0c,z0h,z0j,z0l,z0n,z0q,z0v,z0z,z1d,z1e,z22,z23,z26,z2i,z2t,z47,z48,z4a,z4c,z4d,z4l,z4u,z66,z6f,z6p,z7r,z80,z9d,z9e,z9g,z9n,z9p,z9r,z9w,z9y,za1,za3,za5,za6,za7,za8,zae,zaf,zak,zal,zba,zbt,zbu,zbw,zbx,zby,zbz,zc0,zc3,zc4,zc5,zc6,zc8,zca,zcc,zcd,zce,zcf,zcg,zci,zcj,zcn,zco,zcr,zcs,zct,zcu,zcv,zcy,zcz,zd6,zd7,zdj,zdk,zdl,zdo,zds,zdt,zdu,zdv,ze2,ze3,zfm,zfo,zfp,zfq,zfs,zft,zfv,zfw,zfx,zfz,zg0,zg1, findA_enc, hx, h4]; all_goals tactic => exact rfl))
      · rcases hl with hl | hl <;> (sym => (simp [z00,z01,z05,z07,z0b,z0c,z0h,z0j,z0l,z0n,z0q,z0v,z0z,z1d,z1e,z22,z23,z26,z2i,z2t,z47,z48,z4a,z4c,z4d,z4l,z4u,z66,z6f,z6p,z7r,z80,z9d,z9e,z9g,z9n,z9p,z9r,z9w,z9y,za1,za3,za5,za6,za7,za8,zae,zaf,zak,zal,zba,zbt,zbu,zbw,zbx,zby,zbz,zc0,zc3,zc4,zc5,zc6,zc8,zca,zcc,zcd,zce,zcf,zcg,zci,zcj,zcn,zco,zcr,zcs,zct,zcu,zcv,zcy,zcz,zd6,zd7,zdj,zdk,zdl,zdo,zds,zdt,zdu,zdv,ze2,ze3,zfm,zfo,zfp,zfq,zfs,zft,zfv,zfw,zfx,zfz,zg0,zg1, findA_enc, hl, zch, zci]; all_goals tactic => exact rfl))

def hd (es : List (Int × Int)) (n : Nat) (x r : Int) : Prop := (∀ i, i < n → stepH es (itH es i x) ≠ itH es i x) ∧ stepH es (itH es n x) = itH es n x ∧ itH es n x = r
theorem w57' {es : List (Int × Int)} {x r : Int} {n : Nat} (h : hd es n x r) : runW progX 57 [.mp 0, I x] [mapB es] = some (I r, [mapB es]) := by
  rw [w57 es x n h.1 h.2.1, h.2.2]

def put (es : List (Int × Int)) (k v : Int) : List (Int × Int) := match es with
  | [] => [(k, v)]
  | p :: r => if k = p.1 then (p.1, v) :: r else p :: put r k v
theorem putA_enc (es : List (Int × Int)) (k v : Int) : putA false (I k) (I v) (encM es) = some (encM (put es k v)) := by
  induction es with
  | nil => rfl
  | cons p r ih =>
    simp only [encM, List.map_cons, putA, keyEqA, if_true, put] at ih ⊢
    by_cases h : k = p.1
    · simp [h]
    · simp only [show (k == p.1) = false by simpa using h, if_neg h, ih, Option.map_some, List.map_cons]

theorem w58 {es : List (Int × Int)} {x y a b : Int} {n m : Nat} (h1 : hd es n x a) (h2 : hd es m y b) : runW progX 58 [.mp 0, I x, I y] [mapB es] = some (.tup [], [mapB (put es (if b > a then b else a) (if b < a then b else a))]) := by
  rw [r58 (by simp)]; unfold x58; dsimp only
  have e1 := w57' h1
  have e2 := w57' h2
  (sym => (simp [z00,z01,z02,z05,z06,z07,z09,z0b,z0c,z0n,z1g,z1n,z1r,z1t,z1u,z20,z21,z42,z43,z4l,z4p,z4u,z54,z66,z6a,z6f,z6p,z6t,z6y,z7r,z7v,z80,z9d,z9i,z9l,z9m,z9n,z9r,z9t,z9v,z9y,za0,za1,za2,za3,za5,za6,za7,za8,zaa,zab,zac,zae,zaf,zak,zal,zaq,zas,zat,zau,zba,zbc,zbd,zbe,zbs,zbu,zbw,zbx,zby,zbz,zc1,zc3,zc8,zcj,zcn,zco,zcq,zcr,zcs,zct,zcu,zcv,zcy,zd3,zdj,zdo,zds,zdt,zdu,zdv,zdy,ze2,ze3,zfe,zff,zfo,zft,zg0,zg1, e1, e2, putA_enc]; all_goals tactic => exact rfl))
end Go.Proofs.Ytdbikamciedfdaa
namespace Go.Proofs.Ytdbikamciedfdaa
open Go Go.DL
set_option maxRecDepth 100000
set_option maxHeartbeats 1000000

theorem w75 (lo n hi : Int) : runW progX 75 [I n, .pt 0 0, .pt 1 0] [some (.blk true (.cells true [I lo])), some (.blk true (.cells true [I hi]))] = some (.bool !(btw lo n hi), [some (.blk true (.cells true [I lo])), some (.blk true (.cells true [I hi]))]) := by
  rw [r75 (by simp)]; unfold x75; dsimp only
  (sym => (simp [z00,z01,z05,z06,z07,z09,z0b,z0c,z0n,z0z,z1j,z1r,z1u,z20,z21,z26,z4l,z4m,z66,z67,z6p,z6q,z7r,z7s,z7z,z9d,z9e,z9g,z9m,z9n,z9p,z9y,za2,za3,za5,za6,za7,za8,zaa,zab,zae,zaf,zak,zal,zaq,zas,zat,zba,zbc,zbd,zbe,zbf,zbg,zbk,zbt,zbu,zbw,zbx,zby,zbz,zc0,zc3,zc4,zc5,zc6,zc8,zcj,zcn,zco,zcq,zcr,zcs,zct,zcu,zcv,zdo,zds,zdt,zdu,zdv,ze2,ze3,zf6,zf7,zfb,zfo,zfp,zft,zg0,zg1, w42]; all_goals tactic => exact rfl))
def Ms.within (m : Ms) (lo hi : Int) : Bool := btw lo m.a hi && (btw lo m.b hi && (btw lo m.c hi && btw lo m.d hi))
theorem w80 (a b c d lo hi : Int) : runW progX 80 [.fs [[I a], [I b], [I c], [I d]], .fn (.func 75) [] [.pt 0 0, .pt 1 0]] [some (.blk true (.cells true [I lo])), some (.blk true (.cells true [I hi]))] = some (I (if btw lo a hi then if btw lo b hi then if btw lo c hi then if btw lo d hi then -1 else 3 else 2 else 1 else 0), [some (.blk true (.cells true [I lo])), some (.blk true (.cells true [I hi]))]) := by
  rw [r80 (by simp)]; unfold x80; dsimp only
  unfold x80l0
  cases h1 : btw lo a hi
  · (sym => (simp [z00,z01,z05,z07,z0b,z0c,z0n,z0v,z15,z1f,z1j,z1r,z1u,z20,z21,z2b,z2g,z2h,z2j,z2v,z36,z37,z38,z39,z3g,z3i,z3k,z3m,z3p,z4l,z4q,z4t,z4y,z66,z67,z6b,z6e,z6j,z6p,z7r,z7w,z84,z9d,z9i,z9l,z9m,z9n,z9p,z9r,z9s,z9t,z9v,z9w,z9y,za0,za1,za2,za3,za5,za6,za7,za8,zaa,zab,zac,zae,zaf,zak,zal,zaq,zas,zat,zau,zba,zbt,zbu,zbw,zbx,zby,zbz,zc0,zc3,zc4,zc5,zc6,zc8,zca,zcb,zcc,zcd,zce,zcf,zcg,zcj,zcn,zco,zcp,zcq,zcr,zcs,zct,zcu,zcv,zcy,zd6,zd7,zdd,zdj,zdk,zdl,zdo,zds,zdt,zdu,zdv,ze2,ze3,zf8,zf9,zfb,zfm,zfo,zfp,zfq,zfr,zfs,zft,zfu,zfv,zfw,zfx,zfy,zg0,zg1, execW_loop, w75, h1]; all_goals tactic => exact rfl))
  cases h2 : btw lo b hi
  · (sym => (simp [z00,z01,z05,z07,z0b,z0c,z0n,z0v,z15,z1f,z1j,z1r,z1u,z20,z21,z2b,z2g,z2h,z2j,z2v,z36,z37,z38,z39,z3g,z3i,z3k,z3m,z3p,z4l,z4q,z4t,z4y,z66,z67,z6b,z6e,z6j,z6p,z7r,z7w,z84,z9d,z9i,z9l,z9m,z9n,z9p,z9r,z9s,z9t,z9v,z9w,z9y,za0,za1,za2,za3,za5,za6,za7,za8,zaa,zab,zac,zae,zaf,zak,zal,zaq,zas,zat,zau,zba,zbt,zbu,zbw,zbx,zby,zbz,zc0,zc3,zc4,zc5,zc6,zc8,zca,zcb,zcc,zcd,zce,zcf,zcg,zcj,zcn,zco,zcp,zcq,zcr,zcs,zct,zcu,zcv,zcy,zd6,zd7,zdd,zdj,zdk,zdl,zdo,zds,zdt,zdu,zdv,ze2,ze3,zf8,zf9,zfb,zfm,zfo,zfp,zfq,zfr,zfs,zft,zfu,zfv,zfw,zfx,zfy,zg0,zg1, execW_loop, w75, h1, h2]; all_goals tactic => exact rfl))
  cases h3 : btw lo c hi
  · (sym => (simp [z00,z01,z05,z07,z0b,z0c,z0n,z0v,z15,z1f,z1j,z1r,z1u,z20,z21,z2b,z2g,z2h,z2j,z2v,z36,z37,z38,z39,z3g,z3i,z3k,z3m,z3p,z4l,z4q,z4t,z4y,z66,z67,z6b,z6e,z6j,z6p,z7r,z7w,z84,z9d,z9i,z9l,z9m,z9n,z9p,z9r,z9s,z9t,z9v,z9w,z9y,za0,za1,za2,za3,za5,za6,za7,za8,zaa,zab,zac,zae,zaf,zak,zal,zaq,zas,zat,zau,zba,zbt,zbu,zbw,zbx,zby,zbz,zc0,zc3,zc4,zc5,zc6,zc8,zca,zcb,zcc,zcd,zce,zcf,zcg,zcj,zcn,zco,zcp,zcq,zcr,zcs,zct,zcu,zcv,zcy,zd6,zd7,zdd,zdj,zdk,zdl,zdo,zds,zdt,zdu,zdv,ze2,ze3,zf8,zf9,zfb,zfm,zfo,zfp,zfq,zfr,zfs,zft,zfu,zfv,zfw,zfx,zfy,zg0,zg1, execW_loop, w75, h1, h2, h3]; all_goals tactic => exact rfl))
  cases h4 : btw lo d hi <;> (sym => (simp [z00,z01,z05,z07,z0b,z0c,z0n,z0v,z15,z1f,z1j,z1r,z1u,z20,z21,z2b,z2g,z2h,z2j,z2v,z36,z37,z38,z39,z3g,z3i,z3k,z3m,z3p,z4l,z4q,z4t,z4y,z66,z67,z6b,z6e,z6j,z6p,z7r,z7w,z84,z9d,z9i,z9l,z9m,z9n,z9p,z9r,z9s,z9t,z9v,z9w,z9y,za0,za1,za2,za3,za5,za6,za7,za8,zaa,zab,zac,zae,zaf,zak,zal,zaq,zas,zat,zau,zba,zbt,zbu,zbw,zbx,zby,zbz,zc0,zc3,zc4,zc5,zc6,zc8,zca,zcb,zcc,zcd,zce,zcf,zcg,zcj,zcn,zco,zcp,zcq,zcr,zcs,zct,zcu,zcv,zcy,zd6,zd7,zdd,zdj,zdk,zdl,zdo,zds,zdt,zdu,zdv,ze2,ze3,zf8,zf9,zfb,zfm,zfo,zfp,zfq,zfr,zfs,zft,zfu,zfv,zfw,zfx,zfy,zg0,zg1, execW_loop, w75, h1, h2, h3, h4]; all_goals tactic => exact rfl))
end Go.Proofs.Ytdbikamciedfdaa
namespace Go.Proofs.Ytdbikamciedfdaa
open Go Go.DL
set_option maxRecDepth 100000
set_option maxHeartbeats 1000000

theorem w74 (a b c d lo hi : Int) : runW progX 74 [.sl 0 0 1 4, .fn (.func 75) [] [.pt 1 0, .pt 2 0]] [some (.blk true (.cells true [I a, I b, I c, I d])), some (.blk true (.cells true [I lo])), some (.blk true (.cells true [I hi]))] = some (.bool !(Ms.within ⟨a, b, c, d⟩ lo hi), [none, some (.blk true (.cells true [I lo])), some (.blk true (.cells true [I hi]))]) := by
  rw [r74 (by simp)]; unfold x74; dsimp only
  unfold Ms.within
  cases h1 : btw lo a hi
  · (sym => (simp [z00,z01,z05,z06,z07,z09,z0b,z0c,z0n,z0v,z1r,z1u,z20,z21,z2y,z4m,z4q,z4t,z4y,z66,z67,z6b,z6e,z6j,z6q,z6w,z72,z7f,z7g,z7l,z7s,z7y,z84,z9d,z9i,z9j,z9k,z9l,z9m,z9n,z9r,z9s,z9t,z9v,z9y,za0,za1,za2,za3,za5,za6,za7,za8,zaa,zab,zac,zad,zae,zaf,zaj,zak,zal,zaq,zas,zat,zau,zb4,zb5,zb9,zba,zbb,zbc,zbd,zbe,zbm,zbp,zbt,zbu,zbw,zbx,zby,zbz,zc0,zc3,zc4,zc5,zc6,zc8,zcj,zcn,zco,zcp,zcq,zcr,zcs,zct,zcu,zcv,zcy,zd3,zd4,zd5,zd6,zd7,zdd,zdj,zdk,zdl,zdo,zds,zdt,zdu,zdv,ze0,ze1,ze2,ze3,zfm,zfo,zfp,zft,zg0,zg1,zhy,zhz,zi0,zi1,zi2, w80, h1]; all_goals tactic => exact rfl))
  cases h2 : btw lo b hi
  · (sym => (simp [z00,z01,z05,z06,z07,z09,z0b,z0c,z0n,z0v,z1r,z1u,z20,z21,z2y,z4m,z4q,z4t,z4y,z66,z67,z6b,z6e,z6j,z6q,z6w,z72,z7f,z7g,z7l,z7s,z7y,z84,z9d,z9i,z9j,z9k,z9l,z9m,z9n,z9r,z9s,z9t,z9v,z9y,za0,za1,za2,za3,za5,za6,za7,za8,zaa,zab,zac,zad,zae,zaf,zaj,zak,zal,zaq,zas,zat,zau,zb4,zb5,zb9,zba,zbb,zbc,zbd,zbe,zbm,zbp,zbt,zbu,zbw,zbx,zby,zbz,zc0,zc3,zc4,zc5,zc6,zc8,zcj,zcn,zco,zcp,zcq,zcr,zcs,zct,zcu,zcv,zcy,zd3,zd4,zd5,zd6,zd7,zdd,zdj,zdk,zdl,zdo,zds,zdt,zdu,zdv,ze0,ze1,ze2,ze3,zfm,zfo,zfp,zft,zg0,zg1,zhy,zhz,zi0,zi1,zi2, w80, h1, h2]; all_goals tactic => exact rfl))
  cases h3 : btw lo c hi
  · (sym => (simp [z00,z01,z05,z06,z07,z09,z0b,z0c,z0n,z0v,z1r,z1u,z20,z21,z2y,z4m,z4q,z4t,z4y,z66,z67,z6b,z6e,z6j,z6q,z6w,z72,z7f,z7g,z7l,z7s,z7y,z84,z9d,z9i,z9j,z9k,z9l,z9m,z9n,z9r,z9s,z9t,z9v,z9y,za0,za1,za2,za3,za5,za6,za7,za8,zaa,zab,zac,zad,zae,zaf,zaj,zak,zal,zaq,zas,zat,zau,zb4,zb5,zb9,zba,zbb,zbc,zbd,zbe,zbm,zbp,zbt,zbu,zbw,zbx,zby,zbz,zc0,zc3,zc4,zc5,zc6,zc8,zcj,zcn,zco,zcp,zcq,zcr,zcs,zct,zcu,zcv,zcy,zd3,zd4,zd5,zd6,zd7,zdd,zdj,zdk,zdl,zdo,zds,zdt,zdu,zdv,ze0,ze1,ze2,ze3,zfm,zfo,zfp,zft,zg0,zg1,zhy,zhz,zi0,zi1,zi2, w80, h1, h2, h3]; all_goals tactic => exact rfl))
  cases h4 : btw lo d hi <;> (sym => (simp [z00,z01,z05,z06,z07,z09,z0b,z0c,z0n,z0v,z1r,z1u,z20,z21,z2y,z4m,z4q,z4t,z4y,z66,z67,z6b,z6e,z6j,z6q,z6w,z72,z7f,z7g,z7l,z7s,z7y,z84,z9d,z9i,z9j,z9k,z9l,z9m,z9n,z9r,z9s,z9t,z9v,z9y,za0,za1,za2,za3,za5,za6,za7,za8,zaa,zab,zac,zad,zae,zaf,zaj,zak,zal,zaq,zas,zat,zau,zb4,zb5,zb9,zba,zbb,zbc,zbd,zbe,zbm,zbp,zbt,zbu,zbw,zbx,zby,zbz,zc0,zc3,zc4,zc5,zc6,zc8,zcj,zcn,zco,zcp,zcq,zcr,zcs,zct,zcu,zcv,zcy,zd3,zd4,zd5,zd6,zd7,zdd,zdj,zdk,zdl,zdo,zds,zdt,zdu,zdv,ze0,ze1,ze2,ze3,zfm,zfo,zfp,zft,zg0,zg1,zhy,zhz,zi0,zi1,zi2, w80, h1, h2, h3, h4]; all_goals tactic => exact rfl))
theorem f_nnb {b : Bool} : (!(!b)) = b := by cases b <;> rfl
theorem w55 (a b c d lo hi : Int) : runW progX 55 [.agg [I a, I b, I c, I d], I lo, I hi] [] = some (.bool (Ms.within ⟨a, b, c, d⟩ lo hi), []) := by
  rw [r55 (by simp)]; unfold x55; dsimp only
  (sym => (simp [z00,z01,z05,z07,z0b,z0c,z0e,z0f,z0n,z0p,z0r,z0z,z19,z1r,z1u,z20,z21,z26,z4m,z4s,z4t,z4y,z54,z57,z67,z6d,z6e,z6j,z6q,z7r,z7s,z7u,z8a,z8d,z9d,z9e,z9g,z9i,z9l,z9m,z9n,z9r,z9s,z9t,z9v,z9y,za0,za1,za2,za3,za5,za6,za7,za8,zaa,zab,zac,zad,zae,zaf,zal,zaq,zas,zat,zau,zba,zbt,zbu,zbw,zbx,zby,zbz,zc0,zc3,zc4,zc5,zc6,zc8,zcj,zcn,zco,zcp,zcq,zcr,zct,zcu,zcv,zcy,zd3,zdd,zdj,zdo,zds,zdt,zdu,zdv,zdw,zdx,ze2,ze3,zej,zeo,zep,zfg,zfo,zfp,zft,zg0,zg1,zgj,zgk,zgl,zgm, w74, f_nnb]; all_goals tactic => exact rfl))
/-- A flow. -/
structure Fl where
  fr : Int
  to : Int
  me : Bool
  m : Ms
deriving DecidableEq
abbrev Fl.row (x : Fl) : List AV := [I x.fr, I x.to, .bool x.me, I x.m.a, I x.m.b, I x.m.c, I x.m.d]
theorem etaM (m : Ms) : (⟨m.a, m.b, m.c, m.d⟩ : Ms) = m := rfl
theorem etaF (x : Fl) : (⟨x.fr, x.to, x.me, x.m⟩ : Fl) = x := rfl
abbrev plA (u : Int) (l : List Fl) : AV := .agg [I u, .fs (l.map Fl.row)]
def Ms.zero : Ms := ⟨0, 0, 0, 0⟩

def exStep (f : Int → Bool) (wo : Int) (i : Nat) (x : Fl) (s : Ms) : Ms :=
  if !x.me || (decide ((i : Int) = wo) || f x.to == f x.fr) then s else if f x.to then s.plus 1 x.m else s.plus (-1) x.m
def exI (f : Int → Bool) (wo : Int) (l : List Fl) : Nat → Ms
  | 0 => Ms.zero
  | i + 1 => match l[i]? with
    | some x => exStep f wo i x (exI f wo l i)
    | none => exI f wo l i

end Go.Proofs.Ytdbikamciedfdaa
namespace Go.Proofs.Ytdbikamciedfdaa
open Go Go.DL
set_option maxRecDepth 100000
set_option maxHeartbeats 1000000

/-- The error of a flow. -/
def chkF (u : Int) (x : Fl) : Int := if btw (-1) x.fr (wr (u - 1)) && btw (-1) x.to (wr (u - 1)) then if x.fr = x.to then 22 else if x.me && !(x.m.within 0 1000000000) then 2 else 0 else 17
theorem w44 (u fr to a b c d : Int) (me : Bool) (l : List Fl) : runW progX 44 [plA u l, .agg [I fr, I to, .bool me, I a, I b, I c, I d]] [] = some (I (chkF u ⟨fr, to, me, ⟨a, b, c, d⟩⟩), []) := by
  rw [r44 (by simp)]; unfold x44; dsimp only
  unfold chkF
  dsimp only
  cases h1 : btw (-1) fr (wr (u - 1))
  · (sym => (simp [etaM, etaF, z00,z01,z05,z06,z07,z09,z0b,z0c,z0f,z0h,z0i,z0j,z0k,z0l,z0n,z0q,z0r,z0v,z0z,z12,z1j,z1r,z1u,z20,z21,z22,z23,z26,z29,z2k,z2t,z4l,z4o,z54,z55,z57,z59,z66,z67,z69,z6p,z7r,z7s,z7u,z7w,z8d,z9d,z9e,z9g,z9j,z9k,z9l,z9m,z9n,z9p,z9y,za2,za3,za5,za6,za7,za8,zaa,zab,zaq,zas,zat,zba,zbc,zbd,zbf,zbg,zbk,zbt,zbu,zbw,zbx,zby,zbz,zc0,zc3,zc4,zc5,zc6,zc8,zce,zcf,zcg,zcj,zcn,zco,zcp,zcq,zcr,zct,zcu,zcv,zd3,zd4,zd5,zd6,zd7,zdk,zdl,zdo,zds,zdt,zdu,zdv,zdw,zdx,ze2,ze3,zeo,zep,zf6,zf7,zfa,zfb,zfg,zfm,zfo,zfp,zfq,zfs,zft,zfv,zfw,zfx,zg0,zg1, w42, h1]; all_goals tactic => exact rfl))
  cases h2 : btw (-1) to (wr (u - 1))
  · (sym => (simp [etaM, etaF, z00,z01,z05,z06,z07,z09,z0b,z0c,z0f,z0h,z0i,z0j,z0k,z0l,z0n,z0q,z0r,z0v,z0z,z12,z1j,z1r,z1u,z20,z21,z22,z23,z26,z29,z2k,z2t,z4l,z4o,z54,z55,z57,z59,z66,z67,z69,z6p,z7r,z7s,z7u,z7w,z8d,z9d,z9e,z9g,z9j,z9k,z9l,z9m,z9n,z9p,z9y,za2,za3,za5,za6,za7,za8,zaa,zab,zaq,zas,zat,zba,zbc,zbd,zbf,zbg,zbk,zbt,zbu,zbw,zbx,zby,zbz,zc0,zc3,zc4,zc5,zc6,zc8,zce,zcf,zcg,zcj,zcn,zco,zcp,zcq,zcr,zct,zcu,zcv,zd3,zd4,zd5,zd6,zd7,zdk,zdl,zdo,zds,zdt,zdu,zdv,zdw,zdx,ze2,ze3,zeo,zep,zf6,zf7,zfa,zfb,zfg,zfm,zfo,zfp,zfq,zfs,zft,zfv,zfw,zfx,zg0,zg1, w42, h1, h2]; all_goals tactic => exact rfl))
  by_cases h3 : fr = to
  · have h4 := eq_true h3
    (sym => (simp [etaM, etaF, z00,z01,z05,z06,z07,z09,z0b,z0c,z0f,z0h,z0i,z0j,z0k,z0l,z0n,z0q,z0r,z0v,z0z,z12,z1j,z1r,z1u,z20,z21,z22,z23,z26,z29,z2k,z2t,z4l,z4o,z54,z55,z57,z59,z66,z67,z69,z6p,z7r,z7s,z7u,z7w,z8d,z9d,z9e,z9g,z9j,z9k,z9l,z9m,z9n,z9p,z9y,za2,za3,za5,za6,za7,za8,zaa,zab,zaq,zas,zat,zba,zbc,zbd,zbf,zbg,zbk,zbt,zbu,zbw,zbx,zby,zbz,zc0,zc3,zc4,zc5,zc6,zc8,zce,zcf,zcg,zcj,zcn,zco,zcp,zcq,zcr,zct,zcu,zcv,zd3,zd4,zd5,zd6,zd7,zdk,zdl,zdo,zds,zdt,zdu,zdv,zdw,zdx,ze2,ze3,zeo,zep,zf6,zf7,zfa,zfb,zfg,zfm,zfo,zfp,zfq,zfs,zft,zfv,zfw,zfx,zg0,zg1, w42, h1, h2, h4]; all_goals tactic => exact rfl))
  have h4 := eq_false h3
  cases me
  · (sym => (simp [etaM, etaF, z00,z01,z05,z06,z07,z09,z0b,z0c,z0f,z0h,z0i,z0j,z0k,z0l,z0n,z0q,z0r,z0v,z0z,z12,z1j,z1r,z1u,z20,z21,z22,z23,z26,z29,z2k,z2t,z4l,z4o,z54,z55,z57,z59,z66,z67,z69,z6p,z7r,z7s,z7u,z7w,z8d,z9d,z9e,z9g,z9j,z9k,z9l,z9m,z9n,z9p,z9y,za2,za3,za5,za6,za7,za8,zaa,zab,zaq,zas,zat,zba,zbc,zbd,zbf,zbg,zbk,zbt,zbu,zbw,zbx,zby,zbz,zc0,zc3,zc4,zc5,zc6,zc8,zce,zcf,zcg,zcj,zcn,zco,zcp,zcq,zcr,zct,zcu,zcv,zd3,zd4,zd5,zd6,zd7,zdk,zdl,zdo,zds,zdt,zdu,zdv,zdw,zdx,ze2,ze3,zeo,zep,zf6,zf7,zfa,zfb,zfg,zfm,zfo,zfp,zfq,zfs,zft,zfv,zfw,zfx,zg0,zg1, w42, h1, h2, h4]; all_goals tactic => exact rfl))
  cases h5 : Ms.within ⟨a, b, c, d⟩ 0 1000000000 <;> (sym => (simp [etaM, etaF, z00,z01,z05,z06,z07,z09,z0b,z0c,z0f,z0h,z0i,z0j,z0k,z0l,z0n,z0q,z0r,z0v,z0z,z12,z1j,z1r,z1u,z20,z21,z22,z23,z26,z29,z2k,z2t,z4l,z4o,z54,z55,z57,z59,z66,z67,z69,z6p,z7r,z7s,z7u,z7w,z8d,z9d,z9e,z9g,z9j,z9k,z9l,z9m,z9n,z9p,z9y,za2,za3,za5,za6,za7,za8,zaa,zab,zaq,zas,zat,zba,zbc,zbd,zbf,zbg,zbk,zbt,zbu,zbw,zbx,zby,zbz,zc0,zc3,zc4,zc5,zc6,zc8,zce,zcf,zcg,zcj,zcn,zco,zcp,zcq,zcr,zct,zcu,zcv,zd3,zd4,zd5,zd6,zd7,zdk,zdl,zdo,zds,zdt,zdu,zdv,zdw,zdx,ze2,ze3,zeo,zep,zf6,zf7,zfa,zfb,zfg,zfm,zfo,zfp,zfq,zfs,zft,zfv,zfw,zfx,zg0,zg1, w42, w55, h1, h2, h4, h5]; all_goals tactic => exact rfl))

def firstE (u : Int) : List Fl → Int
  | [] => 0
  | x :: r => if chkF u x = 0 then firstE u r else chkF u x
theorem firstE_0 {u : Int} : ∀ {l : List Fl}, (∀ i, i < l.length → ∃ x, l[i]? = some x ∧ decide (chkF u x ≠ 0) = false) → firstE u l = 0
  | [], _ => rfl
  | x :: r, h => by
    obtain ⟨y, h1, h2⟩ := h 0 (by simp)
    simp only [List.getElem?_cons_zero, Option.some.injEq] at h1
    subst h1
    simp only [decide_eq_false_iff_not, ne_eq, Decidable.not_not] at h2
    rw [firstE, if_pos h2]
    exact firstE_0 fun i hi => by simpa using h (i + 1) (by simpa using hi)
theorem firstE_1 {u : Int} : ∀ {l : List Fl} {n : Nat} {x : Fl}, (∀ i, i < n → ∃ x, l[i]? = some x ∧ decide (chkF u x ≠ 0) = false) → l[n]? = some x → chkF u x ≠ 0 → firstE u l = chkF u x
  | [], n, x, _, h, _ => by simp at h
  | y :: r, 0, x, _, h, h3 => by
    simp only [List.getElem?_cons_zero, Option.some.injEq] at h
    subst h
    rw [firstE, if_neg h3]
  | y :: r, n + 1, x, h1, h, h3 => by
    obtain ⟨z, h4, h5⟩ := h1 0 (by omega)
    simp only [List.getElem?_cons_zero, Option.some.injEq] at h4
    subst h4
    simp only [decide_eq_false_iff_not, ne_eq, Decidable.not_not] at h5
    rw [firstE, if_pos h5]
    exact firstE_1 (n := n) (fun i hi => by simpa using h1 (i + 1) (by omega)) (by simpa using h) h3

theorem w43 (u : Int) (l l' : List Fl) (hn : l.length < 1000000) : runW progX 43 [.fs (l.map Fl.row), .fn (.func 44) [plA u l'] []] [] = some (I (firstE u l), []) := by
  rw [r43 (by simp)]; unfold x43; dsimp only
  obtain ⟨n, h1, h2, h3⟩ := first_ix (fun x => decide (chkF u x ≠ 0)) l
  sym =>
    simp [etaM, etaF, z00,z01,z02,z05,z06,z07,z09,z0b,z0c,z0n,z0o,z0v,z15,z1f,z1j,z1n,z1o,z1r,z1u,z20,z21,z2b,z2g,z2h,z2j,z2u,z2v,z33,z34,z3h,z4l,z4m,z4o,z4q,z4y,z54,z55,z66,z67,z69,z6b,z6j,z6p,z7r,z7w,z84,z8d,z9d,z9e,z9g,z9i,z9j,z9k,z9l,z9m,z9n,z9y,za2,za3,za5,za6,za7,za8,zaa,zab,zaq,zas,zat,zba,zbc,zbd,zbf,zbg,zbk,zbt,zbu,zbw,zbx,zby,zbz,zc0,zc3,zc4,zc5,zc6,zc8,zca,zcc,zcd,zce,zcf,zcg,zch,zci,zcj,zcn,zco,zcp,zcq,zcr,zct,zcu,zcv,zcw,zcx,zcy,zd3,zd6,zd7,zdd,zdk,zdl,zdo,zds,zdt,zdu,zdv,zdw,zdx,ze2,ze3,ze9,zf5,zf6,zf7,zf8,zf9,zfa,zfc,zfd,zfm,zfo,zfp,zfq,zfr,zfs,zft,zfu,zfv,zfw,zfx,zfy,zfz,zg0,zg1]
    tactic =>
      unfold x43l0
      rw [loop_rule n (fun i => [.fn (.func 44) [plA u l'] [], .fs (l.map Fl.row), I l.length, I (i : Nat)]) (fun i => [])]
      · rcases h3 with h3 | ⟨x, h3, h4, h5⟩
        · subst h3
          rw [firstE_0 h2]
          (sym => (simp [etaM, etaF, z00,z01,z02,z05,z06,z07,z09,z0b,z0c,z0n,z0o,z0v,z15,z1f,z1j,z1n,z1o,z1r,z1u,z20,z21,z2b,z2g,z2h,z2j,z2u,z2v,z33,z34,z3h,z4l,z4m,z4o,z4q,z4y,z54,z55,z66,z67,z69,z6b,z6j,z6p,z7r,z7w,z84,z8d,z9d,z9e,z9g,z9i,z9j,z9k,z9l,z9m,z9n,z9y,za2,za3,za5,za6,za7,za8,zaa,zab,zaq,zas,zat,zba,zbc,zbd,zbf,zbg,zbk,zbt,zbu,zbw,zbx,zby,zbz,zc0,zc3,zc4,zc5,zc6,zc8,zca,zcc,zcd,zce,zcf,zcg,zch,zci,zcj,zcn,zco,zcp,zcq,zcr,zct,zcu,zcv,zcw,zcx,zcy,zd3,zd6,zd7,zdd,zdk,zdl,zdo,zds,zdt,zdu,zdv,zdw,zdx,ze2,ze3,ze9,zf5,zf6,zf7,zf8,zf9,zfa,zfc,zfd,zfm,zfo,zfp,zfq,zfr,zfs,zft,zfu,zfv,zfw,zfx,zfy,zfz,zg0,zg1, w44]; all_goals tactic => exact rfl))
        · have e2 := lt_ix h3
          have e3 := eq_false (of_decide_eq_true h5)
          rw [firstE_1 h2 h4 (of_decide_eq_true h5)]
          (sym => (simp [etaM, etaF, z00,z01,z02,z05,z06,z07,z09,z0b,z0c,z0n,z0o,z0v,z15,z1f,z1j,z1n,z1o,z1r,z1u,z20,z21,z2b,z2g,z2h,z2j,z2u,z2v,z33,z34,z3h,z4l,z4m,z4o,z4q,z4y,z54,z55,z66,z67,z69,z6b,z6j,z6p,z7r,z7w,z84,z8d,z9d,z9e,z9g,z9i,z9j,z9k,z9l,z9m,z9n,z9y,za2,za3,za5,za6,za7,za8,zaa,zab,zaq,zas,zat,zba,zbc,zbd,zbf,zbg,zbk,zbt,zbu,zbw,zbx,zby,zbz,zc0,zc3,zc4,zc5,zc6,zc8,zca,zcc,zcd,zce,zcf,zcg,zch,zci,zcj,zcn,zco,zcp,zcq,zcr,zct,zcu,zcv,zcw,zcx,zcy,zd3,zd6,zd7,zdd,zdk,zdl,zdo,zds,zdt,zdu,zdv,zdw,zdx,ze2,ze3,ze9,zf5,zf6,zf7,zf8,zf9,zfa,zfc,zfd,zfm,zfo,zfp,zfq,zfr,zfs,zft,zfu,zfv,zfw,zfx,zfy,zfz,zg0,zg1, w44, e2, h4, e3]; all_goals tactic => exact rfl))
      · (sym => (simp [etaM, etaF, z00,z01,z02,z05,z06,z07,z09,z0b,z0c,z0n,z0o,z0v,z15,z1f,z1j,z1n,z1o,z1r,z1u,z20,z21,z2b,z2g,z2h,z2j,z2u,z2v,z33,z34,z3h,z4l,z4m,z4o,z4q,z4y,z54,z55,z66,z67,z69,z6b,z6j,z6p,z7r,z7w,z84,z8d,z9d,z9e,z9g,z9i,z9j,z9k,z9l,z9m,z9n,z9y,za2,za3,za5,za6,za7,za8,zaa,zab,zaq,zas,zat,zba,zbc,zbd,zbf,zbg,zbk,zbt,zbu,zbw,zbx,zby,zbz,zc0,zc3,zc4,zc5,zc6,zc8,zca,zcc,zcd,zce,zcf,zcg,zch,zci,zcj,zcn,zco,zcp,zcq,zcr,zct,zcu,zcv,zcw,zcx,zcy,zd3,zd6,zd7,zdd,zdk,zdl,zdo,zds,zdt,zdu,zdv,zdw,zdx,ze2,ze3,ze9,zf5,zf6,zf7,zf8,zf9,zfa,zfc,zfd,zfm,zfo,zfp,zfq,zfr,zfs,zft,zfu,zfv,zfw,zfx,zfy,zfz,zg0,zg1, w44]; all_goals tactic => exact rfl))
      · intro i hi
        obtain ⟨x, hx, h4⟩ := h2 i hi
        have e1 := up_ix hi (by omega)
        have e2 := lt_ix (l := l) (i := i) (by omega)
        have e3 : (chkF u x = 0) = True := by simpa using h4
        (sym => (simp [etaM, etaF, z00,z01,z02,z05,z06,z07,z09,z0b,z0c,z0n,z0o,z0v,z15,z1f,z1j,z1n,z1o,z1r,z1u,z20,z21,z2b,z2g,z2h,z2j,z2u,z2v,z33,z34,z3h,z4l,z4m,z4o,z4q,z4y,z54,z55,z66,z67,z69,z6b,z6j,z6p,z7r,z7w,z84,z8d,z9d,z9e,z9g,z9i,z9j,z9k,z9l,z9m,z9n,z9y,za2,za3,za5,za6,za7,za8,zaa,zab,zaq,zas,zat,zba,zbc,zbd,zbf,zbg,zbk,zbt,zbu,zbw,zbx,zby,zbz,zc0,zc3,zc4,zc5,zc6,zc8,zca,zcc,zcd,zce,zcf,zcg,zch,zci,zcj,zcn,zco,zcp,zcq,zcr,zct,zcu,zcv,zcw,zcx,zcy,zd3,zd6,zd7,zdd,zdk,zdl,zdo,zds,zdt,zdu,zdv,zdw,zdx,ze2,ze3,ze9,zf5,zf6,zf7,zf8,zf9,zfa,zfc,zfd,zfm,zfo,zfp,zfq,zfr,zfs,zft,zfu,zfv,zfw,zfx,zfy,zfz,zg0,zg1, w44, e1, e2, hx, e3]; all_goals tactic => exact rfl))
      · rcases h3 with h3 | ⟨x, h3, h4, h5⟩
        · subst h3
          (sym => (simp [etaM, etaF, z00,z01,z02,z05,z06,z07,z09,z0b,z0c,z0n,z0o,z0v,z15,z1f,z1j,z1n,z1o,z1r,z1u,z20,z21,z2b,z2g,z2h,z2j,z2u,z2v,z33,z34,z3h,z4l,z4m,z4o,z4q,z4y,z54,z55,z66,z67,z69,z6b,z6j,z6p,z7r,z7w,z84,z8d,z9d,z9e,z9g,z9i,z9j,z9k,z9l,z9m,z9n,z9y,za2,za3,za5,za6,za7,za8,zaa,zab,zaq,zas,zat,zba,zbc,zbd,zbf,zbg,zbk,zbt,zbu,zbw,zbx,zby,zbz,zc0,zc3,zc4,zc5,zc6,zc8,zca,zcc,zcd,zce,zcf,zcg,zch,zci,zcj,zcn,zco,zcp,zcq,zcr,zct,zcu,zcv,zcw,zcx,zcy,zd3,zd6,zd7,zdd,zdk,zdl,zdo,zds,zdt,zdu,zdv,zdw,zdx,ze2,ze3,ze9,zf5,zf6,zf7,zf8,zf9,zfa,zfc,zfd,zfm,zfo,zfp,zfq,zfr,zfs,zft,zfu,zfv,zfw,zfx,zfy,zfz,zg0,zg1, w44]; all_goals tactic => exact rfl))
        · have e2 := lt_ix h3
          have e3 := eq_false (of_decide_eq_true h5)
          (sym => (simp [etaM, etaF, z00,z01,z02,z05,z06,z07,z09,z0b,z0c,z0n,z0o,z0v,z15,z1f,z1j,z1n,z1o,z1r,z1u,z20,z21,z2b,z2g,z2h,z2j,z2u,z2v,z33,z34,z3h,z4l,z4m,z4o,z4q,z4y,z54,z55,z66,z67,z69,z6b,z6j,z6p,z7r,z7w,z84,z8d,z9d,z9e,z9g,z9i,z9j,z9k,z9l,z9m,z9n,z9y,za2,za3,za5,za6,za7,za8,zaa,zab,zaq,zas,zat,zba,zbc,zbd,zbf,zbg,zbk,zbt,zbu,zbw,zbx,zby,zbz,zc0,zc3,zc4,zc5,zc6,zc8,zca,zcc,zcd,zce,zcf,zcg,zch,zci,zcj,zcn,zco,zcp,zcq,zcr,zct,zcu,zcv,zcw,zcx,zcy,zd3,zd6,zd7,zdd,zdk,zdl,zdo,zds,zdt,zdu,zdv,zdw,zdx,ze2,ze3,ze9,zf5,zf6,zf7,zf8,zf9,zfa,zfc,zfd,zfm,zfo,zfp,zfq,zfr,zfs,zft,zfu,zfv,zfw,zfx,zfy,zfz,zg0,zg1, w44, e2, h4, e3]; all_goals tactic => exact rfl))
def checkP (u : Int) (l : List Fl) : Int := if btw 1 u 8 then if l.length > 20 then 1 else firstE u l else 2
theorem w20 (u : Int) (l : List Fl) (hn : l.length < 1000000) : runW progX 20 [plA u l] [] = some (I (checkP u l), []) := by
  rw [r20 (by simp)]; unfold x20; dsimp only
  unfold checkP
  have e := w43 u l l hn
  cases h1 : btw 1 u 8
  · (sym => (simp [etaM, etaF, z00,z01,z05,z06,z07,z09,z0b,z0c,z0f,z0n,z0p,z0r,z0v,z0z,z12,z1f,z1j,z1r,z1u,z20,z21,z26,z29,z2b,z2x,z4l,z4o,z4q,z4y,z54,z57,z59,z66,z67,z69,z6b,z6j,z6p,z7r,z7u,z7w,z8d,z9d,z9e,z9g,z9j,z9k,z9l,z9m,z9n,z9p,z9y,za2,za3,za5,za6,za7,za8,zaa,zab,zaq,zas,zat,zba,zbc,zbd,zbf,zbg,zbk,zbt,zbu,zbw,zbx,zby,zbz,zc0,zc3,zc4,zc5,zc6,zc8,zce,zcf,zcg,zcj,zcn,zco,zcq,zcr,zct,zcu,zcv,zcw,zd3,zd6,zd7,zdk,zdl,zdo,zds,zdt,zdu,zdv,zdw,zdx,ze2,ze3,zeo,zep,zf6,zf7,zfa,zfb,zfg,zfm,zfo,zfp,zfq,zfs,zft,zfv,zfw,zfx,zg0,zg1, w42, h1]; all_goals tactic => exact rfl))
  by_cases h2 : l.length > 20
  · have h3 : ((20 : Int) < (l.length : Int)) = True := eq_true (by omega)
    rw [if_pos h2]
    (sym => (simp [etaM, etaF, z00,z01,z05,z06,z07,z09,z0b,z0c,z0f,z0n,z0p,z0r,z0v,z0z,z12,z1f,z1j,z1r,z1u,z20,z21,z26,z29,z2b,z2x,z4l,z4o,z4q,z4y,z54,z57,z59,z66,z67,z69,z6b,z6j,z6p,z7r,z7u,z7w,z8d,z9d,z9e,z9g,z9j,z9k,z9l,z9m,z9n,z9p,z9y,za2,za3,za5,za6,za7,za8,zaa,zab,zaq,zas,zat,zba,zbc,zbd,zbf,zbg,zbk,zbt,zbu,zbw,zbx,zby,zbz,zc0,zc3,zc4,zc5,zc6,zc8,zce,zcf,zcg,zcj,zcn,zco,zcq,zcr,zct,zcu,zcv,zcw,zd3,zd6,zd7,zdk,zdl,zdo,zds,zdt,zdu,zdv,zdw,zdx,ze2,ze3,zeo,zep,zf6,zf7,zfa,zfb,zfg,zfm,zfo,zfp,zfq,zfs,zft,zfv,zfw,zfx,zg0,zg1, w42, h1, h3]; all_goals tactic => exact rfl))
  · have h3 : ((20 : Int) < (l.length : Int)) = False := eq_false (by omega)
    rw [if_neg h2]
    (sym => (simp [etaM, etaF, z00,z01,z05,z06,z07,z09,z0b,z0c,z0f,z0n,z0p,z0r,z0v,z0z,z12,z1f,z1j,z1r,z1u,z20,z21,z26,z29,z2b,z2x,z4l,z4o,z4q,z4y,z54,z57,z59,z66,z67,z69,z6b,z6j,z6p,z7r,z7u,z7w,z8d,z9d,z9e,z9g,z9j,z9k,z9l,z9m,z9n,z9p,z9y,za2,za3,za5,za6,za7,za8,zaa,zab,zaq,zas,zat,zba,zbc,zbd,zbf,zbg,zbk,zbt,zbu,zbw,zbx,zby,zbz,zc0,zc3,zc4,zc5,zc6,zc8,zce,zcf,zcg,zcj,zcn,zco,zcq,zcr,zct,zcu,zcv,zcw,zd3,zd6,zd7,zdk,zdl,zdo,zds,zdt,zdu,zdv,zdw,zdx,ze2,ze3,zeo,zep,zf6,zf7,zfa,zfb,zfg,zfm,zfo,zfp,zfq,zfs,zft,zfv,zfw,zfx,zg0,zg1, w42, h1, h3, e]; all_goals tactic => exact rfl))
end Go.Proofs.Ytdbikamciedfdaa
namespace Go.Proofs.Ytdbikamciedfdaa
open Go Go.DL
set_option maxRecDepth 100000
set_option maxHeartbeats 1000000

end Go.Proofs.Ytdbikamciedfdaa
namespace Go.Proofs.Ytdbikamciedfdaa
open Go Go.DL
set_option maxRecDepth 100000
set_option maxHeartbeats 1000000

def ixR (n m : Nat) : Int := if n = m then -1 else n
theorem w79 (us : List Int) (u : Int) (hn : us.length < 1000000) : ∃ r : Int, runW progX 79 [rI us, I u] [] = some (I r, []) ∧ decide (0 ≤ r) = decide (u ∈ us) := by
  obtain ⟨n, h1, h2, h3⟩ := first_ix (fun x => decide (u = x)) us
  refine ⟨ixR n us.length, ?_, ?_⟩
  · rw [r79 (by simp)]; unfold x79; dsimp only
    have ex : (((n : Int) < (us.length : Int)) = False ∧ (0 : Nat) = 0 ∧ (0 : Nat) = 0 ∧ ixR n us.length = -1) ∨ (∃ x, ((n : Int) < (us.length : Int)) = True ∧ us[n]? = some x ∧ (u = x) = True ∧ ixR n us.length = n) := by
      rcases h3 with h3 | ⟨x, h3, h4, h5⟩
      · exact .inl ⟨eq_false (by omega), rfl, rfl, if_pos h3⟩
      · exact .inr ⟨x, lt_ix h3, h4, eq_true (of_decide_eq_true h5), if_neg (by omega)⟩
    have g0 := pad
    sym =>
      simp [etaM, etaF, z00,z01,z05,z07,z0b,z0c,z0n,z0v,z15,z1f,z1j,z2b,z2g,z2h,z2j,z2t,z2v,z33,z34,z3h,z4l,z4q,z66,z6b,z6p,z7r,z7w,z9n,z9p,z9y,za3,za5,za7,za8,zba,zbt,zbu,zbw,zbx,zby,zbz,zc0,zc3,zc4,zc5,zc6,zc8,zca,zcc,zcd,zce,zcf,zcg,zch,zci,zcj,zcn,zco,zcr,zct,zcu,zcv,zcw,zcx,zcy,zdd,zdk,zdl,zdo,zds,zdt,zdu,zdv,ze2,ze3,zf8,zf9,zfb,zfm,zfo,zfp,zfq,zfr,zfs,zft,zfu,zfv,zfw,zfx,zfy,zfz,zg0,zg1]
      tactic =>
        unfold x79l0
        rw [loop_rule n (fun i => [rI us, I u, I us.length, I (i : Nat)]) (fun i => [])]
        rcases ex with ⟨g1, g2, g3, g4⟩ | ⟨x, g1, g2, g3, g4⟩
        case' hs =>
          intro i hi
          obtain ⟨x, g2, h4⟩ := h2 i hi
          have g0 := up_ix hi (by omega)
          have g1 := lt_ix (l := us) (i := i) (by omega)
          have g3 : (u = x) = False := by simpa using h4
          have g4 := pad
        case' h0 =>
          have g1 := pad
          have g2 := pad
          have g3 := pad
          have g4 := pad
        case' hl => rcases ex with ⟨g1, g2, g3, g4⟩ | ⟨x, g1, g2, g3, g4⟩
        all_goals (sym => (simp [etaM, etaF, z00,z01,z05,z07,z0b,z0c,z0n,z0v,z15,z1f,z1j,z2b,z2g,z2h,z2j,z2t,z2v,z33,z34,z3h,z4l,z4q,z66,z6b,z6p,z7r,z7w,z9n,z9p,z9y,za3,za5,za7,za8,zba,zbt,zbu,zbw,zbx,zby,zbz,zc0,zc3,zc4,zc5,zc6,zc8,zca,zcc,zcd,zce,zcf,zcg,zch,zci,zcj,zcn,zco,zcr,zct,zcu,zcv,zcw,zcx,zcy,zdd,zdk,zdl,zdo,zds,zdt,zdu,zdv,ze2,ze3,zf8,zf9,zfb,zfm,zfo,zfp,zfq,zfr,zfs,zft,zfu,zfv,zfw,zfx,zfy,zfz,zg0,zg1, g0, g1, g2, g3, g4]; all_goals tactic => exact rfl))
  · rcases h3 with h3 | ⟨x, h3, h4, h5⟩
    · have : u ∉ us := by
        intro hc
        obtain ⟨i, hi, he⟩ := List.mem_iff_getElem.1 hc
        obtain ⟨x, hx, h4⟩ := h2 i (by omega)
        rw [List.getElem?_eq_getElem hi] at hx
        simp only [Option.some.injEq] at hx
        rw [← hx, he] at h4
        simp at h4
      simp [ixR, h3, this]
    · have h5 := of_decide_eq_true h5
      subst h5
      have : u ∈ us := List.mem_of_getElem? h4
      rw [ixR, if_neg (by omega)]
      simp [this]
theorem w69 (us : List Int) (u : Int) (hn : us.length < 1000000) : runW progX 69 [rI us, I u] [] = some (.bool (decide (u ∈ us)), []) := by
  rw [r69 (by simp)]; unfold x69; dsimp only
  obtain ⟨r, h1, h2⟩ := w79 us u hn
  (sym => (simp [etaM, etaF, z00,z01,z05,z06,z07,z09,z0b,z0c,z0n,z0v,z1r,z1u,z20,z21,z2y,z4l,z4m,z4q,z66,z67,z6b,z6p,z6q,z6u,z7r,z7s,z7w,z9m,z9n,z9y,za2,za3,za5,za7,za8,zaa,zab,zaq,zas,zat,zba,zbc,zbd,zbe,zbt,zbu,zbw,zbx,zby,zbz,zc0,zc3,zc4,zc5,zc6,zc8,zcj,zcn,zco,zcq,zcr,zct,zcv,zdo,zds,zdt,zdu,zdv,ze2,ze3,zfm,zfo,zfp,zft,zg0,zg1, h1, h2]; all_goals tactic => exact rfl))
theorem w70 (us : List Int) (u : Int) (hn : us.length < 1000000) : runW progX 70 [I u, .pt 0 0] [some (.blk true (.cells true [rI us]))] = some (.bool (decide (u ∈ us)), [some (.blk true (.cells true [rI us]))]) := by
  rw [r70 (by simp)]; unfold x70; dsimp only
  have h1 := w69 us u hn
  (sym => (simp [etaM, etaF, z00,z01,z05,z06,z07,z09,z0b,z0c,z0n,z1j,z1r,z1u,z20,z21,z4l,z4m,z4q,z66,z67,z6b,z6p,z6q,z7r,z7s,z7z,z9d,z9e,z9g,z9m,z9n,z9p,z9y,za2,za3,za5,za6,za7,za8,zaa,zab,zae,zaf,zak,zal,zaq,zas,zat,zba,zbc,zbd,zbe,zbf,zbg,zbk,zbt,zbu,zbw,zbx,zby,zbz,zc0,zc3,zc4,zc5,zc6,zc8,zcj,zcn,zco,zcq,zcr,zcs,zct,zcu,zcv,zdo,zds,zdt,zdu,zdv,ze2,ze3,zf6,zf7,zfb,zfo,zfp,zft,zg0,zg1, h1]; all_goals tactic => exact rfl))

theorem w39A (u : Int) (l : List Fl) (wo : Int) (g : Nat) (rows : List (List AV)) (f : Int → Bool) (hn : l.length < 1000000) (hf : ∀ u, runW progX g (I u :: [.pt 0 0]) [some (.blk true (.cells true [.fs rows]))] = some (.bool (f u), [some (.blk true (.cells true [.fs rows]))])) :
    runW progX 39 [plA u l, I wo, .fn (.func g) [] [.pt 0 0]] [some (.blk true (.cells true [.fs rows]))] = some (.agg [I (exI f wo l l.length).a, I (exI f wo l l.length).b, I (exI f wo l l.length).c, I (exI f wo l l.length).d], [some (.blk true (.cells true [.fs rows]))]) := by
  rw [r39 (by simp)]; unfold x39; dsimp only
  have g0 := pad
  have g1 := pad
  have g2 := pad
  have g3 := pad
  have g4 := pad
  have g5 := pad
  have g6 := pad
  sym =>
    simp [etaM, etaF, z00,z01,z02,z03,z04,z05,z06,z07,z09,z0a,z0b,z0c,z0f,z0h,z0j,z0l,z0n,z0o,z0q,z0r,z0v,z0w,z0z,z12,z15,z1f,z1j,z1k,z1m,z1n,z1o,z1p,z1r,z1u,z1v,z1w,z20,z21,z22,z23,z24,z26,z29,z2b,z2g,z2h,z2j,z2t,z2v,z33,z34,z3h,z4l,z4o,z4q,z4t,z4y,z54,z55,z57,z59,z66,z67,z69,z6b,z6e,z6j,z6p,z6s,z7r,z7u,z7w,z84,z8d,z9d,z9e,z9g,z9i,z9j,z9k,z9l,z9m,z9n,z9p,z9r,z9s,z9t,z9v,z9w,z9y,za0,za1,za2,za3,za5,za6,za7,za8,za9,zaa,zab,zac,zae,zaf,zak,zal,zaq,zas,zat,zau,zav,zaw,zax,zaz,zb1,zb2,zb3,zba,zbc,zbd,zbf,zbg,zbk,zbt,zbu,zbw,zbx,zby,zbz,zc0,zc3,zc4,zc5,zc7,zc8,zca,zcc,zcd,zce,zcf,zcg,zch,zcj,zcn,zco,zcp,zcq,zcr,zcs,zct,zcu,zcv,zcw,zcx,zcy,zd3,zd6,zd7,zd8,zd9,zdb,zdd,zdj,zdk,zdl,zdm,zdn,zdo,zds,zdt,zdu,zdv,zdw,zdx,zdy,zdz,ze2,ze3,ze9,zeo,zep,zf5,zf6,zf7,zf8,zf9,zfa,zfb,zfc,zfd,zfg,zfm,zfo,zfp,zfq,zfr,zfs,zft,zfu,zfw,zfy,zfz,zg0,zg1]
    tactic =>
      unfold x39l0
      rw [loop_rule l.length (fun i => [I wo, .fn (.func g) [] [.pt 0 0], .pt 1 0, .pt 2 0, .fs (l.map Fl.row), I l.length, I (i : Nat)]) (fun i => [some (.blk true (.cells true [.fs rows]))] ++ [some (.blk true (.cells true [I 0, I 0, I 0, I 0])), some (.blk true (.cells true [I (exI f wo l i).a, I (exI f wo l i).b, I (exI f wo l i).c, I (exI f wo l i).d]))])]
      case' hs =>
        intro i hi
        obtain ⟨x, g0⟩ := at_ix hi
        have g1 := up_ix hi (by omega)
        have g2 := lt_ix hi
        have e3 : exI f wo l (i + 1) = exStep f wo i x (exI f wo l i) := by simp [exI, g0]
        simp only [e3, exStep]
        rcases ptf ((i : Int) = wo) with g3 | g3 <;> cases g4 : x.me <;> cases g5 : f x.to <;> cases g6 : f x.fr
      all_goals (sym => (simp [etaM, etaF, z00,z01,z02,z03,z04,z05,z06,z07,z09,z0a,z0b,z0c,z0f,z0h,z0j,z0l,z0n,z0o,z0q,z0r,z0v,z0w,z0z,z12,z15,z1f,z1j,z1k,z1m,z1n,z1o,z1p,z1r,z1u,z1v,z1w,z20,z21,z22,z23,z24,z26,z29,z2b,z2g,z2h,z2j,z2t,z2v,z33,z34,z3h,z4l,z4o,z4q,z4t,z4y,z54,z55,z57,z59,z66,z67,z69,z6b,z6e,z6j,z6p,z6s,z7r,z7u,z7w,z84,z8d,z9d,z9e,z9g,z9i,z9j,z9k,z9l,z9m,z9n,z9p,z9r,z9s,z9t,z9v,z9w,z9y,za0,za1,za2,za3,za5,za6,za7,za8,za9,zaa,zab,zac,zae,zaf,zak,zal,zaq,zas,zat,zau,zav,zaw,zax,zaz,zb1,zb2,zb3,zba,zbc,zbd,zbf,zbg,zbk,zbt,zbu,zbw,zbx,zby,zbz,zc0,zc3,zc4,zc5,zc7,zc8,zca,zcc,zcd,zce,zcf,zcg,zch,zcj,zcn,zco,zcp,zcq,zcr,zcs,zct,zcu,zcv,zcw,zcx,zcy,zd3,zd6,zd7,zd8,zd9,zdb,zdd,zdj,zdk,zdl,zdm,zdn,zdo,zds,zdt,zdu,zdv,zdw,zdx,zdy,zdz,ze2,ze3,ze9,zeo,zep,zf5,zf6,zf7,zf8,zf9,zfa,zfb,zfc,zfd,zfg,zfm,zfo,zfp,zfq,zfr,zfs,zft,zfu,zfw,zfy,zfz,zg0,zg1, hf, g0, g1, g2, g3, g4, g5, g6, w61]; all_goals tactic => exact rfl))

end Go.Proofs.Ytdbikamciedfdaa
namespace Go.Proofs.Ytdbikamciedfdaa
open Go Go.DL
set_option maxRecDepth 100000
set_option maxHeartbeats 1000000

def mx (a b : Int) : Int := if b > a then b else a
def mn (a b : Int) : Int := if b < a then b else a
/-- The least thing that each is joined with, after so many flows. -/
def gI (wo : Int) (l : List Fl) : Nat → Int → Int
  | 0, x => x
  | i + 1, x => match l[i]? with
    | some f => if f.me || decide ((i : Int) = wo) then gI wo l i x else if gI wo l i x = mx (gI wo l i f.fr) (gI wo l i f.to) then mn (gI wo l i f.fr) (gI wo l i f.to) else gI wo l i x
    | none => gI wo l i x
/-- The program's heads say it. -/
def InvG (U : Int) (es : List (Int × Int)) (g : Int → Int) : Prop := ∀ x, -1 ≤ x → x < U → -1 ≤ g x ∧ g x ≤ x ∧ g (g x) = g x ∧ (look es x = none → g x = x) ∧ (∀ y, look es x = some y → -1 ≤ y ∧ y ≤ x ∧ g y = g x ∧ (y = x → g x = x))

theorem look_put (es : List (Int × Int)) (k v x : Int) : look (put es k v) x = if x = k then some v else look es x := by
  induction es with
  | nil =>
    by_cases h : x = k
    · simp [put, look, h]
    · simp [put, look, h, Ne.symm h]
  | cons p r ih =>
    by_cases h : k = p.1
    · by_cases h2 : x = k
      · simp [put, look, ← h, h2]
      · simp [put, look, ← h, h2, Ne.symm h2]
    · by_cases h2 : x = k
      · subst h2
        simp [put, look, h, Ne.symm h, ih]
      · by_cases h3 : p.1 = x
        · subst h3
          simp [put, look, h, h2]
        · simp [put, look, h, h3, h2, ih]
theorem itH_succ (es : List (Int × Int)) (n : Nat) (x : Int) : itH es (n + 1) x = itH es n (stepH es x) := by
  induction n with
  | zero => rfl
  | succ n ih => rw [itH, ih]; rfl
theorem InvG.hd {U : Int} {es : List (Int × Int)} {g : Int → Int} (hi : InvG U es g) : ∀ (m : Nat) (x : Int), x < m → -1 ≤ x → x < U → ∃ n, hd es n x (g x) := by
  intro m
  induction m with
  | zero =>
    intro x h1 h2 h3
    obtain ⟨a1, a2, a3, a4, a5⟩ := hi x h2 h3
    refine ⟨0, fun i hi => by omega, ?_, by rw [itH]; omega⟩
    rw [itH]
    unfold stepH
    cases hl : look es x with
    | none => rfl
    | some y => have := a5 y hl; simp only [Option.getD_some]; omega
  | succ m ih =>
    intro x h1 h2 h3
    obtain ⟨a1, a2, a3, a4, a5⟩ := hi x h2 h3
    cases hl : look es x with
    | none =>
      refine ⟨0, fun i hi => by omega, ?_, by rw [itH]; exact (a4 hl).symm⟩
      rw [itH, stepH, hl]; rfl
    | some y =>
      obtain ⟨b1, b2, b3, b4⟩ := a5 y hl
      by_cases hy : y = x
      · refine ⟨0, fun i hi => by omega, ?_, by rw [itH]; exact (b4 hy).symm⟩
        rw [itH, stepH, hl]; exact hy
      · obtain ⟨n, c1, c2, c3⟩ := ih y (by omega) b1 (by omega)
        have hs : stepH es x = y := by rw [stepH, hl]; rfl
        refine ⟨n + 1, fun i hi => ?_, ?_, ?_⟩
        · cases i with
          | zero => rw [itH, hs]; exact hy
          | succ i => rw [itH_succ, hs]; exact c1 i (by omega)
        · rw [itH_succ, hs]; exact c2
        · rw [itH_succ, hs, c3, b3]
theorem InvG.start (U : Int) : InvG U [] fun x => x := fun x h1 _ => ⟨h1, Int.le_refl _, rfl, fun _ => rfl, fun y h => by simp [look] at h⟩
theorem InvG.join {U : Int} {es : List (Int × Int)} {g : Int → Int} (hi : InvG U es g) {p q : Int} (h1 : -1 ≤ p) (h2 : p < U) (h3 : -1 ≤ q) (h4 : q < U) :
    InvG U (put es (mx (g p) (g q)) (mn (g p) (g q))) fun x => if g x = mx (g p) (g q) then mn (g p) (g q) else g x := by
  obtain ⟨a1, a2, a3, _, _⟩ := hi p h1 h2
  obtain ⟨b1, b2, b3, _, _⟩ := hi q h3 h4
  have hM : g (mx (g p) (g q)) = mx (g p) (g q) := by unfold mx; split <;> assumption
  have hm : g (mn (g p) (g q)) = mn (g p) (g q) := by unfold mn; split <;> assumption
  have hle : mn (g p) (g q) ≤ mx (g p) (g q) := by unfold mn mx; split <;> split <;> omega
  have hml : -1 ≤ mn (g p) (g q) := by unfold mn; split <;> omega
  have hMu : mx (g p) (g q) < U := by unfold mx; split <;> omega
  generalize mx (g p) (g q) = M at *
  generalize mn (g p) (g q) = m at *
  intro x hx1 hx2
  obtain ⟨c1, c2, c3, c4, c5⟩ := hi x hx1 hx2
  refine ⟨?_, ?_, ?_, ?_, ?_⟩
  · dsimp only; split <;> omega
  · dsimp only; split <;> omega
  · dsimp only
    by_cases hg : g x = M
    · rw [if_pos hg, hm]; split <;> rfl
    · rw [if_neg hg, c3, if_neg hg]
  · intro hl
    rw [look_put] at hl
    by_cases hxM : x = M
    · simp [hxM] at hl
    · rw [if_neg hxM] at hl
      dsimp only
      rw [if_neg (by rw [c4 hl]; exact hxM), c4 hl]
  · intro y hl
    rw [look_put] at hl
    by_cases hxM : x = M
    · rw [if_pos hxM] at hl
      simp only [Option.some.injEq] at hl
      subst hl
      subst hxM
      dsimp only
      rw [hM, if_pos rfl, hm]
      refine ⟨hml, hle, by split <;> rfl, fun h => h⟩
    · rw [if_neg hxM] at hl
      obtain ⟨d1, d2, d3, d4⟩ := c5 y hl
      refine ⟨d1, d2, by dsimp only; rw [d3], fun h => ?_⟩
      dsimp only
      rw [if_neg (by rw [d4 h]; exact hxM), d4 h]

/-- Flows within a plant's units. -/
def rngL (U : Int) (l : List Fl) : Prop := ∀ x ∈ l, -1 ≤ x.fr ∧ x.fr < U ∧ -1 ≤ x.to ∧ x.to < U
def esI (wo : Int) (l : List Fl) : Nat → List (Int × Int)
  | 0 => []
  | i + 1 => match l[i]? with
    | some f => if f.me || decide ((i : Int) = wo) then esI wo l i else put (esI wo l i) (mx (gI wo l i f.fr) (gI wo l i f.to)) (mn (gI wo l i f.fr) (gI wo l i f.to))
    | none => esI wo l i
theorem esI_inv {U wo : Int} {l : List Fl} (hr : rngL U l) : ∀ i, InvG U (esI wo l i) (gI wo l i)
  | 0 => InvG.start U
  | i + 1 => by
    have ih := esI_inv hr (wo := wo) i
    cases hx : l[i]? with
    | none =>
      have e1 : gI wo l (i + 1) = gI wo l i := by funext x; simp [gI, hx]
      have e2 : esI wo l (i + 1) = esI wo l i := by simp [esI, hx]
      rw [e1, e2]; exact ih
    | some f =>
      obtain ⟨r1, r2, r3, r4⟩ := hr f (List.mem_of_getElem? hx)
      cases hc : f.me || decide ((i : Int) = wo) with
      | true =>
        have e1 : gI wo l (i + 1) = gI wo l i := by funext x; simp only [gI, hx, hc, if_true]
        have e2 : esI wo l (i + 1) = esI wo l i := by simp only [esI, hx, hc, if_true]
        rw [e1, e2]; exact ih
      | false =>
        have e1 : gI wo l (i + 1) = fun x => if gI wo l i x = mx (gI wo l i f.fr) (gI wo l i f.to) then mn (gI wo l i f.fr) (gI wo l i f.to) else gI wo l i x := by funext x; simp only [gI, hx, hc]; rfl
        have e2 : esI wo l (i + 1) = put (esI wo l i) (mx (gI wo l i f.fr) (gI wo l i f.to)) (mn (gI wo l i f.fr) (gI wo l i f.to)) := by simp only [esI, hx, hc]; rfl
        rw [e1, e2]; exact ih.join r1 r2 r3 r4

theorem w58' {U : Int} {es : List (Int × Int)} {g : Int → Int} (hi : InvG U es g) {x y : Int} (h1 : -1 ≤ x) (h2 : x < U) (h3 : -1 ≤ y) (h4 : y < U) : runW progX 58 [.mp 0, I x, I y] [mapB es] = some (.tup [], [mapB (put es (mx (g x) (g y)) (mn (g x) (g y)))]) := by
  obtain ⟨n, e1⟩ := hi.hd (x.toNat + 1) x (by omega) h1 h2
  obtain ⟨m, e2⟩ := hi.hd (y.toNat + 1) y (by omega) h3 h4
  exact w58 e1 e2
theorem w57h {U : Int} {es : List (Int × Int)} {g : Int → Int} (hi : InvG U es g) {x : Int} (h1 : -1 ≤ x) (h2 : x < U) : runW progX 57 [.mp 0, I x] [mapB es] = some (I (g x), [mapB es]) := by
  obtain ⟨n, e1⟩ := hi.hd (x.toNat + 1) x (by omega) h1 h2
  exact w57' e1

theorem w67 (U : Int) (l : List Fl) (wo : Int) (hn : l.length < 1000000) (hr : rngL U l) :
    runW progX 67 [plA U l, I wo] [] = some (.mp 0, [mapB (esI wo l l.length)]) := by
  rw [r67 (by simp)]; unfold x67; dsimp only
  have g0 := pad
  have g1 := pad
  have g2 := pad
  have g3 := pad
  have g4 := pad
  have g5 := pad
  have g6 := pad
  sym =>
    simp [etaM, etaF, z00,z01,z02,z05,z06,z07,z09,z0b,z0c,z0f,z0h,z0i,z0k,z0n,z0o,z0q,z0r,z0v,z0z,z12,z15,z1c,z1f,z1j,z1n,z1o,z1r,z1u,z20,z21,z22,z23,z26,z29,z2b,z2g,z2h,z2j,z2u,z2v,z33,z34,z3h,z4l,z4q,z4u,z54,z55,z57,z59,z66,z6a,z6b,z6f,z6y,z7r,z7u,z7w,z80,z8d,z9d,z9e,z9g,z9i,z9j,z9k,z9l,z9m,z9n,z9p,z9r,z9t,z9v,z9w,z9y,za0,za1,za2,za3,za5,za6,za7,za8,za9,zaa,zab,zac,zae,zaf,zal,zaq,zas,zat,zau,zba,zbc,zbd,zbe,zbf,zbg,zbk,zbt,zbu,zbw,zbx,zby,zbz,zc0,zc3,zc4,zc5,zc6,zc8,zca,zcc,zcd,zce,zcf,zcg,zch,zcj,zcn,zco,zcp,zcq,zcr,zct,zcu,zcv,zcw,zcx,zcy,zd3,zd6,zd7,zd9,zdb,zdd,zdj,zdk,zdl,zdo,zds,zdt,zdu,zdv,zdw,zdx,ze2,ze3,ze9,zeo,zep,zeu,zf5,zf6,zf7,zf8,zf9,zfa,zfb,zfc,zfd,zfg,zfm,zfo,zfp,zfq,zfr,zfs,zft,zfu,zfw,zfy,zfz,zg0,zg1,zhf]
    tactic =>
      unfold x67l0
      rw [loop_rule l.length (fun i => [I wo, .mp 0, .fs (l.map Fl.row), I l.length, I (i : Nat)]) (fun i => [mapB (esI wo l i)])]
      case' hs =>
        intro i hi
        obtain ⟨x, g0⟩ := at_ix hi
        have g1 := up_ix hi (by omega)
        have g2 := lt_ix hi
        obtain ⟨r1, r2, r3, r4⟩ := hr x (List.mem_of_getElem? g0)
        have g5 := w58' (esI_inv hr (wo := wo) i) r1 r2 r3 r4
        have e3 : esI wo l (i + 1) = if x.me || decide ((i : Int) = wo) then esI wo l i else put (esI wo l i) (mx (gI wo l i x.fr) (gI wo l i x.to)) (mn (gI wo l i x.fr) (gI wo l i x.to)) := by simp only [esI, g0]
        simp only [e3]
        rcases ptf ((i : Int) = wo) with g3 | g3 <;> cases g4 : x.me
      all_goals (sym => (simp [etaM, etaF, z00,z01,z02,z05,z06,z07,z09,z0b,z0c,z0f,z0h,z0i,z0k,z0n,z0o,z0q,z0r,z0v,z0z,z12,z15,z1c,z1f,z1j,z1n,z1o,z1r,z1u,z20,z21,z22,z23,z26,z29,z2b,z2g,z2h,z2j,z2u,z2v,z33,z34,z3h,z4l,z4q,z4u,z54,z55,z57,z59,z66,z6a,z6b,z6f,z6y,z7r,z7u,z7w,z80,z8d,z9d,z9e,z9g,z9i,z9j,z9k,z9l,z9m,z9n,z9p,z9r,z9t,z9v,z9w,z9y,za0,za1,za2,za3,za5,za6,za7,za8,za9,zaa,zab,zac,zae,zaf,zal,zaq,zas,zat,zau,zba,zbc,zbd,zbe,zbf,zbg,zbk,zbt,zbu,zbw,zbx,zby,zbz,zc0,zc3,zc4,zc5,zc6,zc8,zca,zcc,zcd,zce,zcf,zcg,zch,zcj,zcn,zco,zcp,zcq,zcr,zct,zcu,zcv,zcw,zcx,zcy,zd3,zd6,zd7,zd9,zdb,zdd,zdj,zdk,zdl,zdo,zds,zdt,zdu,zdv,zdw,zdx,ze2,ze3,ze9,zeo,zep,zeu,zf5,zf6,zf7,zf8,zf9,zfa,zfb,zfc,zfd,zfg,zfm,zfo,zfp,zfq,zfr,zfs,zft,zfu,zfw,zfy,zfz,zg0,zg1,zhf, g0, g1, g2, g3, g4, g5, zg7]; all_goals tactic => exact rfl))
end Go.Proofs.Ytdbikamciedfdaa
namespace Go.Proofs.Ytdbikamciedfdaa
open Go Go.DL
set_option maxRecDepth 100000
set_option maxHeartbeats 1000000

end Go.Proofs.Ytdbikamciedfdaa
namespace Go.Proofs.Ytdbikamciedfdaa
open Go Go.DL
set_option maxRecDepth 100000
set_option maxHeartbeats 1000000

end Go.Proofs.Ytdbikamciedfdaa
namespace Go.Proofs.Ytdbikamciedfdaa
open Go Go.DL
set_option maxRecDepth 100000
set_option maxHeartbeats 1000000

end Go.Proofs.Ytdbikamciedfdaa
namespace Go.Proofs.Ytdbikamciedfdaa
open Go Go.DL
set_option maxRecDepth 100000
set_option maxHeartbeats 1000000

theorem first_n (P : Nat → Bool) : ∀ m, ∃ n, n ≤ m ∧ (∀ i, i < n → P i = false) ∧ (n = m ∨ (n < m ∧ P n = true))
  | 0 => ⟨0, Nat.le_refl _, fun i hi => absurd hi (by omega), .inl rfl⟩
  | m + 1 => by
    obtain ⟨n, h1, h2, h3⟩ := first_n P m
    rcases h3 with h3 | ⟨h3, h4⟩
    · subst h3
      cases hp : P n with
      | true => exact ⟨n, by omega, h2, .inr ⟨by omega, hp⟩⟩
      | false =>
        refine ⟨n + 1, by omega, fun i hi => ?_, .inl rfl⟩
        by_cases hc : i = n
        · rw [hc, hp]
        · exact h2 i (by omega)
    · exact ⟨n, by omega, h2, .inr ⟨by omega, h4⟩⟩

end Go.Proofs.Ytdbikamciedfdaa
namespace Go.Proofs.Ytdbikamciedfdaa
open Go Go.DL
set_option maxRecDepth 100000
set_option maxHeartbeats 1000000

theorem checkP_u {U : Int} {l : List Fl} (h : checkP U l = 0) : 1 ≤ U ∧ U ≤ 8 ∧ l.length ≤ 20 ∧ firstE U l = 0 := by
  unfold checkP at h
  cases hb : btw 1 U 8 with
  | false => simp [hb] at h
  | true =>
    by_cases h2 : l.length > 20
    · simp [hb, h2] at h
    · simp only [btw, Bool.and_eq_true, decide_eq_true_eq] at hb
      simp only [show btw 1 U 8 = true by simp [btw, hb], if_true, h2, if_false] at h
      exact ⟨hb.1, hb.2, by omega, h⟩
end Go.Proofs.Ytdbikamciedfdaa
namespace Go.Proofs.Ytdbikamciedfdaa
open Go Go.DL
set_option maxRecDepth 100000
set_option maxHeartbeats 1000000

end Go.Proofs.Ytdbikamciedfdaa
namespace Go.Proofs.Ytdbikamciedfdaa
open Go Go.DL
set_option maxRecDepth 100000
set_option maxHeartbeats 1000000

abbrev msA (m : Ms) : AV := .agg [I m.a, I m.b, I m.c, I m.d]
end Go.Proofs.Ytdbikamciedfdaa
namespace Go.Proofs.Ytdbikamciedfdaa
open Go Go.DL
set_option maxRecDepth 100000
set_option maxHeartbeats 1000000

end Go.Proofs.Ytdbikamciedfdaa
namespace Go.Proofs.Ytdbikamciedfdaa
open Go Go.DL
set_option maxRecDepth 100000
set_option maxHeartbeats 1000000

end Go.Proofs.Ytdbikamciedfdaa
namespace Go.Proofs.Ytdbikamciedfdaa
open Go Go.DL
set_option maxRecDepth 100000
set_option maxHeartbeats 1000000

/-- The units of a head, as far as they have been looked at. -/
def usI (g : Int → Int) (u : Int) : Nat → List Int
  | 0 => []
  | v + 1 => if g v = u then usI g u v ++ [(v : Int)] else usI g u v
theorem usI_len (g : Int → Int) (u : Int) : ∀ v, (usI g u v).length ≤ v
  | 0 => Nat.le_refl _
  | v + 1 => by
    have := usI_len g u v
    rw [usI]
    split
    · rw [List.length_append]; simp; omega
    · omega
theorem usI_mem (g : Int → Int) (u : Int) : ∀ v x, x ∈ usI g u v ↔ (0 ≤ x ∧ x < v ∧ g x = u)
  | 0, x => by simp [usI]; omega
  | v + 1, x => by
    have ih := usI_mem g u v x
    rw [usI]
    split
    · rename_i h
      rw [List.mem_append, ih]
      simp only [List.mem_singleton]
      constructor
      · rintro (h1 | h1)
        · omega
        · subst h1; omega
      · intro h1
        by_cases hx : x = v
        · exact .inr hx
        · exact .inl (by omega)
    · rename_i h
      rw [ih]
      constructor
      · omega
      · intro h1
        by_cases hx : x = v
        · subst hx; exact absurd h1.2.2 h
        · omega
end Go.Proofs.Ytdbikamciedfdaa
namespace Go.Proofs.Ytdbikamciedfdaa
open Go Go.DL
set_option maxRecDepth 100000
set_option maxHeartbeats 1000000

theorem w36 (U : Int) (l : List Fl) : runW progX 36 [plA U l] [] = some (.fn (.func 66) [] [.pt 0 0], [some (.blk true (.cells true [I U, .fs (l.map Fl.row)]))]) := by
  rw [r36 (by simp)]; unfold x36; dsimp only
  (sym => (simp [etaM, etaF, z00,z01,z05,z07,z0b,z0f,z0n,z0p,z0r,z4t,z4y,z54,z57,z59,z6e,z6j,z72,z7r,z7u,z7w,z84,z8d,z9d,z9n,z9r,z9v,z9w,z9y,za0,za1,za3,za6,za7,za8,za9,zae,zaf,zal,zba,zbt,zbu,zbw,zbx,zby,zbz,zc0,zc3,zc4,zc5,zc6,zc8,zcj,zcn,zco,zcq,zcr,zct,zcv,zcy,zd3,zdj,zds,zdt,zdu,zdv,zdw,zdx,ze2,ze3,zeo,zep,zfg,zfo,zfp,zft,zg0,zg1,zhf]; all_goals tactic => exact rfl))

theorem rngL_of {U : Int} {l : List Fl} (h : checkP U l = 0) : rngL U l := by
  obtain ⟨u1, u2, u3, u4⟩ := checkP_u h
  have key : ∀ l : List Fl, firstE U l = 0 → ∀ x ∈ l, chkF U x = 0 := by
    intro l
    induction l with
    | nil => intro _ x hx; simp at hx
    | cons a r ih =>
      intro h x hx
      rw [firstE] at h
      by_cases ha : chkF U a = 0
      · rw [if_pos ha] at h
        rcases List.mem_cons.1 hx with hx | hx
        · rw [hx]; exact ha
        · exact ih h x hx
      · rw [if_neg ha] at h
        exact absurd h ha
  intro x hx
  have := key l u4 x hx
  unfold chkF at this
  rw [show wr (U - 1) = U - 1 from wrap_ok (by omega) (by omega)] at this
  cases h1 : btw (-1) x.fr (U - 1) && btw (-1) x.to (U - 1) with
  | false => rw [h1] at this; simp at this
  | true =>
    simp only [btw, Bool.and_eq_true, decide_eq_true_eq] at h1
    omega

end Go.Proofs.Ytdbikamciedfdaa
namespace Go.Proofs.Ytdbikamciedfdaa
open Go Go.DL
set_option maxRecDepth 100000
set_option maxHeartbeats 1000000

end Go.Proofs.Ytdbikamciedfdaa
namespace Go.Proofs.Ytdbikamciedfdaa
open Go Go.DL
set_option maxRecDepth 100000
set_option maxHeartbeats 1000000

theorem gI_ok {U : Nat} {l : List Fl} (h : checkP U l = 0) (wo : Int) (i : Nat) : ∀ v : Int, -1 ≤ v → v < U → -1 ≤ gI wo l i v ∧ gI wo l i v ≤ v ∧ gI wo l i (gI wo l i v) = gI wo l i v := by
  intro v h1 h2
  obtain ⟨a1, a2, a3, _, _⟩ := esI_inv (rngL_of h) (wo := wo) i v h1 h2
  exact ⟨a1, a2, a3⟩
/-! ### Whatever the number of units -/
end Go.Proofs.Ytdbikamciedfdaa
namespace Go.Proofs.Ytdbikamciedfdaa
open Go Go.DL
set_option maxRecDepth 100000
set_option maxHeartbeats 1000000

/-- The first kind of which there is something. -/
def kd (m : Ms) : Option Int := if m.a = 0 then if m.b = 0 then if m.c = 0 then if m.d = 0 then none else some 3 else some 2 else some 1 else some 0
theorem kd_cases (m : Ms) : (((m.a = 0) = True ∧ (m.b = 0) = True ∧ (m.c = 0) = True ∧ (m.d = 0) = True) ∧ kd m = none) ∨
    ((((m.a = 0) = False) ∧ kd m = some 0) ∨ (((m.a = 0) = True ∧ (m.b = 0) = False) ∧ kd m = some 1) ∨ (((m.a = 0) = True ∧ (m.b = 0) = True ∧ (m.c = 0) = False) ∧ kd m = some 2) ∨ (((m.a = 0) = True ∧ (m.b = 0) = True ∧ (m.c = 0) = True ∧ (m.d = 0) = False) ∧ kd m = some 3)) := by
  unfold kd
  rcases ptf (m.a = 0) with h1 | h1
  · rcases ptf (m.b = 0) with h2 | h2
    · rcases ptf (m.c = 0) with h3 | h3
      · rcases ptf (m.d = 0) with h4 | h4
        · exact .inl ⟨⟨h1, h2, h3, h4⟩, by simp [h1, h2, h3, h4]⟩
        · exact .inr (.inr (.inr (.inr ⟨⟨h1, h2, h3, h4⟩, by simp [h1, h2, h3, h4]⟩)))
      · exact .inr (.inr (.inr (.inl ⟨⟨h1, h2, h3⟩, by simp [h1, h2, h3]⟩)))
    · exact .inr (.inr (.inl ⟨⟨h1, h2⟩, by simp [h1, h2]⟩))
  · exact .inr (.inl ⟨h1, by simp [h1]⟩)

abbrev cl47 (U : Int) (l : List Fl) (st : LSt) (r1 r2 r3 : AV) : XH := [some (.loop 47 0 [.pt 1 0, .pt 2 0, .pt 3 0, .pt 4 0] st), some (.blk true (.cells true [I U, .fs (l.map Fl.row)])), some (.blk true (.cells true [r1])), some (.blk true (.cells true [r2])), some (.blk true (.cells true [r3]))]
theorem y47 (U : Int) (l : List Fl) (us : List Int) (hn : l.length < 1000000) (hu : us.length < 1000000) (h : kd (exI (fun x => decide (x ∈ us)) (-1) l l.length) = none) :
    runYW progX (.fn (.yield 0) [] []) [rI us] (cl47 U l .ready .nilsl (I 0) (.bool false)) = some (.bool true, cl47 U l .ready .nilsl (I 0) (.bool false)) := by
  have e := w39A U l (-1) 70 (us.map fun v => [I v]) (fun x => decide (x ∈ us)) hn (fun u => w70 us u hu)
  rw [runYW_eq (K := 47) (d := x47) (site := 0) (vs := [.pt 1 0, .pt 2 0, .pt 3 0, .pt 4 0]) rfl rfl (by rfl) rfl]
  generalize exI (fun x => decide (x ∈ us)) (-1) l l.length = m at *
  rcases kd_cases m with ⟨⟨h1, h2, h3, h4⟩, _⟩ | ⟨_, h5⟩ | ⟨_, h5⟩ | ⟨_, h5⟩ | ⟨_, h5⟩
  · (sym => (simp [etaM, etaF, z00,z01,z02,z05,z06,z07,z09,z0b,z0c,z0o,z0p,z0s,z0x,z1j,z1n,z1o,z1r,z1u,z20,z21,z44,z46,z4f,z4l,z4m,z4o,z4q,z4t,z4y,z54,z59,z5e,z66,z67,z69,z6b,z6e,z6j,z8d,z8f,z9d,z9e,z9g,z9i,z9j,z9k,z9l,z9m,z9r,z9t,z9v,z9w,z9y,za0,za1,za2,za3,za5,za6,za7,za8,zaa,zab,zac,zae,zaf,zai,zak,zal,zao,zaq,zas,zat,zau,zba,zbc,zbd,zbf,zbg,zbk,zbv,zby,zca,zce,zcf,zcn,zco,zcp,zcq,zcr,zcs,zct,zcu,zcv,zd3,zdd,zdj,zdk,zdo,zds,zdt,zdu,zdv,zdw,zdx,ze9,zea,zed,zeg,zeh,zei,zem,zen,zf6,zf7,zfa,zfc,zfd,zfo,zfr,zfs,zft,zfu,zfy,zg0,zg1,zij,zik,zil,zim,zix,ziy,ziz,zj0, e, h1, h2, h3, h4]; all_goals tactic => exact rfl))
  all_goals (rw [h] at h5; simp at h5)
theorem y47s (U : Int) (l : List Fl) (us : List Int) (k : Int) (hn : l.length < 1000000) (hu : us.length < 1000000) (h : kd (exI (fun x => decide (x ∈ us)) (-1) l l.length) = some k) :
    runYW progX (.fn (.yield 0) [] []) [rI us] (cl47 U l .ready .nilsl (I 0) (.bool false)) = some (.bool false, cl47 U l (.done .ret) (rI us) (I k) (.bool true)) := by
  have e := w39A U l (-1) 70 (us.map fun v => [I v]) (fun x => decide (x ∈ us)) hn (fun u => w70 us u hu)
  rw [runYW_eq (K := 47) (d := x47) (site := 0) (vs := [.pt 1 0, .pt 2 0, .pt 3 0, .pt 4 0]) rfl rfl (by rfl) rfl]
  generalize exI (fun x => decide (x ∈ us)) (-1) l l.length = m at *
  unfold x47l0
  have h1 := pad
  have h2 := pad
  have h3 := pad
  have h4 := pad
  rcases kd_cases m with ⟨_, h5⟩ | ⟨h1, h5⟩ | ⟨⟨h1, h2⟩, h5⟩ | ⟨⟨h1, h2, h3⟩, h5⟩ | ⟨⟨h1, h2, h3, h4⟩, h5⟩
  · rw [h] at h5; simp at h5
  all_goals (rw [h] at h5; simp only [Option.some.injEq] at h5; subst h5)
  all_goals (sym => (simp [etaM, etaF, z00,z01,z02,z05,z06,z07,z09,z0b,z0c,z0n,z0o,z0p,z0s,z0v,z0x,z16,z1j,z1n,z1o,z1r,z1u,z20,z21,z2j,z2u,z2v,z36,z37,z38,z3g,z3i,z3k,z3m,z3p,z44,z46,z4f,z4h,z4l,z4m,z4o,z4q,z4t,z4y,z54,z55,z59,z5e,z66,z67,z69,z6b,z6e,z6j,z8a,z8b,z8d,z8f,z9d,z9e,z9g,z9i,z9j,z9k,z9l,z9m,z9p,z9r,z9s,z9t,z9v,z9w,z9y,za0,za1,za2,za3,za5,za6,za7,za8,za9,zaa,zab,zac,zae,zaf,zai,zak,zal,zao,zaq,zas,zat,zau,zba,zbc,zbd,zbf,zbg,zbk,zbv,zby,zca,zcb,zcc,zcd,zce,zcf,zcg,zcn,zco,zcp,zcq,zcr,zcs,zct,zcu,zcv,zcy,zd3,zd4,zd5,zd6,zd7,zdd,zdj,zdk,zdl,zdo,zds,zdt,zdu,zdv,zdw,zdx,ze9,zea,zed,zeg,zeh,zei,zem,zen,zf6,zf7,zfa,zfb,zfc,zfd,zfm,zfo,zfp,zfq,zfs,zft,zfv,zfw,zfx,zg0,zg1,zij,zik,zil,zim,zix,ziy,ziz,zj1, e, h1, h2, h3, h4, execW_loop]; all_goals tactic => exact rfl))
end Go.Proofs.Ytdbikamciedfdaa
namespace Go.Proofs.Ytdbikamciedfdaa
open Go Go.DL
set_option maxRecDepth 100000
set_option maxHeartbeats 1000000

/-- The clash of a head: its units, and the kind. -/
def clP (g : Int → Int) (U : Nat) (l : List Fl) (i : Nat) : Option (List Int × Int) := if g i = i then (kd (exI (fun x => decide (x ∈ usI g i U)) (-1) l l.length)).map fun k => (usI g i U, k) else none
/-- The first clash. -/
def clF (g : Int → Int) (U : Nat) (l : List Fl) : Nat → Option (List Int × Int)
  | 0 => none
  | i + 1 => match clF g U l i with
    | some r => some r
    | none => clP g U l i
theorem clF_none {g : Int → Int} {U : Nat} {l : List Fl} : ∀ {n : Nat}, (∀ i, i < n → clP g U l i = none) → clF g U l n = none
  | 0, _ => rfl
  | n + 1, h => by rw [clF, clF_none fun i hi => h i (by omega)]; exact h n (by omega)
theorem clF_some {g : Int → Int} {U : Nat} {l : List Fl} {r : List Int × Int} {n : Nat} (h : ∀ i, i < n → clP g U l i = none) (h2 : clP g U l n = some r) : ∀ m, n < m → clF g U l m = some r
  | 0, hm => by omega
  | m + 1, hm => by
    by_cases hc : n = m
    · rw [clF, ← hc, clF_none h]; exact h2
    · rw [clF, clF_some h h2 m (by omega)]
theorem cl_ix (g : Int → Int) (U : Nat) (l : List Fl) : ∃ n, n ≤ U ∧ (∀ i, i < n → clP g U l i = none) ∧ ((n = U ∧ clF g U l U = none) ∨ (∃ us k, n < U ∧ g n = n ∧ us = usI g n U ∧ kd (exI (fun x => decide (x ∈ us)) (-1) l l.length) = some k ∧ clF g U l U = some (us, k))) := by
  obtain ⟨n, h1, h2, h3⟩ := first_n (fun i => (clP g U l i).isSome) U
  have h2' : ∀ i, i < n → clP g U l i = none := fun i hi => by simpa using h2 i hi
  refine ⟨n, h1, h2', ?_⟩
  rcases h3 with h3 | ⟨h3, h4⟩
  · subst h3
    exact .inl ⟨rfl, clF_none h2'⟩
  · cases hc : clP g U l n with
    | none => simp [hc] at h4
    | some r =>
      have hr := clF_some h2' hc U h3
      unfold clP at hc
      by_cases hg : g n = n
      · rw [if_pos hg, Option.map_eq_some_iff] at hc
        obtain ⟨k, hk, rfl⟩ := hc
        exact .inr ⟨_, k, h3, hg, rfl, hk, hr⟩
      · rw [if_neg hg] at hc; simp at hc

def cl66 (U : Int) (l : List Fl) : Option (List Int × Int) → XH
  | none => cl47 U l .ready .nilsl (I 0) (.bool false) ++ [some (.blk true (.cells true [I U, .fs (l.map Fl.row)]))]
  | some r => cl47 U l (.done .ret) (rI r.1) (I r.2) (.bool true) ++ [some (.blk true (.cells true [I U, .fs (l.map Fl.row)]))]
theorem w66c (U : Nat) (l : List Fl) (es : List (Int × Int)) (g : Int → Int) (hU : U < 100000) (hn : l.length < 1000000) (h67 : runW progX 67 [plA U l, I (-1)] [] = some (.mp 0, [mapB es])) (hi : InvG U es g) :
    runW progX 66 [.fn (.yield 0) [] [], .pt 5 0] (cl66 U l none) = some (.tup [], cl66 U l (clF g U l U)) := by
  have e57 : ∀ x : Nat, x < U → runW progX 57 [.mp 0, I x] [mapB es] = some (I (g x), [mapB es]) := fun x h => w57h hi (by omega) (by omega)
  have ru : ∀ i, i < U → IntKind.i64.wrap ((i : Int) + 1) = (i : Int) + 1 ∧ ((i : Int) < (U : Int)) = True ∧ runW progX 57 [.mp 0, I i] [mapB es] = some (I (g i), [mapB es]) := fun i h => ⟨up_ix h (by omega), eq_true (by omega), e57 i h⟩
  have rv : ∀ (u : Int) v, v < U → ((g v = u) = True ∧ usI g u (v + 1) = usI g u v ++ [(v : Int)]) ∨ ((g v = u) = False ∧ usI g u (v + 1) = usI g u v) := by
    intro u v hv
    by_cases h : g v = u
    · exact .inl ⟨eq_true h, by rw [usI, if_pos h]⟩
    · exact .inr ⟨eq_false h, by rw [usI, if_neg h]⟩
  have rl : ∀ (u : Int) v a r, v < U → usI g u v = a :: r → ((r.length + 1 + 1) * 8 ≤ 1099511627776) = True ∧ (r.length + 1 + 1 ≤ 1099511627776) = True := by
    intro u v a r hv h
    have := usI_len g u v
    rw [h, List.length_cons] at this
    exact ⟨eq_true (by omega), eq_true (by omega)⟩
  have u0 : ∀ u, usI g u 0 = [] := fun _ => rfl
  have uc : ∀ i : Nat, i < U → g i = i → ∃ a r, usI g i U = a :: r := by
    intro i h h2
    have hm : (i : Int) ∈ usI g i U := (usI_mem g i U i).2 ⟨by omega, by omega, h2⟩
    cases hu : usI g i U with
    | nil => rw [hu] at hm; simp at hm
    | cons a r => exact ⟨a, r, rfl⟩
  have ul : ∀ i, (usI g i U).length < 1000000 := fun i => by have := usI_len g i U; omega
  obtain ⟨n, hn1, hn2, hn3⟩ := cl_ix g U l
  have ry : ∀ i, i < n → g i = i → ∃ a r, usI g i U = a :: r ∧ runYW progX (.fn (.yield 0) [] []) [.fs ([I a] :: r.map fun v => [I v])] (cl47 U l .ready .nilsl (I 0) (.bool false)) = some (.bool true, cl47 U l .ready .nilsl (I 0) (.bool false)) := by
    intro i h h2
    obtain ⟨a, r, hu⟩ := uc i (by omega) h2
    have hk := hn2 i h
    rw [clP, if_pos h2, Option.map_eq_none_iff] at hk
    have y := y47 U l (usI g i U) hn (ul i) hk
    rw [hu] at y
    exact ⟨a, r, hu, y⟩
  have rs : n < U → ∀ us k, g n = n → us = usI g n U → kd (exI (fun x => decide (x ∈ us)) (-1) l l.length) = some k → ∃ a r, us = a :: r ∧ runYW progX (.fn (.yield 0) [] []) [.fs ([I a] :: r.map fun v => [I v])] (cl47 U l .ready .nilsl (I 0) (.bool false)) = some (.bool false, cl47 U l (.done .ret) (rI us) (I k) (.bool true)) := by
    intro h us k h2 hus hk
    obtain ⟨a, r, hu⟩ := uc n h h2
    have y := y47s U l us k hn (by rw [hus]; exact ul n) hk
    rw [hu] at hus
    refine ⟨a, r, hus, ?_⟩
    subst hus
    exact y
  -- a round's inner loop
  have inner : ∀ (i : Nat) (e : Env) (h : XH), i < U → headX 6 [0, 1, 3, 4, 5, 10, 11, 20, 21] (some (.normal, e, h)) = some ([.fn (.yield 0) [] [], .pt 5 0, .mp 6, I i, .nilsl, I U, I (i : Nat), I U, I 0], cl66 U l none ++ [mapB es]) →
      execW progX 66 6 none x66l0 e h = execW progX 66 6 none (match x66l0 with | .loop _ a => a | c => c) (envL [0, 1, 3, 4, 5, 10, 11, 20, 21] [.fn (.yield 0) [] [], .pt 5 0, .mp 6, I i, oS 7 (usI g i U), I U, I (i : Nat), I U, I U]) (cl66 U l none ++ [mapB es] ++ oG (usI g i U)) := by
    intro i e h hiU h0
    unfold x66l0
    rw [loop_rule U (fun v => [.fn (.yield 0) [] [], .pt 5 0, .mp 6, I i, oS 7 (usI g i v), I U, I (i : Nat), I U, I (v : Nat)]) (fun v => cl66 U l none ++ [mapB es] ++ oG (usI g i v))]
    · rw [h0]; rfl
    · intro v hv
      obtain ⟨m0, m1, m2⟩ := ru v hv
      unfold cl66
      have m5 := pad
      have m6 := pad
      rcases hu : usI g i v with _ | ⟨a, r⟩
      rotate_left
      obtain ⟨m5, m6⟩ := rl i v a r hv hu
      all_goals (rcases rv i v hv with ⟨m3, m4⟩ | ⟨m3, m4⟩ <;> rw [m4, hu])
      all_goals (sym => (simp [etaM, etaF, z00,z01,z03,z04,z05,z06,z07,z09,z0b,z0c,z0f,z0n,z0t,z0v,z0z,z12,z1j,z1r,z1u,z1z,z20,z21,z26,z29,z2j,z2t,z2u,z2v,z3h,z4l,z4o,z4p,z4q,z4s,z4t,z4u,z4v,z4z,z54,z66,z67,z69,z6a,z6b,z6d,z6e,z6f,z6g,z6k,z6t,z6w,z6y,z78,z7f,z7g,z7h,z7m,z7v,z7z,z85,z8a,z9d,z9e,z9g,z9i,z9j,z9k,z9l,z9m,z9n,z9p,z9r,z9s,z9t,z9v,z9w,z9x,z9y,za0,za1,za2,za3,za5,za6,za7,za8,za9,zaa,zab,zac,zae,zaf,zai,zak,zal,zao,zaq,zas,zat,zau,zb4,zb5,zb9,zba,zbb,zbc,zbd,zbe,zbf,zbg,zbk,zbm,zbp,zbq,zbs,zbt,zbu,zbw,zbx,zby,zbz,zc1,zc3,zc8,zca,zcc,zcd,zce,zcf,zcg,zch,zci,zcj,zcn,zco,zcp,zcq,zcr,zcs,zct,zcu,zcv,zcw,zcy,zd3,zd6,zd7,zdd,zdj,zdk,zdl,zdm,zdn,zdo,zds,zdt,zdu,zdv,zdw,zdx,zdy,ze2,ze3,ze9,zea,zeb,zec,zeq,zer,zes,zet,zez,zf0,zf1,zf2,zf3,zf4,zf5,zf6,zf7,zfa,zfb,zfg,zfh,zfi,zfj,zfl,zfm,zfo,zfp,zfq,zfr,zfs,zft,zfu,zfv,zfw,zfx,zfy,zfz,zg0,zg1,zhb,zhc,zhd,zhe,zhg,zhp,zi8,zi9,zia,zib,zic,ziw, m0, m1, m2, m3, m5, m6]; all_goals tactic => exact rfl))
    · unfold cl66
      rcases hu : usI g i U with _ | ⟨a, r⟩ <;> (sym => (simp [etaM, etaF, z00,z01,z03,z04,z05,z06,z07,z09,z0b,z0c,z0f,z0n,z0t,z0v,z0z,z12,z1j,z1r,z1u,z1z,z20,z21,z26,z29,z2j,z2t,z2u,z2v,z3h,z4l,z4o,z4p,z4q,z4s,z4t,z4u,z4v,z4z,z54,z66,z67,z69,z6a,z6b,z6d,z6e,z6f,z6g,z6k,z6t,z6w,z6y,z78,z7f,z7g,z7h,z7m,z7v,z7z,z85,z8a,z9d,z9e,z9g,z9i,z9j,z9k,z9l,z9m,z9n,z9p,z9r,z9s,z9t,z9v,z9w,z9x,z9y,za0,za1,za2,za3,za5,za6,za7,za8,za9,zaa,zab,zac,zae,zaf,zai,zak,zal,zao,zaq,zas,zat,zau,zb4,zb5,zb9,zba,zbb,zbc,zbd,zbe,zbf,zbg,zbk,zbm,zbp,zbq,zbs,zbt,zbu,zbw,zbx,zby,zbz,zc1,zc3,zc8,zca,zcc,zcd,zce,zcf,zcg,zch,zci,zcj,zcn,zco,zcp,zcq,zcr,zcs,zct,zcu,zcv,zcw,zcy,zd3,zd6,zd7,zdd,zdj,zdk,zdl,zdm,zdn,zdo,zds,zdt,zdu,zdv,zdw,zdx,zdy,ze2,ze3,ze9,zea,zeb,zec,zeq,zer,zes,zet,zez,zf0,zf1,zf2,zf3,zf4,zf5,zf6,zf7,zfa,zfb,zfg,zfh,zfi,zfj,zfl,zfm,zfo,zfp,zfq,zfr,zfs,zft,zfu,zfv,zfw,zfx,zfy,zfz,zg0,zg1,zhb,zhc,zhd,zhe,zhg,zhp,zi8,zi9,zia,zib,zic,ziw]; all_goals tactic => exact rfl))
  have g0 := pad
  have g1 := pad
  have g2 := pad
  have g3 := pad
  have g4 := pad
  have e0 : cl66 (U : Int) l none = cl47 U l .ready .nilsl (I 0) (.bool false) ++ [some (.blk true (.cells true [I U, .fs (l.map Fl.row)]))] := rfl
  rw [show clF g U l U = clF g U l U from rfl]
  rw [e0]
  rw [r66 (by simp)]; unfold x66; dsimp only
  sym =>
    simp [etaM, etaF, z00,z01,z03,z04,z05,z06,z07,z09,z0b,z0c,z0f,z0n,z0t,z0v,z0z,z12,z1j,z1r,z1u,z1z,z20,z21,z26,z29,z2j,z2t,z2u,z2v,z3h,z4l,z4o,z4p,z4q,z4s,z4t,z4u,z4v,z4z,z54,z66,z67,z69,z6a,z6b,z6d,z6e,z6f,z6g,z6k,z6t,z6w,z6y,z78,z7f,z7g,z7h,z7m,z7v,z7z,z85,z8a,z9d,z9e,z9g,z9i,z9j,z9k,z9l,z9m,z9n,z9p,z9r,z9s,z9t,z9v,z9w,z9x,z9y,za0,za1,za2,za3,za5,za6,za7,za8,za9,zaa,zab,zac,zae,zaf,zai,zak,zal,zao,zaq,zas,zat,zau,zb4,zb5,zb9,zba,zbb,zbc,zbd,zbe,zbf,zbg,zbk,zbm,zbp,zbq,zbs,zbt,zbu,zbw,zbx,zby,zbz,zc1,zc3,zc8,zca,zcc,zcd,zce,zcf,zcg,zch,zci,zcj,zcn,zco,zcp,zcq,zcr,zcs,zct,zcu,zcv,zcw,zcy,zd3,zd6,zd7,zdd,zdj,zdk,zdl,zdm,zdn,zdo,zds,zdt,zdu,zdv,zdw,zdx,zdy,ze2,ze3,ze9,zea,zeb,zec,zeq,zer,zes,zet,zez,zf0,zf1,zf2,zf3,zf4,zf5,zf6,zf7,zfa,zfb,zfg,zfh,zfi,zfj,zfl,zfm,zfo,zfp,zfq,zfr,zfs,zft,zfu,zfv,zfw,zfx,zfy,zfz,zg0,zg1,zhb,zhc,zhd,zhe,zhg,zhp,zi8,zi9,zia,zib,zic,ziw, h67]
    tactic =>
      unfold x66l1
      rw [loop_rule n (fun i => [.fn (.yield 0) [] [], .pt 5 0, .mp 6, I U, I (i : Nat)]) (fun i => cl66 U l none ++ [mapB es])]
      · -- the last round
        rcases hn3 with ⟨h3, h4⟩ | ⟨us, k, h3, h4, h5, h6, h7⟩
        · have g1 : ((n : Int) < (U : Int)) = False := eq_false (by omega)
          rw [h4]
          unfold cl66
          (sym => (simp [etaM, etaF, z00,z01,z03,z04,z05,z06,z07,z09,z0b,z0c,z0f,z0n,z0t,z0v,z0z,z12,z1j,z1r,z1u,z1z,z20,z21,z26,z29,z2j,z2t,z2u,z2v,z3h,z4l,z4o,z4p,z4q,z4s,z4t,z4u,z4v,z4z,z54,z66,z67,z69,z6a,z6b,z6d,z6e,z6f,z6g,z6k,z6t,z6w,z6y,z78,z7f,z7g,z7h,z7m,z7v,z7z,z85,z8a,z9d,z9e,z9g,z9i,z9j,z9k,z9l,z9m,z9n,z9p,z9r,z9s,z9t,z9v,z9w,z9x,z9y,za0,za1,za2,za3,za5,za6,za7,za8,za9,zaa,zab,zac,zae,zaf,zai,zak,zal,zao,zaq,zas,zat,zau,zb4,zb5,zb9,zba,zbb,zbc,zbd,zbe,zbf,zbg,zbk,zbm,zbp,zbq,zbs,zbt,zbu,zbw,zbx,zby,zbz,zc1,zc3,zc8,zca,zcc,zcd,zce,zcf,zcg,zch,zci,zcj,zcn,zco,zcp,zcq,zcr,zcs,zct,zcu,zcv,zcw,zcy,zd3,zd6,zd7,zdd,zdj,zdk,zdl,zdm,zdn,zdo,zds,zdt,zdu,zdv,zdw,zdx,zdy,ze2,ze3,ze9,zea,zeb,zec,zeq,zer,zes,zet,zez,zf0,zf1,zf2,zf3,zf4,zf5,zf6,zf7,zfa,zfb,zfg,zfh,zfi,zfj,zfl,zfm,zfo,zfp,zfq,zfr,zfs,zft,zfu,zfv,zfw,zfx,zfy,zfz,zg0,zg1,zhb,zhc,zhd,zhe,zhg,zhp,zi8,zi9,zia,zib,zic,ziw, g1]; all_goals tactic => exact rfl))
        · obtain ⟨a, r, hu, y⟩ := rs h3 us k h4 h5 h6
          rw [h7]
          obtain ⟨g0, g1, g2⟩ := ru n h3
          have g3 := eq_true h4
          have e1 : cl66 (U : Int) l (some (us, k)) = cl47 U l (.done .ret) (rI us) (I k) (.bool true) ++ [some (.blk true (.cells true [I U, .fs (l.map Fl.row)]))] := rfl
          rw [e1, e0]
          subst hu
          sym =>
            simp [etaM, etaF, z00,z01,z03,z04,z05,z06,z07,z09,z0b,z0c,z0f,z0n,z0t,z0v,z0z,z12,z1j,z1r,z1u,z1z,z20,z21,z26,z29,z2j,z2t,z2u,z2v,z3h,z4l,z4o,z4p,z4q,z4s,z4t,z4u,z4v,z4z,z54,z66,z67,z69,z6a,z6b,z6d,z6e,z6f,z6g,z6k,z6t,z6w,z6y,z78,z7f,z7g,z7h,z7m,z7v,z7z,z85,z8a,z9d,z9e,z9g,z9i,z9j,z9k,z9l,z9m,z9n,z9p,z9r,z9s,z9t,z9v,z9w,z9x,z9y,za0,za1,za2,za3,za5,za6,za7,za8,za9,zaa,zab,zac,zae,zaf,zai,zak,zal,zao,zaq,zas,zat,zau,zb4,zb5,zb9,zba,zbb,zbc,zbd,zbe,zbf,zbg,zbk,zbm,zbp,zbq,zbs,zbt,zbu,zbw,zbx,zby,zbz,zc1,zc3,zc8,zca,zcc,zcd,zce,zcf,zcg,zch,zci,zcj,zcn,zco,zcp,zcq,zcr,zcs,zct,zcu,zcv,zcw,zcy,zd3,zd6,zd7,zdd,zdj,zdk,zdl,zdm,zdn,zdo,zds,zdt,zdu,zdv,zdw,zdx,zdy,ze2,ze3,ze9,zea,zeb,zec,zeq,zer,zes,zet,zez,zf0,zf1,zf2,zf3,zf4,zf5,zf6,zf7,zfa,zfb,zfg,zfh,zfi,zfj,zfl,zfm,zfo,zfp,zfq,zfr,zfs,zft,zfu,zfv,zfw,zfx,zfy,zfz,zg0,zg1,zhb,zhc,zhd,zhe,zhg,zhp,zi8,zi9,zia,zib,zic,ziw, g1, g2, g3]
            tactic =>
              rw [inner n _ _ h3 (by rw [e0]; (sym => (simp [etaM, etaF, z00,z01,z03,z04,z05,z06,z07,z09,z0b,z0c,z0f,z0n,z0t,z0v,z0z,z12,z1j,z1r,z1u,z1z,z20,z21,z26,z29,z2j,z2t,z2u,z2v,z3h,z4l,z4o,z4p,z4q,z4s,z4t,z4u,z4v,z4z,z54,z66,z67,z69,z6a,z6b,z6d,z6e,z6f,z6g,z6k,z6t,z6w,z6y,z78,z7f,z7g,z7h,z7m,z7v,z7z,z85,z8a,z9d,z9e,z9g,z9i,z9j,z9k,z9l,z9m,z9n,z9p,z9r,z9s,z9t,z9v,z9w,z9x,z9y,za0,za1,za2,za3,za5,za6,za7,za8,za9,zaa,zab,zac,zae,zaf,zai,zak,zal,zao,zaq,zas,zat,zau,zb4,zb5,zb9,zba,zbb,zbc,zbd,zbe,zbf,zbg,zbk,zbm,zbp,zbq,zbs,zbt,zbu,zbw,zbx,zby,zbz,zc1,zc3,zc8,zca,zcc,zcd,zce,zcf,zcg,zch,zci,zcj,zcn,zco,zcp,zcq,zcr,zcs,zct,zcu,zcv,zcw,zcy,zd3,zd6,zd7,zdd,zdj,zdk,zdl,zdm,zdn,zdo,zds,zdt,zdu,zdv,zdw,zdx,zdy,ze2,ze3,ze9,zea,zeb,zec,zeq,zer,zes,zet,zez,zf0,zf1,zf2,zf3,zf4,zf5,zf6,zf7,zfa,zfb,zfg,zfh,zfi,zfj,zfl,zfm,zfo,zfp,zfq,zfr,zfs,zft,zfu,zfv,zfw,zfx,zfy,zfz,zg0,zg1,zhb,zhc,zhd,zhe,zhg,zhp,zi8,zi9,zia,zib,zic,ziw]; all_goals tactic => exact rfl)))]
              rw [← h5, e0]
              unfold x66l0
              dsimp only
              have f1 := zf5 (n := (U : Int))
              (sym => (simp [etaM, etaF, z00,z01,z03,z04,z05,z06,z07,z09,z0b,z0c,z0f,z0n,z0t,z0v,z0z,z12,z1j,z1r,z1u,z1z,z20,z21,z26,z29,z2j,z2t,z2u,z2v,z3h,z4l,z4o,z4p,z4q,z4s,z4t,z4u,z4v,z4z,z54,z66,z67,z69,z6a,z6b,z6d,z6e,z6f,z6g,z6k,z6t,z6w,z6y,z78,z7f,z7g,z7h,z7m,z7v,z7z,z85,z8a,z9d,z9e,z9g,z9i,z9j,z9k,z9l,z9m,z9n,z9p,z9r,z9s,z9t,z9v,z9w,z9x,z9y,za0,za1,za2,za3,za5,za6,za7,za8,za9,zaa,zab,zac,zae,zaf,zai,zak,zal,zao,zaq,zas,zat,zau,zb4,zb5,zb9,zba,zbb,zbc,zbd,zbe,zbf,zbg,zbk,zbm,zbp,zbq,zbs,zbt,zbu,zbw,zbx,zby,zbz,zc1,zc3,zc8,zca,zcc,zcd,zce,zcf,zcg,zch,zci,zcj,zcn,zco,zcp,zcq,zcr,zcs,zct,zcu,zcv,zcw,zcy,zd3,zd6,zd7,zdd,zdj,zdk,zdl,zdm,zdn,zdo,zds,zdt,zdu,zdv,zdw,zdx,zdy,ze2,ze3,ze9,zea,zeb,zec,zeq,zer,zes,zet,zez,zf0,zf1,zf2,zf3,zf4,zf5,zf6,zf7,zfa,zfb,zfg,zfh,zfi,zfj,zfl,zfm,zfo,zfp,zfq,zfr,zfs,zft,zfu,zfv,zfw,zfx,zfy,zfz,zg0,zg1,zhb,zhc,zhd,zhe,zhg,zhp,zi8,zi9,zia,zib,zic,ziw, f1, y]; all_goals tactic => exact rfl))
      · rw [e0]
        (sym => (simp [etaM, etaF, z00,z01,z03,z04,z05,z06,z07,z09,z0b,z0c,z0f,z0n,z0t,z0v,z0z,z12,z1j,z1r,z1u,z1z,z20,z21,z26,z29,z2j,z2t,z2u,z2v,z3h,z4l,z4o,z4p,z4q,z4s,z4t,z4u,z4v,z4z,z54,z66,z67,z69,z6a,z6b,z6d,z6e,z6f,z6g,z6k,z6t,z6w,z6y,z78,z7f,z7g,z7h,z7m,z7v,z7z,z85,z8a,z9d,z9e,z9g,z9i,z9j,z9k,z9l,z9m,z9n,z9p,z9r,z9s,z9t,z9v,z9w,z9x,z9y,za0,za1,za2,za3,za5,za6,za7,za8,za9,zaa,zab,zac,zae,zaf,zai,zak,zal,zao,zaq,zas,zat,zau,zb4,zb5,zb9,zba,zbb,zbc,zbd,zbe,zbf,zbg,zbk,zbm,zbp,zbq,zbs,zbt,zbu,zbw,zbx,zby,zbz,zc1,zc3,zc8,zca,zcc,zcd,zce,zcf,zcg,zch,zci,zcj,zcn,zco,zcp,zcq,zcr,zcs,zct,zcu,zcv,zcw,zcy,zd3,zd6,zd7,zdd,zdj,zdk,zdl,zdm,zdn,zdo,zds,zdt,zdu,zdv,zdw,zdx,zdy,ze2,ze3,ze9,zea,zeb,zec,zeq,zer,zes,zet,zez,zf0,zf1,zf2,zf3,zf4,zf5,zf6,zf7,zfa,zfb,zfg,zfh,zfi,zfj,zfl,zfm,zfo,zfp,zfq,zfr,zfs,zft,zfu,zfv,zfw,zfx,zfy,zfz,zg0,zg1,zhb,zhc,zhd,zhe,zhg,zhp,zi8,zi9,zia,zib,zic,ziw]; all_goals tactic => exact rfl))
      · intro i hi
        obtain ⟨g0, g1, g2⟩ := ru i (by omega)
        by_cases hg : g i = i
        · have g3 := eq_true hg
          obtain ⟨a, r, k1, k2⟩ := ry i hi hg
          rw [e0]
          sym =>
            simp [etaM, etaF, z00,z01,z03,z04,z05,z06,z07,z09,z0b,z0c,z0f,z0n,z0t,z0v,z0z,z12,z1j,z1r,z1u,z1z,z20,z21,z26,z29,z2j,z2t,z2u,z2v,z3h,z4l,z4o,z4p,z4q,z4s,z4t,z4u,z4v,z4z,z54,z66,z67,z69,z6a,z6b,z6d,z6e,z6f,z6g,z6k,z6t,z6w,z6y,z78,z7f,z7g,z7h,z7m,z7v,z7z,z85,z8a,z9d,z9e,z9g,z9i,z9j,z9k,z9l,z9m,z9n,z9p,z9r,z9s,z9t,z9v,z9w,z9x,z9y,za0,za1,za2,za3,za5,za6,za7,za8,za9,zaa,zab,zac,zae,zaf,zai,zak,zal,zao,zaq,zas,zat,zau,zb4,zb5,zb9,zba,zbb,zbc,zbd,zbe,zbf,zbg,zbk,zbm,zbp,zbq,zbs,zbt,zbu,zbw,zbx,zby,zbz,zc1,zc3,zc8,zca,zcc,zcd,zce,zcf,zcg,zch,zci,zcj,zcn,zco,zcp,zcq,zcr,zcs,zct,zcu,zcv,zcw,zcy,zd3,zd6,zd7,zdd,zdj,zdk,zdl,zdm,zdn,zdo,zds,zdt,zdu,zdv,zdw,zdx,zdy,ze2,ze3,ze9,zea,zeb,zec,zeq,zer,zes,zet,zez,zf0,zf1,zf2,zf3,zf4,zf5,zf6,zf7,zfa,zfb,zfg,zfh,zfi,zfj,zfl,zfm,zfo,zfp,zfq,zfr,zfs,zft,zfu,zfv,zfw,zfx,zfy,zfz,zg0,zg1,zhb,zhc,zhd,zhe,zhg,zhp,zi8,zi9,zia,zib,zic,ziw, g0, g1, g2, g3]
            tactic =>
              rw [inner i _ _ (by omega) (by rw [e0]; (sym => (simp [etaM, etaF, z00,z01,z03,z04,z05,z06,z07,z09,z0b,z0c,z0f,z0n,z0t,z0v,z0z,z12,z1j,z1r,z1u,z1z,z20,z21,z26,z29,z2j,z2t,z2u,z2v,z3h,z4l,z4o,z4p,z4q,z4s,z4t,z4u,z4v,z4z,z54,z66,z67,z69,z6a,z6b,z6d,z6e,z6f,z6g,z6k,z6t,z6w,z6y,z78,z7f,z7g,z7h,z7m,z7v,z7z,z85,z8a,z9d,z9e,z9g,z9i,z9j,z9k,z9l,z9m,z9n,z9p,z9r,z9s,z9t,z9v,z9w,z9x,z9y,za0,za1,za2,za3,za5,za6,za7,za8,za9,zaa,zab,zac,zae,zaf,zai,zak,zal,zao,zaq,zas,zat,zau,zb4,zb5,zb9,zba,zbb,zbc,zbd,zbe,zbf,zbg,zbk,zbm,zbp,zbq,zbs,zbt,zbu,zbw,zbx,zby,zbz,zc1,zc3,zc8,zca,zcc,zcd,zce,zcf,zcg,zch,zci,zcj,zcn,zco,zcp,zcq,zcr,zcs,zct,zcu,zcv,zcw,zcy,zd3,zd6,zd7,zdd,zdj,zdk,zdl,zdm,zdn,zdo,zds,zdt,zdu,zdv,zdw,zdx,zdy,ze2,ze3,ze9,zea,zeb,zec,zeq,zer,zes,zet,zez,zf0,zf1,zf2,zf3,zf4,zf5,zf6,zf7,zfa,zfb,zfg,zfh,zfi,zfj,zfl,zfm,zfo,zfp,zfq,zfr,zfs,zft,zfu,zfv,zfw,zfx,zfy,zfz,zg0,zg1,zhb,zhc,zhd,zhe,zhg,zhp,zi8,zi9,zia,zib,zic,ziw]; all_goals tactic => exact rfl)))]
              rw [k1, e0]
              unfold x66l0
              dsimp only
              have f1 := zf5 (n := (U : Int))
              (sym => (simp [etaM, etaF, z00,z01,z03,z04,z05,z06,z07,z09,z0b,z0c,z0f,z0n,z0t,z0v,z0z,z12,z1j,z1r,z1u,z1z,z20,z21,z26,z29,z2j,z2t,z2u,z2v,z3h,z4l,z4o,z4p,z4q,z4s,z4t,z4u,z4v,z4z,z54,z66,z67,z69,z6a,z6b,z6d,z6e,z6f,z6g,z6k,z6t,z6w,z6y,z78,z7f,z7g,z7h,z7m,z7v,z7z,z85,z8a,z9d,z9e,z9g,z9i,z9j,z9k,z9l,z9m,z9n,z9p,z9r,z9s,z9t,z9v,z9w,z9x,z9y,za0,za1,za2,za3,za5,za6,za7,za8,za9,zaa,zab,zac,zae,zaf,zai,zak,zal,zao,zaq,zas,zat,zau,zb4,zb5,zb9,zba,zbb,zbc,zbd,zbe,zbf,zbg,zbk,zbm,zbp,zbq,zbs,zbt,zbu,zbw,zbx,zby,zbz,zc1,zc3,zc8,zca,zcc,zcd,zce,zcf,zcg,zch,zci,zcj,zcn,zco,zcp,zcq,zcr,zcs,zct,zcu,zcv,zcw,zcy,zd3,zd6,zd7,zdd,zdj,zdk,zdl,zdm,zdn,zdo,zds,zdt,zdu,zdv,zdw,zdx,zdy,ze2,ze3,ze9,zea,zeb,zec,zeq,zer,zes,zet,zez,zf0,zf1,zf2,zf3,zf4,zf5,zf6,zf7,zfa,zfb,zfg,zfh,zfi,zfj,zfl,zfm,zfo,zfp,zfq,zfr,zfs,zft,zfu,zfv,zfw,zfx,zfy,zfz,zg0,zg1,zhb,zhc,zhd,zhe,zhg,zhp,zi8,zi9,zia,zib,zic,ziw, f1, k2, g0]; all_goals tactic => exact rfl))
        · have g3 := eq_false hg
          rw [e0]
          (sym => (simp [etaM, etaF, z00,z01,z03,z04,z05,z06,z07,z09,z0b,z0c,z0f,z0n,z0t,z0v,z0z,z12,z1j,z1r,z1u,z1z,z20,z21,z26,z29,z2j,z2t,z2u,z2v,z3h,z4l,z4o,z4p,z4q,z4s,z4t,z4u,z4v,z4z,z54,z66,z67,z69,z6a,z6b,z6d,z6e,z6f,z6g,z6k,z6t,z6w,z6y,z78,z7f,z7g,z7h,z7m,z7v,z7z,z85,z8a,z9d,z9e,z9g,z9i,z9j,z9k,z9l,z9m,z9n,z9p,z9r,z9s,z9t,z9v,z9w,z9x,z9y,za0,za1,za2,za3,za5,za6,za7,za8,za9,zaa,zab,zac,zae,zaf,zai,zak,zal,zao,zaq,zas,zat,zau,zb4,zb5,zb9,zba,zbb,zbc,zbd,zbe,zbf,zbg,zbk,zbm,zbp,zbq,zbs,zbt,zbu,zbw,zbx,zby,zbz,zc1,zc3,zc8,zca,zcc,zcd,zce,zcf,zcg,zch,zci,zcj,zcn,zco,zcp,zcq,zcr,zcs,zct,zcu,zcv,zcw,zcy,zd3,zd6,zd7,zdd,zdj,zdk,zdl,zdm,zdn,zdo,zds,zdt,zdu,zdv,zdw,zdx,zdy,ze2,ze3,ze9,zea,zeb,zec,zeq,zer,zes,zet,zez,zf0,zf1,zf2,zf3,zf4,zf5,zf6,zf7,zfa,zfb,zfg,zfh,zfi,zfj,zfl,zfm,zfo,zfp,zfq,zfr,zfs,zft,zfu,zfv,zfw,zfx,zfy,zfz,zg0,zg1,zhb,zhc,zhd,zhe,zhg,zhp,zi8,zi9,zia,zib,zic,ziw, g0, g1, g2, g3]; all_goals tactic => exact rfl))
      · rcases hn3 with ⟨h3, h4⟩ | ⟨us, k, h3, h4, h5, h6, h7⟩
        · have g1 : ((n : Int) < (U : Int)) = False := eq_false (by omega)
          rw [e0]
          (sym => (simp [etaM, etaF, z00,z01,z03,z04,z05,z06,z07,z09,z0b,z0c,z0f,z0n,z0t,z0v,z0z,z12,z1j,z1r,z1u,z1z,z20,z21,z26,z29,z2j,z2t,z2u,z2v,z3h,z4l,z4o,z4p,z4q,z4s,z4t,z4u,z4v,z4z,z54,z66,z67,z69,z6a,z6b,z6d,z6e,z6f,z6g,z6k,z6t,z6w,z6y,z78,z7f,z7g,z7h,z7m,z7v,z7z,z85,z8a,z9d,z9e,z9g,z9i,z9j,z9k,z9l,z9m,z9n,z9p,z9r,z9s,z9t,z9v,z9w,z9x,z9y,za0,za1,za2,za3,za5,za6,za7,za8,za9,zaa,zab,zac,zae,zaf,zai,zak,zal,zao,zaq,zas,zat,zau,zb4,zb5,zb9,zba,zbb,zbc,zbd,zbe,zbf,zbg,zbk,zbm,zbp,zbq,zbs,zbt,zbu,zbw,zbx,zby,zbz,zc1,zc3,zc8,zca,zcc,zcd,zce,zcf,zcg,zch,zci,zcj,zcn,zco,zcp,zcq,zcr,zcs,zct,zcu,zcv,zcw,zcy,zd3,zd6,zd7,zdd,zdj,zdk,zdl,zdm,zdn,zdo,zds,zdt,zdu,zdv,zdw,zdx,zdy,ze2,ze3,ze9,zea,zeb,zec,zeq,zer,zes,zet,zez,zf0,zf1,zf2,zf3,zf4,zf5,zf6,zf7,zfa,zfb,zfg,zfh,zfi,zfj,zfl,zfm,zfo,zfp,zfq,zfr,zfs,zft,zfu,zfv,zfw,zfx,zfy,zfz,zg0,zg1,zhb,zhc,zhd,zhe,zhg,zhp,zi8,zi9,zia,zib,zic,ziw, g1]; all_goals tactic => exact rfl))
        · obtain ⟨a, r, hu, y⟩ := rs h3 us k h4 h5 h6
          obtain ⟨g0, g1, g2⟩ := ru n h3
          have g3 := eq_true h4
          rw [e0]
          subst hu
          sym =>
            simp [etaM, etaF, z00,z01,z03,z04,z05,z06,z07,z09,z0b,z0c,z0f,z0n,z0t,z0v,z0z,z12,z1j,z1r,z1u,z1z,z20,z21,z26,z29,z2j,z2t,z2u,z2v,z3h,z4l,z4o,z4p,z4q,z4s,z4t,z4u,z4v,z4z,z54,z66,z67,z69,z6a,z6b,z6d,z6e,z6f,z6g,z6k,z6t,z6w,z6y,z78,z7f,z7g,z7h,z7m,z7v,z7z,z85,z8a,z9d,z9e,z9g,z9i,z9j,z9k,z9l,z9m,z9n,z9p,z9r,z9s,z9t,z9v,z9w,z9x,z9y,za0,za1,za2,za3,za5,za6,za7,za8,za9,zaa,zab,zac,zae,zaf,zai,zak,zal,zao,zaq,zas,zat,zau,zb4,zb5,zb9,zba,zbb,zbc,zbd,zbe,zbf,zbg,zbk,zbm,zbp,zbq,zbs,zbt,zbu,zbw,zbx,zby,zbz,zc1,zc3,zc8,zca,zcc,zcd,zce,zcf,zcg,zch,zci,zcj,zcn,zco,zcp,zcq,zcr,zcs,zct,zcu,zcv,zcw,zcy,zd3,zd6,zd7,zdd,zdj,zdk,zdl,zdm,zdn,zdo,zds,zdt,zdu,zdv,zdw,zdx,zdy,ze2,ze3,ze9,zea,zeb,zec,zeq,zer,zes,zet,zez,zf0,zf1,zf2,zf3,zf4,zf5,zf6,zf7,zfa,zfb,zfg,zfh,zfi,zfj,zfl,zfm,zfo,zfp,zfq,zfr,zfs,zft,zfu,zfv,zfw,zfx,zfy,zfz,zg0,zg1,zhb,zhc,zhd,zhe,zhg,zhp,zi8,zi9,zia,zib,zic,ziw, g1, g2, g3]
            tactic =>
              rw [inner n _ _ h3 (by rw [e0]; (sym => (simp [etaM, etaF, z00,z01,z03,z04,z05,z06,z07,z09,z0b,z0c,z0f,z0n,z0t,z0v,z0z,z12,z1j,z1r,z1u,z1z,z20,z21,z26,z29,z2j,z2t,z2u,z2v,z3h,z4l,z4o,z4p,z4q,z4s,z4t,z4u,z4v,z4z,z54,z66,z67,z69,z6a,z6b,z6d,z6e,z6f,z6g,z6k,z6t,z6w,z6y,z78,z7f,z7g,z7h,z7m,z7v,z7z,z85,z8a,z9d,z9e,z9g,z9i,z9j,z9k,z9l,z9m,z9n,z9p,z9r,z9s,z9t,z9v,z9w,z9x,z9y,za0,za1,za2,za3,za5,za6,za7,za8,za9,zaa,zab,zac,zae,zaf,zai,zak,zal,zao,zaq,zas,zat,zau,zb4,zb5,zb9,zba,zbb,zbc,zbd,zbe,zbf,zbg,zbk,zbm,zbp,zbq,zbs,zbt,zbu,zbw,zbx,zby,zbz,zc1,zc3,zc8,zca,zcc,zcd,zce,zcf,zcg,zch,zci,zcj,zcn,zco,zcp,zcq,zcr,zcs,zct,zcu,zcv,zcw,zcy,zd3,zd6,zd7,zdd,zdj,zdk,zdl,zdm,zdn,zdo,zds,zdt,zdu,zdv,zdw,zdx,zdy,ze2,ze3,ze9,zea,zeb,zec,zeq,zer,zes,zet,zez,zf0,zf1,zf2,zf3,zf4,zf5,zf6,zf7,zfa,zfb,zfg,zfh,zfi,zfj,zfl,zfm,zfo,zfp,zfq,zfr,zfs,zft,zfu,zfv,zfw,zfx,zfy,zfz,zg0,zg1,zhb,zhc,zhd,zhe,zhg,zhp,zi8,zi9,zia,zib,zic,ziw]; all_goals tactic => exact rfl)))]
              rw [← h5, e0]
              unfold x66l0
              dsimp only
              have f1 := zf5 (n := (U : Int))
              (sym => (simp [etaM, etaF, z00,z01,z03,z04,z05,z06,z07,z09,z0b,z0c,z0f,z0n,z0t,z0v,z0z,z12,z1j,z1r,z1u,z1z,z20,z21,z26,z29,z2j,z2t,z2u,z2v,z3h,z4l,z4o,z4p,z4q,z4s,z4t,z4u,z4v,z4z,z54,z66,z67,z69,z6a,z6b,z6d,z6e,z6f,z6g,z6k,z6t,z6w,z6y,z78,z7f,z7g,z7h,z7m,z7v,z7z,z85,z8a,z9d,z9e,z9g,z9i,z9j,z9k,z9l,z9m,z9n,z9p,z9r,z9s,z9t,z9v,z9w,z9x,z9y,za0,za1,za2,za3,za5,za6,za7,za8,za9,zaa,zab,zac,zae,zaf,zai,zak,zal,zao,zaq,zas,zat,zau,zb4,zb5,zb9,zba,zbb,zbc,zbd,zbe,zbf,zbg,zbk,zbm,zbp,zbq,zbs,zbt,zbu,zbw,zbx,zby,zbz,zc1,zc3,zc8,zca,zcc,zcd,zce,zcf,zcg,zch,zci,zcj,zcn,zco,zcp,zcq,zcr,zcs,zct,zcu,zcv,zcw,zcy,zd3,zd6,zd7,zdd,zdj,zdk,zdl,zdm,zdn,zdo,zds,zdt,zdu,zdv,zdw,zdx,zdy,ze2,ze3,ze9,zea,zeb,zec,zeq,zer,zes,zet,zez,zf0,zf1,zf2,zf3,zf4,zf5,zf6,zf7,zfa,zfb,zfg,zfh,zfi,zfj,zfl,zfm,zfo,zfp,zfq,zfr,zfs,zft,zfu,zfv,zfw,zfx,zfy,zfz,zg0,zg1,zhb,zhc,zhd,zhe,zhg,zhp,zi8,zi9,zia,zib,zic,ziw, f1, y]; all_goals tactic => exact rfl))
end Go.Proofs.Ytdbikamciedfdaa
namespace Go.Proofs.Ytdbikamciedfdaa
open Go Go.DL
set_option maxRecDepth 100000
set_option maxHeartbeats 1000000

/-- What the program's function returns. -/
def clA : Option (List Int × Int) → AV
  | none => .tup [.fs [], I 0, .bool false]
  | some r => .tup [rI r.1, I r.2, .bool true]
theorem w47 (U : Nat) (l : List Fl) (hU : U < 100000) (hn : l.length < 1000000) (hr : rngL U l) : runW progX 47 [plA U l] [] = some (clA (clF (gI (-1) l l.length) U l U), []) := by
  have c := w66c U l _ _ hU hn (w67 U l (-1) hn hr) (esI_inv hr l.length)
  unfold cl66 at c
  dsimp only at c
  generalize clF (gI (-1) l l.length) U l U = r at *
  cases r with
  | none =>
    simp only [List.cons_append, List.nil_append] at c
    unfold clA
    rw [r47 (by simp)]; unfold x47; dsimp only
    (sym => (simp [etaM, etaF, z00,z01,z02,z05,z06,z07,z09,z0b,z0c,z0f,z0o,z0r,z1j,z1n,z1o,z1r,z1u,z20,z21,z4l,z4m,z4o,z4p,z4q,z4t,z4z,z54,z55,z57,z59,z5e,z66,z67,z69,z6a,z6b,z6e,z6j,z6k,z6p,z6q,z6t,z6u,z6z,z7r,z7s,z7u,z7v,z7w,z81,z8a,z8b,z8d,z8k,z9d,z9e,z9g,z9i,z9j,z9k,z9l,z9m,z9n,z9p,z9r,z9s,z9t,z9v,z9x,z9y,za0,za1,za2,za3,za5,za6,za7,za8,zaa,zab,zac,zae,zaf,zai,zal,zao,zaq,zas,zat,zau,zba,zbc,zbd,zbf,zbg,zbk,zbt,zbu,zbw,zbx,zby,zbz,zc2,zc3,zc4,zc5,zc7,zc8,zcj,zcn,zco,zcp,zcq,zcr,zct,zcu,zcv,zcy,zd3,zdd,zdj,zdo,zds,zdt,zdu,zdv,zdw,zdx,zdy,zdz,ze2,ze3,ze9,zeo,zep,zf6,zf7,zfa,zfb,zfc,zfd,zfg,zfo,zfp,zfq,zfs,zft,zfv,zfw,zfx,zg0,zg1,zij,zik,zin,ziq,zir,zis,zit,ziu,ziv,zj3, c, w36]; all_goals tactic => exact rfl))
  | some r =>
    simp only [List.cons_append, List.nil_append] at c
    unfold clA
    rw [r47 (by simp)]; unfold x47; dsimp only
    (sym => (simp [etaM, etaF, z00,z01,z02,z05,z06,z07,z09,z0b,z0c,z0f,z0o,z0r,z1j,z1n,z1o,z1r,z1u,z20,z21,z4l,z4m,z4o,z4p,z4q,z4t,z4z,z54,z55,z57,z59,z5e,z66,z67,z69,z6a,z6b,z6e,z6j,z6k,z6p,z6q,z6t,z6u,z6z,z7r,z7s,z7u,z7v,z7w,z81,z8a,z8b,z8d,z8k,z9d,z9e,z9g,z9i,z9j,z9k,z9l,z9m,z9n,z9p,z9r,z9s,z9t,z9v,z9x,z9y,za0,za1,za2,za3,za5,za6,za7,za8,zaa,zab,zac,zae,zaf,zai,zal,zao,zaq,zas,zat,zau,zba,zbc,zbd,zbf,zbg,zbk,zbt,zbu,zbw,zbx,zby,zbz,zc2,zc3,zc4,zc5,zc7,zc8,zcj,zcn,zco,zcp,zcq,zcr,zct,zcu,zcv,zcy,zd3,zdd,zdj,zdo,zds,zdt,zdu,zdv,zdw,zdx,zdy,zdz,ze2,ze3,ze9,zeo,zep,zf6,zf7,zfa,zfb,zfc,zfd,zfg,zfo,zfp,zfq,zfs,zft,zfv,zfw,zfx,zg0,zg1,zij,zik,zin,ziq,zir,zis,zit,ziu,ziv,zj3, c, w36]; all_goals tactic => exact rfl))

/-- Excesses depend on the units alone. -/
theorem exI_congr {U : Int} {l : List Fl} (hr : rngL U l) {f f' : Int → Bool} (h : ∀ x, -1 ≤ x → x < U → f x = f' x) (wo : Int) : ∀ i, exI f wo l i = exI f' wo l i
  | 0 => rfl
  | i + 1 => by
    have ih := exI_congr hr h wo i
    cases hx : l[i]? with
    | none => simp [exI, hx, ih]
    | some x =>
      obtain ⟨r1, r2, r3, r4⟩ := hr x (List.mem_of_getElem? hx)
      simp [exI, hx, exStep, ih, h x.fr r1 r2, h x.to r3 r4]
/-- Of a head's side. -/
theorem ex_side {U : Nat} {l : List Fl} (hr : rngL U l) {g : Int → Int} (hg : g (-1) = -1) (i : Nat) : exI (fun x => decide (x ∈ usI g i U)) (-1) l l.length = exI (fun x => decide (g x = i)) (-1) l l.length := by
  apply exI_congr hr
  intro x h1 h2
  simp only [decide_eq_decide, usI_mem]
  constructor
  · exact fun h => h.2.2
  · intro h
    refine ⟨?_, h2, h⟩
    by_cases hx : x = -1
    · rw [hx, hg] at h; omega
    · omega
end Go.Proofs.Ytdbikamciedfdaa
namespace Go.Proofs.Ytdbikamciedfdaa
open Go Go.DL
set_option maxRecDepth 100000
set_option maxHeartbeats 1000000

end Go.Proofs.Ytdbikamciedfdaa
namespace Go.Proofs.Ytdbikamciedfdaa
open Go Go.DL
set_option maxRecDepth 100000
set_option maxHeartbeats 1000000

theorem w39R (u : Int) (l : List Fl) (wo : Int) (g : Nat) (es : List (Int × Int)) (k : Int) (f : Int → Bool) (hn : l.length < 1000000) (hf : ∀ x ∈ l, runW progX g (I x.to :: [.pt 0 0, .pt 2 0]) [some (.blk false (.cells true [.mp 1])), mapB es, some (.blk true (.cells true [I k]))] = some (.bool (f x.to), [some (.blk false (.cells true [.mp 1])), mapB es, some (.blk true (.cells true [I k]))]) ∧ runW progX g (I x.fr :: [.pt 0 0, .pt 2 0]) [some (.blk false (.cells true [.mp 1])), mapB es, some (.blk true (.cells true [I k]))] = some (.bool (f x.fr), [some (.blk false (.cells true [.mp 1])), mapB es, some (.blk true (.cells true [I k]))])) :
    runW progX 39 [plA u l, I wo, .fn (.func g) [] [.pt 0 0, .pt 2 0]] [some (.blk false (.cells true [.mp 1])), mapB es, some (.blk true (.cells true [I k]))] = some (.agg [I (exI f wo l l.length).a, I (exI f wo l l.length).b, I (exI f wo l l.length).c, I (exI f wo l l.length).d], [some (.blk false (.cells true [.mp 1])), mapB es, some (.blk true (.cells true [I k]))]) := by
  rw [r39 (by simp)]; unfold x39; dsimp only
  have g0 := pad
  have g1 := pad
  have g2 := pad
  have g3 := pad
  have g4 := pad
  have g5 := pad
  have g6 := pad
  have k1 := pad
  have k2 := pad
  sym =>
    simp [etaM, etaF, z00,z01,z02,z03,z04,z05,z06,z07,z09,z0a,z0b,z0c,z0f,z0h,z0j,z0l,z0n,z0o,z0q,z0r,z0v,z0w,z0z,z12,z15,z1f,z1j,z1k,z1m,z1n,z1o,z1p,z1r,z1u,z1v,z1w,z20,z21,z22,z23,z24,z26,z29,z2b,z2g,z2h,z2j,z2t,z2v,z33,z34,z3h,z4l,z4o,z4q,z4t,z4u,z4y,z54,z55,z57,z59,z66,z67,z69,z6b,z6e,z6f,z6j,z6p,z6s,z7r,z7u,z7w,z84,z8d,z9d,z9e,z9g,z9i,z9j,z9k,z9l,z9m,z9n,z9p,z9r,z9s,z9t,z9v,z9w,z9x,z9y,za0,za1,za2,za3,za5,za6,za7,za8,za9,zaa,zab,zac,zae,zaf,zag,zak,zal,zam,zaq,zas,zat,zau,zav,zaw,zax,zaz,zb1,zb2,zb3,zba,zbc,zbd,zbf,zbg,zbk,zbt,zbu,zbw,zbx,zby,zbz,zc0,zc3,zc4,zc5,zc7,zc8,zca,zcc,zcd,zce,zcf,zcg,zch,zcj,zcn,zco,zcp,zcq,zcr,zcs,zct,zcu,zcv,zcw,zcx,zcy,zd3,zd6,zd7,zd8,zd9,zdb,zdd,zdj,zdk,zdl,zdm,zdn,zdo,zds,zdt,zdu,zdv,zdw,zdx,zdy,zdz,ze2,ze3,ze9,zeo,zep,zf5,zf6,zf7,zf8,zf9,zfa,zfb,zfc,zfd,zfg,zfm,zfo,zfp,zfq,zfr,zfs,zft,zfu,zfw,zfy,zfz,zg0,zg1]
    tactic =>
      unfold x39l0
      rw [loop_rule l.length (fun i => [I wo, .fn (.func g) [] [.pt 0 0, .pt 2 0], .pt 3 0, .pt 4 0, .fs (l.map Fl.row), I l.length, I (i : Nat)]) (fun i => [some (.blk false (.cells true [.mp 1])), mapB es, some (.blk true (.cells true [I k]))] ++ [some (.blk true (.cells true [I 0, I 0, I 0, I 0])), some (.blk true (.cells true [I (exI f wo l i).a, I (exI f wo l i).b, I (exI f wo l i).c, I (exI f wo l i).d]))])]
      case' hs =>
        intro i hi
        obtain ⟨x, g0⟩ := at_ix hi
        have g1 := up_ix hi (by omega)
        have g2 := lt_ix hi
        obtain ⟨k1, k2⟩ := hf x (List.mem_of_getElem? g0)
        have e3 : exI f wo l (i + 1) = exStep f wo i x (exI f wo l i) := by simp [exI, g0]
        simp only [e3, exStep]
        rcases ptf ((i : Int) = wo) with g3 | g3 <;> cases g4 : x.me <;> cases g5 : f x.to <;> cases g6 : f x.fr
      all_goals (sym => (simp [etaM, etaF, z00,z01,z02,z03,z04,z05,z06,z07,z09,z0a,z0b,z0c,z0f,z0h,z0j,z0l,z0n,z0o,z0q,z0r,z0v,z0w,z0z,z12,z15,z1f,z1j,z1k,z1m,z1n,z1o,z1p,z1r,z1u,z1v,z1w,z20,z21,z22,z23,z24,z26,z29,z2b,z2g,z2h,z2j,z2t,z2v,z33,z34,z3h,z4l,z4o,z4q,z4t,z4u,z4y,z54,z55,z57,z59,z66,z67,z69,z6b,z6e,z6f,z6j,z6p,z6s,z7r,z7u,z7w,z84,z8d,z9d,z9e,z9g,z9i,z9j,z9k,z9l,z9m,z9n,z9p,z9r,z9s,z9t,z9v,z9w,z9x,z9y,za0,za1,za2,za3,za5,za6,za7,za8,za9,zaa,zab,zac,zae,zaf,zag,zak,zal,zam,zaq,zas,zat,zau,zav,zaw,zax,zaz,zb1,zb2,zb3,zba,zbc,zbd,zbf,zbg,zbk,zbt,zbu,zbw,zbx,zby,zbz,zc0,zc3,zc4,zc5,zc7,zc8,zca,zcc,zcd,zce,zcf,zcg,zch,zcj,zcn,zco,zcp,zcq,zcr,zcs,zct,zcu,zcv,zcw,zcx,zcy,zd3,zd6,zd7,zd8,zd9,zdb,zdd,zdj,zdk,zdl,zdm,zdn,zdo,zds,zdt,zdu,zdv,zdw,zdx,zdy,zdz,ze2,ze3,ze9,zeo,zep,zf5,zf6,zf7,zf8,zf9,zfa,zfb,zfc,zfd,zfg,zfm,zfo,zfp,zfq,zfr,zfs,zft,zfu,zfw,zfy,zfz,zg0,zg1, k1, k2, g0, g1, g2, g3, g4, g5, g6, w61]; all_goals tactic => exact rfl))

theorem w71 {U : Int} {es : List (Int × Int)} {g : Int → Int} (hi : InvG U es g) (k : Int) {x : Int} (h1 : -1 ≤ x) (h2 : x < U) : runW progX 71 [I x, .pt 0 0, .pt 2 0] [some (.blk false (.cells true [.mp 1])), mapB es, some (.blk true (.cells true [I k]))] = some (.bool (decide (g x = k)), [some (.blk false (.cells true [.mp 1])), mapB es, some (.blk true (.cells true [I k]))]) := by
  have e := w57h hi h1 h2
  rw [r71 (by simp)]; unfold x71; dsimp only
  (sym => (simp [etaM, etaF, z00,z01,z03,z04,z05,z06,z07,z0a,z0b,z0c,z0n,z0v,z1k,z1m,z1p,z1v,z1w,z20,z21,z2t,z4l,z4m,z4u,z66,z67,z6f,z6p,z6q,z6y,z7r,z7s,z7z,z9d,z9e,z9g,z9i,z9l,z9m,z9n,z9p,z9r,z9t,z9v,z9w,z9y,za0,za1,za2,za3,za5,za6,za7,za8,zaa,zab,zac,zae,zaf,zag,zak,zal,zam,zaq,zas,zat,zau,zav,zaw,zax,zaz,zba,zbc,zbd,zbe,zbf,zbg,zbj,zbt,zbu,zbw,zbx,zby,zbz,zc0,zc3,zc4,zc5,zc6,zc8,zcj,zcn,zco,zcq,zcr,zcs,zct,zcu,zcv,zd3,zd6,zd7,zd8,zd9,zdj,zdm,zdn,zdo,zds,zdt,zdu,zdv,zdy,zdz,ze2,ze3,zf6,zf7,zfb,zfm,zfo,zfp,zft,zg0,zg1, e]; all_goals tactic => exact rfl))
theorem w72 {U : Int} {es : List (Int × Int)} {g : Int → Int} (hi : InvG U es g) (k : Int) {x : Int} (h1 : -1 ≤ x) (h2 : x < U) : runW progX 72 [I x, .pt 0 0, .pt 2 0] [some (.blk false (.cells true [.mp 1])), mapB es, some (.blk true (.cells true [I k]))] = some (.bool (decide (g x = k)), [some (.blk false (.cells true [.mp 1])), mapB es, some (.blk true (.cells true [I k]))]) := by
  have e := w57h hi h1 h2
  rw [r72 (by simp)]; unfold x72; dsimp only
  (sym => (simp [etaM, etaF, z00,z01,z03,z04,z05,z06,z07,z0a,z0b,z0c,z0n,z0v,z1k,z1m,z1p,z1v,z1w,z20,z21,z2t,z4l,z4m,z4u,z66,z67,z6f,z6p,z6q,z6y,z7r,z7s,z7z,z9d,z9e,z9g,z9i,z9l,z9m,z9n,z9p,z9r,z9t,z9v,z9w,z9y,za0,za1,za2,za3,za5,za6,za7,za8,zaa,zab,zac,zae,zaf,zag,zak,zal,zam,zaq,zas,zat,zau,zav,zaw,zax,zaz,zba,zbc,zbd,zbe,zbf,zbg,zbj,zbt,zbu,zbw,zbx,zby,zbz,zc0,zc3,zc4,zc5,zc6,zc8,zcj,zcn,zco,zcq,zcr,zcs,zct,zcu,zcv,zd3,zd6,zd7,zd8,zd9,zdj,zdm,zdn,zdo,zds,zdt,zdu,zdv,zdy,zdz,ze2,ze3,zf6,zf7,zfb,zfm,zfo,zfp,zft,zg0,zg1, e]; all_goals tactic => exact rfl))

/-- The side of a head, without a flow. -/
def sideX (l : List Fl) (i : Nat) (k : Int) : Ms := exI (fun x => decide (gI i l l.length x = k)) i l l.length
/-- What is found of a flow. -/
def foundP (l : List Fl) (i : Nat) (x : Fl) : Option Ms := if gI i l l.length x.fr = gI i l l.length x.to then none else if gI i l l.length x.fr = -1 then some (Ms.zero.plus (-1) (sideX l i (gI i l l.length x.to))) else some (sideX l i (gI i l l.length x.fr))
def fdA : Option Ms → AV
  | none => .tup [msA Ms.zero, .bool false]
  | some m => .tup [msA m, .bool true]
theorem w48 (U : Int) (l : List Fl) (i : Nat) (x : Fl) (hn : l.length < 1000000) (hr : rngL U l) (hx : l[i]? = some x) : runW progX 48 [plA U l, I i] [] = some (fdA (foundP l i x), []) := by
  have hi := esI_inv hr (wo := i) l.length
  have e67 := w67 U l i hn hr
  obtain ⟨r1, r2, r3, r4⟩ := hr x (List.mem_of_getElem? hx)
  have e1 := w57h hi r1 r2
  have e2 := w57h hi r3 r4
  have hlt : i < l.length := by
    rw [List.getElem?_eq_some_iff] at hx
    exact hx.1
  have g2 := lt_ix hlt
  have ea : ∀ k, runW progX 39 [plA U l, I i, .fn (.func 71) [] [.pt 0 0, .pt 2 0]] [some (.blk false (.cells true [.mp 1])), mapB (esI i l l.length), some (.blk true (.cells true [I k]))] = some (msA (sideX l i k), [some (.blk false (.cells true [.mp 1])), mapB (esI i l l.length), some (.blk true (.cells true [I k]))]) := fun k =>
    w39R U l i 71 _ k _ hn fun y hy => by
      obtain ⟨s1, s2, s3, s4⟩ := hr y hy
      exact ⟨w71 hi k s3 s4, w71 hi k s1 s2⟩
  have eb : ∀ k, runW progX 39 [plA U l, I i, .fn (.func 72) [] [.pt 0 0, .pt 2 0]] [some (.blk false (.cells true [.mp 1])), mapB (esI i l l.length), some (.blk true (.cells true [I k]))] = some (msA (sideX l i k), [some (.blk false (.cells true [.mp 1])), mapB (esI i l l.length), some (.blk true (.cells true [I k]))]) := fun k =>
    w39R U l i 72 _ k _ hn fun y hy => by
      obtain ⟨s1, s2, s3, s4⟩ := hr y hy
      exact ⟨w72 hi k s3 s4, w72 hi k s1 s2⟩
  unfold foundP
  generalize gI i l l.length = g at *
  generalize esI i l l.length = es at *
  by_cases h1 : g x.fr = g x.to
  · have h3 := eq_true h1
    rw [if_pos h1]
    unfold fdA
    rw [r48 (by simp)]; unfold x48; dsimp only
    (sym => (simp [etaM, etaF, z00,z01,z02,z03,z04,z05,z06,z07,z09,z0a,z0b,z0c,z0f,z0n,z0o,z0p,z0r,z0s,z0v,z12,z15,z1j,z1k,z1l,z1m,z1n,z1o,z1p,z1q,z1r,z1u,z1v,z1w,z20,z21,z29,z2g,z2h,z2t,z2u,z33,z34,z4f,z4l,z4m,z4o,z4p,z4q,z4t,z4u,z4y,z54,z55,z57,z59,z5d,z5g,z66,z67,z69,z6a,z6b,z6e,z6f,z6j,z6p,z6q,z6s,z6t,z6y,z7r,z7s,z7u,z7v,z7w,z8a,z8d,z8j,z91,z9d,z9e,z9g,z9i,z9j,z9k,z9l,z9m,z9n,z9p,z9r,z9s,z9t,z9v,z9x,z9y,za0,za1,za2,za3,za5,za6,za7,za8,zaa,zab,zac,zae,zaf,zag,zal,zam,zaq,zas,zat,zau,zav,zaw,zax,zaz,zba,zbc,zbd,zbf,zbg,zbj,zbk,zbt,zbu,zbw,zbx,zby,zbz,zc2,zc3,zc4,zc5,zc6,zc7,zc8,zce,zcf,zcg,zcj,zcn,zco,zcp,zcq,zcr,zct,zcu,zcv,zcw,zcx,zcy,zd3,zd5,zd6,zd7,zd8,zd9,zdd,zdj,zdk,zdl,zdm,zdn,zdo,zds,zdt,zdu,zdv,zdw,zdx,zdy,zdz,ze2,ze3,ze9,zea,zeo,zep,zf6,zf7,zf8,zf9,zfa,zfb,zfc,zfd,zfg,zfm,zfo,zfp,zfq,zfs,zft,zfv,zfw,zfx,zg0,zg1,zj8, e67, e1, e2, ea, eb, hx, g2, h3]; all_goals tactic => exact rfl))
  · have h3 := eq_false h1
    rw [if_neg h1]
    by_cases h2 : g x.fr = -1
    · have h4 := eq_true h2
      rw [if_pos h2]
      rw [h2] at e1 h3
      unfold fdA
      rw [r48 (by simp)]; unfold x48; dsimp only
      (sym => (simp [etaM, etaF, z00,z01,z02,z03,z04,z05,z06,z07,z09,z0a,z0b,z0c,z0f,z0n,z0o,z0p,z0r,z0s,z0v,z12,z15,z1j,z1k,z1l,z1m,z1n,z1o,z1p,z1q,z1r,z1u,z1v,z1w,z20,z21,z29,z2g,z2h,z2t,z2u,z33,z34,z4f,z4l,z4m,z4o,z4p,z4q,z4t,z4u,z4y,z54,z55,z57,z59,z5d,z5g,z66,z67,z69,z6a,z6b,z6e,z6f,z6j,z6p,z6q,z6s,z6t,z6y,z7r,z7s,z7u,z7v,z7w,z8a,z8d,z8j,z91,z9d,z9e,z9g,z9i,z9j,z9k,z9l,z9m,z9n,z9p,z9r,z9s,z9t,z9v,z9x,z9y,za0,za1,za2,za3,za5,za6,za7,za8,zaa,zab,zac,zae,zaf,zag,zal,zam,zaq,zas,zat,zau,zav,zaw,zax,zaz,zba,zbc,zbd,zbf,zbg,zbj,zbk,zbt,zbu,zbw,zbx,zby,zbz,zc2,zc3,zc4,zc5,zc6,zc7,zc8,zce,zcf,zcg,zcj,zcn,zco,zcp,zcq,zcr,zct,zcu,zcv,zcw,zcx,zcy,zd3,zd5,zd6,zd7,zd8,zd9,zdd,zdj,zdk,zdl,zdm,zdn,zdo,zds,zdt,zdu,zdv,zdw,zdx,zdy,zdz,ze2,ze3,ze9,zea,zeo,zep,zf6,zf7,zf8,zf9,zfa,zfb,zfc,zfd,zfg,zfm,zfo,zfp,zfq,zfs,zft,zfv,zfw,zfx,zg0,zg1,zj8, e67, e1, e2, ea, eb, hx, g2, h3, h4, w61]; all_goals tactic => exact rfl))
    · have h4 := eq_false h2
      rw [if_neg h2]
      unfold fdA
      rw [r48 (by simp)]; unfold x48; dsimp only
      (sym => (simp [etaM, etaF, z00,z01,z02,z03,z04,z05,z06,z07,z09,z0a,z0b,z0c,z0f,z0n,z0o,z0p,z0r,z0s,z0v,z12,z15,z1j,z1k,z1l,z1m,z1n,z1o,z1p,z1q,z1r,z1u,z1v,z1w,z20,z21,z29,z2g,z2h,z2t,z2u,z33,z34,z4f,z4l,z4m,z4o,z4p,z4q,z4t,z4u,z4y,z54,z55,z57,z59,z5d,z5g,z66,z67,z69,z6a,z6b,z6e,z6f,z6j,z6p,z6q,z6s,z6t,z6y,z7r,z7s,z7u,z7v,z7w,z8a,z8d,z8j,z91,z9d,z9e,z9g,z9i,z9j,z9k,z9l,z9m,z9n,z9p,z9r,z9s,z9t,z9v,z9x,z9y,za0,za1,za2,za3,za5,za6,za7,za8,zaa,zab,zac,zae,zaf,zag,zal,zam,zaq,zas,zat,zau,zav,zaw,zax,zaz,zba,zbc,zbd,zbf,zbg,zbj,zbk,zbt,zbu,zbw,zbx,zby,zbz,zc2,zc3,zc4,zc5,zc6,zc7,zc8,zce,zcf,zcg,zcj,zcn,zco,zcp,zcq,zcr,zct,zcu,zcv,zcw,zcx,zcy,zd3,zd5,zd6,zd7,zd8,zd9,zdd,zdj,zdk,zdl,zdm,zdn,zdo,zds,zdt,zdu,zdv,zdw,zdx,zdy,zdz,ze2,ze3,ze9,zea,zeo,zep,zf6,zf7,zf8,zf9,zfa,zfb,zfc,zfd,zfg,zfm,zfo,zfp,zfq,zfs,zft,zfv,zfw,zfx,zg0,zg1,zj8, e67, e1, e2, ea, eb, hx, g2, h3, h4, w61]; all_goals tactic => exact rfl))
end Go.Proofs.Ytdbikamciedfdaa
namespace Go.Proofs.Ytdbikamciedfdaa
open Go Go.DL
set_option maxRecDepth 100000
set_option maxHeartbeats 1000000

/-- What is known of a flow. -/
structure Kn where
  s : Int
  m : Ms
deriving DecidableEq
abbrev Kn.row (x : Kn) : List AV := [I x.s, I x.m.a, I x.m.b, I x.m.c, I x.m.d]
def knF (x : Fl) : Option Ms → Kn
  | none => if x.me then ⟨1, x.m⟩ else ⟨3, Ms.zero⟩
  | some m => if x.me then ⟨1, x.m⟩ else ⟨2, m⟩
def knAt (l : List Fl) (i : Nat) (x : Fl) : Kn := knF x (foundP l i x)
def knT (l : List Fl) : Nat → List Kn
  | 0 => []
  | i + 1 => match l[i]? with
    | some x => knT l i ++ [knAt l i x]
    | none => knT l i
theorem knT_len {l : List Fl} : ∀ i, i ≤ l.length → (knT l i).length = i
  | 0, _ => rfl
  | i + 1, h => by
    rw [knT, List.getElem?_eq_getElem (show i < l.length by omega)]
    simp only [List.length_append, knT_len (l := l) i (by omega), List.length_cons, List.length_nil]
theorem kn_ok (k : List Kn) : RowsOk 5 (k.map Kn.row) := by
  intro r hr
  simp only [List.mem_map] at hr
  obtain ⟨x, _, rfl⟩ := hr
  exact ⟨rfl, rfl, rfl, rfl⟩
def knC (l : List Fl) (i : Nat) : List AV := ((knT l i).map Kn.row).flatten
theorem knC_gr (l : List Fl) (i : Nat) : grL (knC l i) = true := (rows_cells (kn_ok _)).1
theorem knC_nm (l : List Fl) (i : Nat) : nmL (knC l i) = [] := (rows_cells (kn_ok _)).2.1
theorem knC_sl (l : List Fl) (i : Nat) : slL (knC l i) = [] := (rows_cells (kn_ok _)).2.2.1
theorem knC_len {l : List Fl} {i : Nat} (h : i ≤ l.length) : (knC l i).length = i * 5 := by
  rw [knC, (rows_cells (kn_ok _)).2.2.2, List.length_map, knT_len i h]
theorem knC_0 (l : List Fl) : knC l 0 = [] := rfl
theorem knC_succ {l : List Fl} {i : Nat} {x : Fl} (h : l[i]? = some x) : knC l (i + 1) = knC l i ++ (knAt l i x).row := by
  simp [knC, knT, h]
theorem knC_ch (l : List Fl) : chunks (knC l l.length) 0 5 l.length = (knT l l.length).map Kn.row := by
  have := rows_chunks (kn_ok (knT l l.length))
  rw [List.length_map, knT_len _ (Nat.le_refl _)] at this
  exact this

/-- The error of what is known. -/
def clE (U : Nat) (l : List Fl) : Int := if checkP U l = 0 then match clF (gI (-1) l l.length) U l U with
  | some _ => 12
  | none => 0
  else checkP U l
abbrev rK (k : List Kn) : AV := .fs (k.map Kn.row)
def knR (U : Nat) (l : List Fl) : Option (AV × XH) := if clE U l = 0 then some (.tup [rK (knT l l.length), I 0], []) else some (.tup [.fs [], I (clE U l)], [])
theorem w23 (U : Nat) (l : List Fl) (hn : l.length < 1000000) : runW progX 23 [plA U l] [] = knR U l := by
  have c := w20 U l hn
  by_cases h : checkP U l = 0
  · obtain ⟨u1, u2, u3, u4⟩ := checkP_u h
    have hr := rngL_of h
    have e47 := w47 U l (by omega) hn hr
    have gc := eq_true h
    cases hc : clF (gI (-1) l l.length) U l U with
    | some r =>
      have he : clE U l = 12 := by rw [clE, if_pos h, hc]
      rw [hc] at e47
      unfold clA at e47
      rw [knR, if_neg (by rw [he]; decide), he]
      rw [r23 (by simp)]; unfold x23; dsimp only
      (sym => (simp [etaM, etaF, z00,z01,z02,z03,z04,z05,z06,z07,z09,z0b,z0c,z0f,z0n,z0o,z0r,z0s,z0t,z0v,z0z,z12,z15,z1e,z1f,z1j,z1n,z1o,z1r,z1u,z1z,z20,z21,z26,z29,z2b,z2g,z2h,z2i,z2j,z2u,z2v,z33,z34,z36,z3g,z3h,z3j,z4f,z4l,z4o,z4p,z4q,z4s,z4t,z4v,z54,z55,z57,z59,z66,z67,z69,z6a,z6b,z6d,z6e,z6g,z6p,z6t,z6w,z6z,z78,z7c,z7f,z7r,z7u,z7v,z7w,z81,z8a,z8d,z9d,z9e,z9g,z9i,z9j,z9k,z9l,z9m,z9n,z9p,z9r,z9s,z9v,z9w,z9y,za0,za1,za2,za3,za5,za6,za7,za8,za9,zaa,zab,zae,zaf,zal,zaq,zas,zat,zb4,zb5,zb9,zba,zbb,zbc,zbd,zbf,zbg,zbk,zbm,zbp,zbt,zbu,zbw,zbx,zby,zbz,zc2,zc3,zc4,zc5,zc6,zc8,zca,zcc,zcd,zce,zcf,zcg,zch,zcj,zcn,zco,zcp,zcq,zcr,zct,zcu,zcv,zcw,zcx,zcy,zd3,zd6,zd7,zdd,zdj,zdk,zdl,zdm,zdn,zdo,zds,zdt,zdu,zdv,zdw,zdx,zdy,zdz,ze0,ze1,ze2,ze3,ze9,zea,zeb,zec,zeo,zep,zeq,zer,zes,zet,zez,zf0,zf1,zf2,zf3,zf4,zf5,zf6,zf7,zf8,zf9,zfa,zfb,zfc,zfd,zfg,zfh,zfi,zfj,zfl,zfm,zfo,zfp,zfq,zfr,zfs,zft,zfu,zfv,zfw,zfy,zfz,zg0,zg1,zhe,zhf,zhg,zhp,zii, c, gc, e47]; all_goals tactic => exact rfl))
    | none =>
      have he : clE U l = 0 := by rw [clE, if_pos h, hc]
      rw [hc] at e47
      unfold clA at e47
      rw [knR, if_pos he]
      have rd : ∀ i, i < l.length → ∃ x, l[i]? = some x ∧ IntKind.i64.wrap ((i : Int) + 1) = (i : Int) + 1 ∧ ((i : Int) < (l.length : Int)) = True ∧ (knC l i).length = i * 5 ∧ knC l (i + 1) = knC l i ++ (knF x (foundP l i x)).row ∧ ((i + 1) * 40 ≤ 1099511627776) = True ∧ (i + 1 ≤ 1099511627776) = True ∧ runW progX 48 [plA U l, I i] [] = some (fdA (foundP l i x), []) := by
        intro i hi
        obtain ⟨x, hx⟩ := at_ix hi
        exact ⟨x, hx, up_ix hi (by omega), lt_ix hi, knC_len (by omega), knC_succ hx, eq_true (by omega), eq_true (by omega), w48 U l i x hn hr hx⟩
      have g0 := pad
      have g1 := pad
      have g2 := pad
      have g3 := pad
      have g4 := pad
      have g5 := pad
      have g6 := pad
      have g7 := pad
      have g8 := pad
      have g9 := pad
      have en : l.length = 0 → knT l l.length = [] := fun h => by rw [h]; rfl
      have lz : (l.length = 0) = True ∨ (l.length = 0) = False := ptf _
      have el := knC_len (l := l) (Nat.le_refl l.length)
      have ec := knC_ch l
      rw [r23 (by simp)]; unfold x23; dsimp only
      sym =>
        simp [etaM, etaF, z00,z01,z02,z03,z04,z05,z06,z07,z09,z0b,z0c,z0f,z0n,z0o,z0r,z0s,z0t,z0v,z0z,z12,z15,z1e,z1f,z1j,z1n,z1o,z1r,z1u,z1z,z20,z21,z26,z29,z2b,z2g,z2h,z2i,z2j,z2u,z2v,z33,z34,z36,z3g,z3h,z3j,z4f,z4l,z4o,z4p,z4q,z4s,z4t,z4v,z54,z55,z57,z59,z66,z67,z69,z6a,z6b,z6d,z6e,z6g,z6p,z6t,z6w,z6z,z78,z7c,z7f,z7r,z7u,z7v,z7w,z81,z8a,z8d,z9d,z9e,z9g,z9i,z9j,z9k,z9l,z9m,z9n,z9p,z9r,z9s,z9v,z9w,z9y,za0,za1,za2,za3,za5,za6,za7,za8,za9,zaa,zab,zae,zaf,zal,zaq,zas,zat,zb4,zb5,zb9,zba,zbb,zbc,zbd,zbf,zbg,zbk,zbm,zbp,zbt,zbu,zbw,zbx,zby,zbz,zc2,zc3,zc4,zc5,zc6,zc8,zca,zcc,zcd,zce,zcf,zcg,zch,zcj,zcn,zco,zcp,zcq,zcr,zct,zcu,zcv,zcw,zcx,zcy,zd3,zd6,zd7,zdd,zdj,zdk,zdl,zdm,zdn,zdo,zds,zdt,zdu,zdv,zdw,zdx,zdy,zdz,ze0,ze1,ze2,ze3,ze9,zea,zeb,zec,zeo,zep,zeq,zer,zes,zet,zez,zf0,zf1,zf2,zf3,zf4,zf5,zf6,zf7,zf8,zf9,zfa,zfb,zfc,zfd,zfg,zfh,zfi,zfj,zfl,zfm,zfo,zfp,zfq,zfr,zfs,zft,zfu,zfv,zfw,zfy,zfz,zg0,zg1,zhe,zhf,zhg,zhp,zii, c, gc, e47]
        tactic =>
          unfold x23l0
          rw [loop_rule l.length (fun i => [.pt 0 0, if i = 0 then .nilsl else .sl 1 0 5 i, .fs (l.map Fl.row), I l.length, I (i : Nat)]) (fun i => if i = 0 then [some (.blk true (.cells true [I U, .fs (l.map Fl.row)]))] else
            [some (.blk true (.cells true [I U, .fs (l.map Fl.row)])), some (.blk true (.cells true (knC l i)))])]
          rcases lz with g0 | g0
          have g1 := en (of_eq_true g0)
          case' hl => rcases lz with g0 | g0
          case' hs =>
            intro i hi
            obtain ⟨x, g1, g2, g3, g4, g5, g6, g7, g8⟩ := rd i hi
            generalize foundP l i x = q at *
            rcases ptf (i = 0) with g0 | g0
            have hz := of_eq_true g0
            subst hz
            have g3 : ((0 : Int) < (l.length : Int)) = True := g3
            have g8 : runW progX 48 [plA U l, I 0] [] = some (fdA q, []) := g8
            all_goals rcases q with _ | m
            all_goals unfold fdA at g8
            all_goals unfold knF at g5
            all_goals cases g9 : x.me
            all_goals simp only [g9, if_true, if_false, Bool.false_eq_true] at g5
          all_goals (sym => (simp [etaM, etaF, z00,z01,z02,z03,z04,z05,z06,z07,z09,z0b,z0c,z0f,z0n,z0o,z0r,z0s,z0t,z0v,z0z,z12,z15,z1e,z1f,z1j,z1n,z1o,z1r,z1u,z1z,z20,z21,z26,z29,z2b,z2g,z2h,z2i,z2j,z2u,z2v,z33,z34,z36,z3g,z3h,z3j,z4f,z4l,z4o,z4p,z4q,z4s,z4t,z4v,z54,z55,z57,z59,z66,z67,z69,z6a,z6b,z6d,z6e,z6g,z6p,z6t,z6w,z6z,z78,z7c,z7f,z7r,z7u,z7v,z7w,z81,z8a,z8d,z9d,z9e,z9g,z9i,z9j,z9k,z9l,z9m,z9n,z9p,z9r,z9s,z9v,z9w,z9y,za0,za1,za2,za3,za5,za6,za7,za8,za9,zaa,zab,zae,zaf,zal,zaq,zas,zat,zb4,zb5,zb9,zba,zbb,zbc,zbd,zbf,zbg,zbk,zbm,zbp,zbt,zbu,zbw,zbx,zby,zbz,zc2,zc3,zc4,zc5,zc6,zc8,zca,zcc,zcd,zce,zcf,zcg,zch,zcj,zcn,zco,zcp,zcq,zcr,zct,zcu,zcv,zcw,zcx,zcy,zd3,zd6,zd7,zdd,zdj,zdk,zdl,zdm,zdn,zdo,zds,zdt,zdu,zdv,zdw,zdx,zdy,zdz,ze0,ze1,ze2,ze3,ze9,zea,zeb,zec,zeo,zep,zeq,zer,zes,zet,zez,zf0,zf1,zf2,zf3,zf4,zf5,zf6,zf7,zf8,zf9,zfa,zfb,zfc,zfd,zfg,zfh,zfi,zfj,zfl,zfm,zfo,zfp,zfq,zfr,zfs,zft,zfu,zfv,zfw,zfy,zfz,zg0,zg1,zhe,zhf,zhg,zhp,zii, g0, g1, g2, g3, g4, g5, g6, g7, g8, g9, el, ec, knC_gr, knC_nm, knC_sl, knC_0]; all_goals tactic => exact rfl))
  · have g := eq_false h
    have he : clE U l = checkP U l := by rw [clE, if_neg h]
    rw [knR, if_neg (by rw [he]; exact h), he]
    rw [r23 (by simp)]; unfold x23; dsimp only
    (sym => (simp [etaM, etaF, z00,z01,z02,z03,z04,z05,z06,z07,z09,z0b,z0c,z0f,z0n,z0o,z0r,z0s,z0t,z0v,z0z,z12,z15,z1e,z1f,z1j,z1n,z1o,z1r,z1u,z1z,z20,z21,z26,z29,z2b,z2g,z2h,z2i,z2j,z2u,z2v,z33,z34,z36,z3g,z3h,z3j,z4f,z4l,z4o,z4p,z4q,z4s,z4t,z4v,z54,z55,z57,z59,z66,z67,z69,z6a,z6b,z6d,z6e,z6g,z6p,z6t,z6w,z6z,z78,z7c,z7f,z7r,z7u,z7v,z7w,z81,z8a,z8d,z9d,z9e,z9g,z9i,z9j,z9k,z9l,z9m,z9n,z9p,z9r,z9s,z9v,z9w,z9y,za0,za1,za2,za3,za5,za6,za7,za8,za9,zaa,zab,zae,zaf,zal,zaq,zas,zat,zb4,zb5,zb9,zba,zbb,zbc,zbd,zbf,zbg,zbk,zbm,zbp,zbt,zbu,zbw,zbx,zby,zbz,zc2,zc3,zc4,zc5,zc6,zc8,zca,zcc,zcd,zce,zcf,zcg,zch,zcj,zcn,zco,zcp,zcq,zcr,zct,zcu,zcv,zcw,zcx,zcy,zd3,zd6,zd7,zdd,zdj,zdk,zdl,zdm,zdn,zdo,zds,zdt,zdu,zdv,zdw,zdx,zdy,zdz,ze0,ze1,ze2,ze3,ze9,zea,zeb,zec,zeo,zep,zeq,zer,zes,zet,zez,zf0,zf1,zf2,zf3,zf4,zf5,zf6,zf7,zf8,zf9,zfa,zfb,zfc,zfd,zfg,zfh,zfi,zfj,zfl,zfm,zfo,zfp,zfq,zfr,zfs,zft,zfu,zfv,zfw,zfy,zfz,zg0,zg1,zhe,zhf,zhg,zhp,zii, c, g]; all_goals tactic => exact rfl))
end Go.Proofs.Ytdbikamciedfdaa
namespace Go.Proofs.Ytdbikamciedfdaa
open Go Go.DL
set_option maxRecDepth 100000
set_option maxHeartbeats 1000000

end Go.Proofs.Ytdbikamciedfdaa
namespace Go.Proofs.Ytdbikamciedfdaa
open Go Go.DL
set_option maxRecDepth 100000
set_option maxHeartbeats 1000000

end Go.Proofs.Ytdbikamciedfdaa
namespace Go.Proofs.Ytdbikamciedfdaa
open Go Go.DL
set_option maxRecDepth 100000
set_option maxHeartbeats 1000000

end Go.Proofs.Ytdbikamciedfdaa
namespace Go.Proofs.Ytdbikamciedfdaa
open Go Go.DL
set_option maxRecDepth 100000
set_option maxHeartbeats 1000000

end Go.Proofs.Ytdbikamciedfdaa
namespace Go.Proofs.Ytdbikamciedfdaa
open Go Go.DL
set_option maxRecDepth 100000
set_option maxHeartbeats 1000000

/-- What a flow that is not measured joins. -/
theorem gI_joined {wo : Int} {l : List Fl} {i : Nat} {x : Fl} (hx : l[i]? = some x) (hm : x.me = false) (hw : ¬ (i : Int) = wo) : ∀ n, i < n → gI wo l n x.fr = gI wo l n x.to
  | 0, h => by omega
  | n + 1, h => by
    by_cases hn : i = n
    · subst hn
      simp only [gI, hx, hm, Bool.false_or, decide_eq_false hw]
      generalize gI wo l i x.fr = a
      generalize gI wo l i x.to = b
      simp only [Bool.false_eq_true, if_false]
      unfold mx mn
      (repeat' split) <;> omega
    · have ih := gI_joined hx hm hw n (by omega)
      cases hy : l[n]? with
      | none => simp only [gI, hy]; exact ih
      | some y => simp only [gI, hy, ih]
theorem gI_m1 {U : Nat} {l : List Fl} (h : checkP U l = 0) (wo : Int) (i : Nat) : gI wo l i (-1) = -1 := by
  have := gI_ok h wo i (-1) (by omega) (by omega)
  omega
end Go.Proofs.Ytdbikamciedfdaa
namespace Go.Proofs.Ytdbikamciedfdaa
open Go Go.DL
set_option maxRecDepth 100000
set_option maxHeartbeats 1000000

/-! ### A set that no unmeasured flow leaves -/
def ClosedS (wo : Int) (l : List Fl) (S : Int → Bool) : Prop := ∀ (i : Nat) (x : Fl), l[i]? = some x → x.me = false → ¬ (i : Int) = wo → S x.fr = S x.to
theorem closed_gI {wo : Int} {l : List Fl} {S : Int → Bool} (h : ClosedS wo l S) : ∀ (n : Nat) (x : Int), S (gI wo l n x) = S x
  | 0, x => rfl
  | n + 1, x => by
    cases hy : l[n]? with
    | none => simp only [gI, hy]; exact closed_gI h n x
    | some y =>
      simp only [gI, hy]
      cases hc : y.me || decide ((n : Int) = wo) with
      | true => simp only [if_true]; exact closed_gI h n x
      | false =>
        obtain ⟨h1, h2⟩ := Bool.or_eq_false_iff.1 hc
        have hw : ¬ (n : Int) = wo := of_decide_eq_false h2
        have e := h n y hy h1 hw
        have a := closed_gI h n y.fr
        have b := closed_gI h n y.to
        have c := closed_gI h n x
        simp only [Bool.false_eq_true, if_false]
        by_cases hg : gI wo l n x = mx (gI wo l n y.fr) (gI wo l n y.to)
        · rw [if_pos hg, ← c, hg]
          have : S (mx (gI wo l n y.fr) (gI wo l n y.to)) = S y.fr := by unfold mx; split <;> simp only [a, b, e]
          rw [this]
          unfold mn
          split <;> simp only [a, b, e]
        · rw [if_neg hg, c]
theorem closed_same {wo : Int} {l : List Fl} {S : Int → Bool} (h : ClosedS wo l S) {n : Nat} {x y : Int} (he : gI wo l n x = gI wo l n y) : S x = S y := by
  rw [← closed_gI h n x, he, closed_gI h n y]

/-! ### Rounds -/
section
variable {U : Nat} {l : List Fl} {wo : Int}
end
end Go.Proofs.Ytdbikamciedfdaa
namespace Go.Proofs.Ytdbikamciedfdaa
open Go Go.DL
set_option maxRecDepth 100000
set_option maxHeartbeats 1000000

def cmp (k : Nat) (m : Ms) : Int := match k with
  | 0 => m.a
  | 1 => m.b
  | 2 => m.c
  | _ => m.d
theorem ms_ext {m n : Ms} (h : ∀ k, cmp k m = cmp k n) : m = n := by
  obtain ⟨a, b, c, d⟩ := m
  obtain ⟨a', b', c', d'⟩ := n
  have h0 := h 0
  have h1 := h 1
  have h2 := h 2
  have h3 := h 3
  simp only [cmp] at h0 h1 h2 h3
  rw [h0, h1, h2, h3]
def bi (b : Bool) : Int := if b then 1 else 0
/-- What flows bring to a set, of a kind: exactly. -/
def linI (f : Int → Bool) (wo : Int) (l : List Fl) (k : Nat) : Nat → Int
  | 0 => 0
  | i + 1 => linI f wo l k i + match l[i]? with
    | some x => if x.me && !decide ((i : Int) = wo) then (bi (f x.to) - bi (f x.fr)) * cmp k x.m else 0
    | none => 0
/-- Measured masses are as they may be. -/
def boundL (l : List Fl) : Prop := ∀ x ∈ l, x.me = true → ∀ k, -1000000000 ≤ cmp k x.m ∧ cmp k x.m ≤ 1000000000
theorem boundL_of {U : Int} {l : List Fl} (h : checkP U l = 0) : boundL l := by
  obtain ⟨u1, u2, u3, u4⟩ := checkP_u h
  have key : ∀ l : List Fl, firstE U l = 0 → ∀ x ∈ l, chkF U x = 0 := by
    intro l
    induction l with
    | nil => intro _ x hx; simp at hx
    | cons a r ih =>
      intro h x hx
      rw [firstE] at h
      by_cases ha : chkF U a = 0
      · rw [if_pos ha] at h
        rcases List.mem_cons.1 hx with hx | hx
        · rw [hx]; exact ha
        · exact ih h x hx
      · rw [if_neg ha] at h
        exact absurd h ha
  intro x hx hme k
  have hc := key l u4 x hx
  unfold chkF at hc
  rw [hme] at hc
  have hw : x.m.within 0 1000000000 = true := by
    cases hw : x.m.within 0 1000000000 with
    | true => rfl
    | false =>
      rw [hw] at hc
      split at hc
      · split at hc <;> simp at hc
      · simp at hc
  simp only [Ms.within, btw, Bool.and_eq_true, decide_eq_true_eq] at hw
  unfold cmp
  split <;> omega
theorem lin_bound {f : Int → Bool} {wo : Int} {l : List Fl} (hb : boundL l) (k : Nat) : ∀ n : Nat, -(1000000000 * (n : Int)) ≤ linI f wo l k n ∧ linI f wo l k n ≤ 1000000000 * (n : Int)
  | 0 => by simp [linI]
  | n + 1 => by
    have ih := lin_bound (f := f) (wo := wo) hb k n
    rw [linI]
    cases hx : l[n]? with
    | none => simp only []; omega
    | some x =>
      simp only []
      split
      · rename_i hc
        simp only [Bool.and_eq_true] at hc
        have := hb x (List.mem_of_getElem? hx) hc.1 k
        unfold bi
        split <;> split <;> simp only [Int.sub_self, Int.zero_mul, Int.sub_zero, Int.one_mul, Int.zero_sub] <;> omega
      · omega
theorem cmp_plus (k : Nat) (t : Int) (s m : Ms) : cmp k (s.plus t m) = wr (cmp k s + wr (t * cmp k m)) := by
  unfold cmp Ms.plus
  split <;> rfl
theorem ex_lin {f : Int → Bool} {wo : Int} {l : List Fl} (hb : boundL l) (k : Nat) : ∀ n : Nat, n ≤ 1000000 → cmp k (exI f wo l n) = linI f wo l k n
  | 0, _ => by unfold cmp; split <;> rfl
  | n + 1, h => by
    have ih := ex_lin (f := f) (wo := wo) hb k n (by omega)
    have bd := lin_bound (f := f) (wo := wo) hb k n
    rw [exI, linI]
    cases hx : l[n]? with
    | none => simp only []; rw [ih]; omega
    | some x =>
      simp only [exStep]
      cases hme : x.me with
      | false => simp [ih]
      | true =>
        have hm := hb x (List.mem_of_getElem? hx) hme k
        by_cases hw : (n : Int) = wo
        · simp [hw, ih]
        · simp only [Bool.not_true, Bool.false_or, decide_eq_false hw, Bool.true_and, Bool.not_false, if_true]
          cases h1 : f x.to <;> cases h2 : f x.fr
          · simp [bi, ih]
          · simp only [beq_iff_eq, Bool.false_eq_true, if_false, cmp_plus, ih, bi]
            rw [show wr (-1 * cmp k x.m) = -1 * cmp k x.m from wrap_ok (by omega) (by omega)]
            rw [show wr (linI f wo l k n + -1 * cmp k x.m) = linI f wo l k n + -1 * cmp k x.m from wrap_ok (by omega) (by omega)]
            simp
          · simp only [beq_iff_eq, Bool.true_eq_false, if_false, if_true, cmp_plus, ih, bi]
            rw [show wr (1 * cmp k x.m) = cmp k x.m from by rw [Int.one_mul]; exact wrap_ok (by omega) (by omega)]
            rw [show wr (linI f wo l k n + cmp k x.m) = linI f wo l k n + cmp k x.m from wrap_ok (by omega) (by omega)]
            simp
          · simp [bi, ih]
/-- Sums of sets. -/
theorem lin_add {U : Int} {l : List Fl} (hr : rngL U l) {f g h : Int → Bool} (wo : Int) (k : Nat) (e : ∀ x, -1 ≤ x → x < U → bi (f x) = bi (g x) + bi (h x)) : ∀ n, linI f wo l k n = linI g wo l k n + linI h wo l k n
  | 0 => rfl
  | n + 1 => by
    have ih := lin_add hr wo k e n
    simp only [linI]
    cases hx : l[n]? with
    | none => simp only []; omega
    | some x =>
      obtain ⟨r1, r2, r3, r4⟩ := hr x (List.mem_of_getElem? hx)
      simp only []
      split
      · rw [e _ r1 r2, e _ r3 r4, ih, Int.sub_mul, Int.add_mul, Int.add_mul, Int.sub_mul, Int.sub_mul]
        omega
      · omega
theorem lin_zero {U : Int} {l : List Fl} (hr : rngL U l) {f : Int → Bool} (wo : Int) (k : Nat) (e : ∀ x, -1 ≤ x → x < U → f x = false) (n : Nat) : linI f wo l k n = 0 := by
  have := lin_add hr (f := f) (g := f) (h := f) wo k (fun x h1 h2 => by rw [e x h1 h2]; rfl) n
  omega
theorem lin_skip {f : Int → Bool} {l : List Fl} {i : Nat} {x : Fl} (hx : l[i]? = some x) (hm : x.me = false) (k : Nat) : ∀ n, linI f (-1) l k n = linI f i l k n
  | 0 => rfl
  | n + 1 => by
    have ih := lin_skip (f := f) hx hm k n
    simp only [linI, ih]
    cases hy : l[n]? with
    | none => rfl
    | some y =>
      have h1 : ¬ ((n : Int) = -1) := by omega
      by_cases hn : n = i
      · subst hn
        rw [hx] at hy
        simp only [Option.some.injEq] at hy
        subst hy
        simp [hm]
      · have h2 : ¬ ((n : Int) = (i : Int)) := by omega
        simp [h1, h2]

section
variable {U : Nat} {l : List Fl}
/-- No part has an excess. -/
def NoClash (U : Nat) (l : List Fl) : Prop := clF (gI (-1) l l.length) U l U = none
theorem noClash_head (h : checkP U l = 0) (hc : NoClash U l) {u : Int} (h1 : 0 ≤ u) (h2 : u < U) (hg : gI (-1) l l.length u = u) (k : Nat) : linI (fun x => decide (gI (-1) l l.length x = u)) (-1) l k l.length = 0 := by
  have hr := rngL_of h
  obtain ⟨n, hn1, hn2, hn3⟩ := cl_ix (gI (-1) l l.length) U l
  have hnU : n = U := by
    rcases hn3 with ⟨h3, _⟩ | ⟨us, k, _, _, _, _, h7⟩
    · exact h3
    · rw [hc] at h7; simp at h7
  have hp := hn2 u.toNat (by omega)
  have hu : ((u.toNat : Nat) : Int) = u := by omega
  rw [clP, hu, if_pos hg, Option.map_eq_none_iff] at hp
  have e := ex_side hr (gI_m1 h (-1) l.length) u.toNat
  rw [hu] at e
  rw [e] at hp
  obtain ⟨u1, u2, u3, u4⟩ := checkP_u h
  rw [← ex_lin (boundL_of h) k l.length (by omega)]
  rcases kd_cases (exI (fun x => decide (gI (-1) l l.length x = u)) (-1) l l.length) with ⟨⟨q1, q2, q3, q4⟩, _⟩ | ⟨_, q⟩ | ⟨_, q⟩ | ⟨_, q⟩ | ⟨_, q⟩
  · unfold cmp
    split
    · exact of_eq_true q1
    · exact of_eq_true q2
    · exact of_eq_true q3
    · exact of_eq_true q4
  all_goals (rw [hp] at q; simp at q)
/-- How many units a set has. -/
def sizeS (S : Int → Bool) : Nat → Nat
  | 0 => 0
  | u + 1 => sizeS S u + if S u then 1 else 0
theorem sizeS_lt {S T : Int → Bool} (h : ∀ x, T x = true → S x = true) {u : Nat} (h1 : S u = true) (h2 : T u = false) : ∀ n, u < n → sizeS T n < sizeS S n
  | 0, hn => by omega
  | n + 1, hn => by
    have hle : ∀ m, sizeS T m ≤ sizeS S m := by
      intro m
      induction m with
      | zero => exact Nat.le_refl _
      | succ m ih =>
        simp only [sizeS]
        have := h m
        cases hT : T m with
        | false => simp; omega
        | true => rw [this hT]; simp; omega
    simp only [sizeS]
    by_cases hu : u = n
    · subst hu
      rw [h1, h2]
      have := hle u
      simp; omega
    · have ih := sizeS_lt h h1 h2 n (by omega)
      have := h n
      cases hT : T n with
      | false => simp; omega
      | true => rw [this hT]; simp; omega
/-- A set that no unmeasured flow leaves, without the outside, has no excess. -/
theorem closed_zero (h : checkP U l = 0) (hc : NoClash U l) (k : Nat) : ∀ (m : Nat) (S : Int → Bool), sizeS S U ≤ m → ClosedS (-1) l S → S (-1) = false → linI S (-1) l k l.length = 0 := by
  have hr := rngL_of h
  intro m
  induction m with
  | zero =>
    intro S hs _ ho
    refine lin_zero hr (-1) k (fun x h1 h2 => ?_) _
    by_cases hx : x = -1
    · rw [hx]; exact ho
    · cases hS : S x with
      | false => rfl
      | true =>
        have : sizeS (fun _ => false) U < sizeS S U := sizeS_lt (u := x.toNat) (fun y hy => by simp at hy) (by rw [show ((x.toNat : Nat) : Int) = x by omega]; exact hS) rfl U (by omega)
        omega
  | succ m ih =>
    intro S hs hcl ho
    by_cases hex : ∃ u : Nat, u < U ∧ S u = true
    · obtain ⟨u, hu, hSu⟩ := hex
      obtain ⟨a1, a2, a3⟩ := gI_ok h (-1) l.length u (by omega) (by omega)
      have hSg := closed_gI hcl l.length u
      rw [hSu] at hSg
      have hg0 : 0 ≤ gI (-1) l l.length u := by
        by_cases hq : gI (-1) l l.length u = -1
        · rw [hq, ho] at hSg; simp at hSg
        · omega
      have hz := noClash_head h hc hg0 (by omega) a3 k
      have hsub : ∀ x, gI (-1) l l.length x = gI (-1) l l.length u → S x = true := fun x hx => by rw [closed_same hcl hx]; exact hSu
      have h2 := ih (fun x => S x && !decide (gI (-1) l l.length x = gI (-1) l l.length u)) (by
        have := sizeS_lt (S := S) (T := fun x => S x && !decide (gI (-1) l l.length x = gI (-1) l l.length u)) (u := u) (fun x hx => by simp only [Bool.and_eq_true] at hx; exact hx.1) hSu (by simp) U hu
        omega) (by
        intro i x hx hme hw
        have hi : i < l.length := by rw [List.getElem?_eq_some_iff] at hx; exact hx.1
        simp only [hcl i x hx hme hw, gI_joined hx hme hw l.length hi]) (by simp [ho])
      rw [lin_add hr (f := S) (-1) k (g := fun x => S x && !decide (gI (-1) l l.length x = gI (-1) l l.length u)) (h := fun x => decide (gI (-1) l l.length x = gI (-1) l l.length u)) (fun x _ _ => by
        by_cases hx : gI (-1) l l.length x = gI (-1) l l.length u
        · rw [hsub x hx]; simp [hx, bi]
        · simp [hx, bi]) l.length, h2, hz]
      rfl
    · refine lin_zero hr (-1) k (fun x h1 h2 => ?_) _
      by_cases hx : x = -1
      · rw [hx]; exact ho
      · cases hS : S x with
        | false => rfl
        | true => exact absurd ⟨x.toNat, by omega, by rw [show ((x.toNat : Nat) : Int) = x by omega]; exact hS⟩ hex

/-- What is found, by any set that only this unmeasured flow leaves. -/
theorem found_by (h : checkP U l = 0) (hc : NoClash U l) {j : Nat} {x : Fl} (hx : l[j]? = some x) (hme : x.me = false) {S : Int → Bool} (hcl : ClosedS j l S) (ho : S (-1) = false) (hne : S x.fr ≠ S x.to) :
    (knAt l j x).s = 2 ∧ ∀ k, cmp k (knAt l j x).m = (bi (S x.fr) - bi (S x.to)) * linI S (-1) l k l.length := by
  have hr := rngL_of h
  obtain ⟨u1, u2, u3, u4⟩ := checkP_u h
  have hj : j < l.length := by rw [List.getElem?_eq_some_iff] at hx; exact hx.1
  have hb := boundL_of h
  have gnj : ¬ gI j l l.length x.fr = gI j l l.length x.to := fun e => hne (closed_same hcl e)
  have gm1 := gI_m1 h j l.length
  have sm : ∀ y, gI j l l.length y = -1 → S y = false := fun y hy => by rw [closed_same hcl (n := l.length) (x := y) (y := -1) (by rw [hy, gm1])]; exact ho
  have cls : ∀ c, ClosedS j l fun y => decide (gI j l l.length y = c) := by
    intro c i y hy hm hw
    have hi : i < l.length := by rw [List.getElem?_eq_some_iff] at hy; exact hy.1
    simp only [gI_joined hy hm hw l.length hi]
  have side : ∀ c k, cmp k (sideX l j c) = linI (fun y => decide (gI j l l.length y = c)) (-1) l k l.length := by
    intro c k
    rw [sideX, ex_lin hb k l.length (by omega), lin_skip hx hme]
  -- a set that this flow does not leave either
  have zero : ∀ (T : Int → Bool) k, ClosedS j l T → T x.fr = T x.to → T (-1) = false → linI T (-1) l k l.length = 0 := by
    intro T k h1 h2 h3
    refine closed_zero h hc k (sizeS T U) T (Nat.le_refl _) (fun i y hy hm _ => ?_) h3
    by_cases hij : i = j
    · subst hij
      rw [hx] at hy
      simp only [Option.some.injEq] at hy
      subst hy
      exact h2
    · exact h1 i y hy hm (by omega)
  -- a class within the set is all that matters
  have part : ∀ y k, S y = true → (∀ z, (z = x.fr ∨ z = x.to) → S z = true → gI j l l.length z = gI j l l.length y) → linI S (-1) l k l.length = linI (fun z => decide (gI j l l.length z = gI j l l.length y)) (-1) l k l.length := by
    intro y k hy hz
    have hsub : ∀ z, gI j l l.length z = gI j l l.length y → S z = true := fun z hz => by rw [closed_same hcl hz]; exact hy
    rw [lin_add hr (f := S) (-1) k (g := fun z => S z && !decide (gI j l l.length z = gI j l l.length y)) (h := fun z => decide (gI j l l.length z = gI j l l.length y)) (fun z _ _ => by
      by_cases hq : gI j l l.length z = gI j l l.length y
      · rw [hsub z hq]; simp [hq, bi]
      · simp [hq, bi]) l.length]
    rw [zero (fun z => S z && !decide (gI j l l.length z = gI j l l.length y)) k]
    · omega
    · intro i z hz' hm hw
      have e1 := hcl i z hz' hm hw
      have e2 := cls (gI j l l.length y) i z hz' hm hw
      simp only at e2
      simp only [e1, e2]
    · have z1 : (S x.fr && !decide (gI j l l.length x.fr = gI j l l.length y)) = false := by
        cases hs : S x.fr with
        | false => rfl
        | true => simp [hz _ (.inl rfl) hs]
      have z2 : (S x.to && !decide (gI j l l.length x.to = gI j l l.length y)) = false := by
        cases hs : S x.to with
        | false => rfl
        | true => simp [hz _ (.inr rfl) hs]
      simp only [z1, z2]
    · simp [ho]
  have bnd : ∀ c k, -(20000000000 : Int) ≤ cmp k (sideX l j c) ∧ cmp k (sideX l j c) ≤ 20000000000 := by
    intro c k
    have := lin_bound (f := fun y => decide (gI j l l.length y = c)) (wo := -1) hb k l.length
    rw [side c k]
    omega
  have neg : ∀ c k, cmp k (Ms.zero.plus (-1) (sideX l j c)) = - cmp k (sideX l j c) := by
    intro c k
    have := bnd c k
    have hz : cmp k Ms.zero = 0 := by unfold cmp; split <;> rfl
    rw [cmp_plus, hz, show wr (-1 * cmp k (sideX l j c)) = -1 * cmp k (sideX l j c) from wrap_ok (by omega) (by omega), show wr (0 + -1 * cmp k (sideX l j c)) = 0 + -1 * cmp k (sideX l j c) from wrap_ok (by omega) (by omega)]
    omega
  unfold knAt foundP
  rw [if_neg gnj]
  cases hf : S x.fr with
  | true =>
    have ht : S x.to = false := by cases ht : S x.to with
      | false => rfl
      | true => rw [hf, ht] at hne; exact absurd rfl hne
    have hn1 : ¬ gI j l l.length x.fr = -1 := fun e => by have := sm _ e; rw [hf] at this; simp at this
    rw [if_neg hn1]
    simp only [knF, hme]
    refine ⟨rfl, fun k => ?_⟩
    have := part x.fr k hf (fun z hz hs => by
      rcases hz with rfl | rfl
      · rfl
      · rw [ht] at hs; simp at hs)
    simp only [Bool.false_eq_true, if_false]
    rw [side, ← this, ht]
    simp [bi]
  | false =>
    have ht : S x.to = true := by cases ht : S x.to with
      | true => rfl
      | false => rw [hf, ht] at hne; exact absurd rfl hne
    have hp := fun k => part x.to k ht (fun z hz hs => by
      rcases hz with rfl | rfl
      · rw [hf] at hs; simp at hs
      · rfl)
    by_cases hn1 : gI j l l.length x.fr = -1
    · rw [if_pos hn1]
      simp only [knF, hme]
      refine ⟨rfl, fun k => ?_⟩
      simp only [Bool.false_eq_true, if_false]
      rw [neg, side, ← hp k, ht]
      simp [bi]
    · rw [if_neg hn1]
      simp only [knF, hme]
      refine ⟨rfl, fun k => ?_⟩
      simp only [Bool.false_eq_true, if_false]
      -- both sides together
      have hz := zero (fun z => decide (gI j l l.length z = gI j l l.length x.fr) || decide (gI j l l.length z = gI j l l.length x.to)) k (by
        intro i z hz' hm hw
        have e2 := cls (gI j l l.length x.fr) i z hz' hm hw
        have e3 := cls (gI j l l.length x.to) i z hz' hm hw
        simp only at e2 e3
        simp only [e2, e3]) (by simp) (by
        have hto : ¬ gI j l l.length x.to = -1 := fun e => by have := sm _ e; rw [ht] at this; simp at this
        simp [gm1, Ne.symm hn1, Ne.symm hto])
      rw [lin_add hr (f := fun z => decide (gI j l l.length z = gI j l l.length x.fr) || decide (gI j l l.length z = gI j l l.length x.to)) (-1) k (g := fun z => decide (gI j l l.length z = gI j l l.length x.fr)) (h := fun z => decide (gI j l l.length z = gI j l l.length x.to)) (fun z _ _ => by
        by_cases h1 : gI j l l.length z = gI j l l.length x.fr
        · have : ¬ gI j l l.length z = gI j l l.length x.to := fun e => gnj (h1.symm.trans e)
          simp [h1, bi, gnj]
        · simp [h1, bi]) l.length] at hz
      rw [side, ht, hp k]
      simp only [bi, if_true, Bool.false_eq_true, if_false]
      omega
end
end Go.Proofs.Ytdbikamciedfdaa
namespace Go.Proofs.Ytdbikamciedfdaa
open Go Go.DL
set_option maxRecDepth 100000
set_option maxHeartbeats 1000000

end Go.Proofs.Ytdbikamciedfdaa
namespace Go.Proofs.Ytdbikamciedfdaa
open Go Go.DL
set_option maxRecDepth 100000
set_option maxHeartbeats 1000000

/-- A mill. -/
structure Mi where
  u : Int
  ends : List (Int × Int)
  mass : List Int
  kn : Int
abbrev miC (m : Mi) : List AV := [.int .u8 m.u, .fs (m.ends.map fun e => [.int .u8 e.1, .int .u8 e.2]), .fs (m.mass.map fun v => [.int .u8 v]), .int .u16 m.kn]
structure Mi.Ok (m : Mi) : Prop where
  u : 0 ≤ m.u ∧ m.u ≤ 255
  ends : ∀ e ∈ m.ends, (0 ≤ e.1 ∧ e.1 ≤ 255) ∧ (0 ≤ e.2 ∧ e.2 ≤ 255)
  mass : ∀ v ∈ m.mass, 0 ≤ v ∧ v ≤ 255
/-- The masses by numbers. -/
def mval (m : Mi) (i k : Nat) : Int := if m.mass.length = 0 then 1 else m.mass.getD ((4 * i + k) % m.mass.length) 0
theorem mval_bd {m : Mi} (h : m.Ok) (i k : Nat) : 0 ≤ mval m i k ∧ mval m i k ≤ 255 := by
  unfold mval
  split
  · omega
  · rename_i hz
    have hlt : (4 * i + k) % m.mass.length < m.mass.length := Nat.mod_lt _ (by omega)
    rw [List.getD_eq_getElem?_getD, List.getElem?_eq_getElem hlt]
    exact h.mass _ (List.getElem_mem hlt)
theorem tmod_nat (a b : Nat) : (a : Int).tmod (b : Int) = ((a % b : Nat) : Int) := by
  rw [Int.tmod_eq_emod_of_nonneg (by omega)]; exact (Int.natCast_emod a b).symm
abbrev hMi (m : Mi) : XH := [some (.blk true (.cells true (miC m)))]
theorem w54 {m : Mi} (h : m.Ok) (i : Nat) (hi : i < 1000) (k : Int) (kk : Nat) (hk : k = kk) (hk2 : kk < 4) : runW progX 54 [I i, I k, .pt 0 0] (hMi m) = some (I (mval m i kk), hMi m) := by
  by_cases hz : m.mass.length = 0
  · have g : ((m.mass.length : Int) = 0) = True := eq_true (by omega)
    have e : mval m i kk = 1 := if_pos hz
    rw [e]
    rw [r54 (by simp)]; unfold x54; dsimp only
    (sym => (simp [etaM, etaF, z00,z01,z05,z07,z08,z0b,z0c,z0n,z0v,z11,z12,z15,z1f,z1j,z1k,z1l,z1m,z28,z29,z2b,z2g,z2h,z2j,z2l,z2n,z2t,z33,z34,z4l,z66,z6p,z7r,z7z,z9d,z9e,z9g,z9n,z9p,z9y,za3,za5,za6,za7,za8,zae,zaf,zak,zal,zba,zbt,zbu,zbw,zbx,zby,zbz,zc0,zc3,zc4,zc5,zc6,zc8,zce,zcf,zcg,zcj,zcn,zco,zcr,zcs,zct,zcu,zcv,zcw,zcx,zcy,zdd,zdk,zdl,zdo,zds,zdt,ze2,ze3,zf6,zf7,zf8,zf9,zfb,zfm,zfo,zfp,zfq,zft,zfv,zg0,zg1, g]; all_goals tactic => exact rfl))
  · have g : ((m.mass.length : Int) = 0) = False := eq_false (by omega)
    have hlt : (4 * i + kk) % m.mass.length < m.mass.length := Nat.mod_lt _ (by omega)
    have e : mval m i kk = m.mass.getD ((4 * i + kk) % m.mass.length) 0 := if_neg hz
    have g1 : IntKind.i64.wrap (4 * (i : Int)) = 4 * (i : Int) := wrap_ok (by omega) (by omega)
    have g2 : IntKind.i64.wrap (4 * (i : Int) + k) = ((4 * i + kk : Nat) : Int) := by rw [wrap_ok (by omega) (by omega), hk]; omega
    have g3 := tmod_nat (4 * i + kk) m.mass.length
    have g4 : m.mass[(4 * i + kk) % m.mass.length]? = some (mval m i kk) := by
      rw [e, List.getD_eq_getElem?_getD, List.getElem?_eq_getElem hlt]; rfl
    have bd := mval_bd h i kk
    have g5 : IntKind.i64.wrap (mval m i kk) = mval m i kk := wrap_ok (by omega) (by omega)
    have g6 : ((((4 * i + kk) % m.mass.length : Nat) : Int) < (m.mass.length : Int)) = True := eq_true (by omega)
    clear e
    generalize mval m i kk = v at *
    generalize (4 * i + kk) % m.mass.length = j at *
    generalize 4 * i + kk = q at *
    rw [r54 (by simp)]; unfold x54; dsimp only
    (sym => (simp [etaM, etaF, z00,z01,z05,z07,z08,z0b,z0c,z0n,z0v,z11,z12,z15,z1f,z1j,z1k,z1l,z1m,z28,z29,z2b,z2g,z2h,z2j,z2l,z2n,z2t,z33,z34,z4l,z66,z6p,z7r,z7z,z9d,z9e,z9g,z9n,z9p,z9y,za3,za5,za6,za7,za8,zae,zaf,zak,zal,zba,zbt,zbu,zbw,zbx,zby,zbz,zc0,zc3,zc4,zc5,zc6,zc8,zce,zcf,zcg,zcj,zcn,zco,zcr,zcs,zct,zcu,zcv,zcw,zcx,zcy,zdd,zdk,zdl,zdo,zds,zdt,ze2,ze3,zf6,zf7,zf8,zf9,zfb,zfm,zfo,zfp,zfq,zft,zfv,zg0,zg1, g, g1, g2, g3, g4, g5, g6]; all_goals tactic => exact rfl))
end Go.Proofs.Ytdbikamciedfdaa
namespace Go.Proofs.Ytdbikamciedfdaa
open Go Go.DL
set_option maxRecDepth 100000
set_option maxHeartbeats 4000000

/-! ### What is left to each unit -/
def restL (r : Nat → Int) : List Int := (List.range 16).map r
def upN (r : Nat → Int) (j : Nat) (v : Int) : Nat → Int := fun x => if x = j then v else r x
theorem rest_set {o : Nat} (h : o < 16) (r : Nat → Int) (v : Int) : setX (restL r) o v = restL (upN r o v) := by
  rw [setX_set (by simp [restL]; exact h)]
  apply List.ext_getElem
  · simp [restL]
  · intro k h1 h2
    rw [List.getElem_set]
    simp only [restL, List.getElem_map, List.getElem_range, upN]
    by_cases hk : o = k
    · simp [hk]
    · rw [if_neg hk, if_neg (Ne.symm hk)]
theorem rest_get {o : Nat} (h : o < 16) (r : Nat → Int) : (restL r)[o]? = some (r o) := by
  unfold restL
  rw [List.getElem?_map, List.getElem?_range h]; rfl
theorem rest_len {o : Nat} (h : o < 16) (r : Nat → Int) : (o + 1 ≤ (restL r).length) = True := eq_true (by simp [restL]; omega)
theorem rest_row {o : Nat} (h : o + 4 ≤ 16) (r : Nat → Int) : (((restL r).map I).drop o).take 4 = [I (r o), I (r (o + 1)), I (r (o + 2)), I (r (o + 3))] := by
  rw [← List.map_drop, ← List.map_take]
  have : ((restL r).drop o).take 4 = [r o, r (o + 1), r (o + 2), r (o + 3)] := by
    apply List.ext_getElem
    · simp [restL]; omega
    · intro k h1 h2
      have hk : k < 4 := by simpa using h2
      rw [List.getElem_take, List.getElem_drop]
      simp only [restL, List.getElem_map, List.getElem_range]
      match k, hk with
      | 0, _ => rfl
      | 1, _ => rfl
      | 2, _ => rfl
      | 3, _ => rfl
  rw [this]; rfl

def addK (t : Int) (k : Nat) (v : Int) (r : Nat → Int) : Nat → Int := if 0 ≤ t then upN r (t.toNat * 4 + k) (wr (r (t.toNat * 4 + k) + v)) else r
def subK (t : Int) (k : Nat) (v : Int) (r : Nat → Int) : Nat → Int := if 0 ≤ t then upN r (t.toNat * 4 + k) (wr (r (t.toNat * 4 + k) - v)) else r
def stepK (fr to : Int) (m : Mi) (i k : Nat) (r : Nat → Int) : Nat → Int := subK fr k (mval m i k) (addK to k (mval m i k) r)

def Mi.n (m : Mi) : Nat := 1 + m.u.toNat % 4
def meB (kn : Int) (i : Nat) : Bool := decide (bitsA .and .u16 (kn.fdiv (2 ^ min i IntKind.u16.bits)) 1 = 1)
def e1I (m : Mi) (e : Int × Int) : Int := e.1.tmod ((m.n : Int) + 1) - 1
def e2I (m : Mi) (e : Int × Int) : Int := if e1I m e = e.2.tmod ((m.n : Int) + 1) - 1 then (e1I m e + 2).tmod ((m.n : Int) + 1) - 1 else e.2.tmod ((m.n : Int) + 1) - 1
def mass4 (m : Mi) (i : Nat) : Ms := ⟨mval m i 0, mval m i 1, mval m i 2, mval m i 3⟩
/-- The flow of ends. -/
def mkF (m : Mi) (i : Nat) (e : Int × Int) : Fl := ⟨e1I m e, e2I m e, meB m.kn i, if meB m.kn i then mass4 m i else Ms.zero⟩
def flT (m : Mi) : Nat → List Fl
  | 0 => []
  | i + 1 => match m.ends[i]? with
    | some e => flT m i ++ [mkF m i e]
    | none => flT m i
def rlT (m : Mi) : Nat → List Ms
  | 0 => []
  | i + 1 => rlT m i ++ [mass4 m i]
def rsT (m : Mi) : Nat → Nat → Int
  | 0 => fun _ => 0
  | i + 1 => match m.ends[i]? with
    | some e => stepK (e1I m e) (e2I m e) m i 3 (stepK (e1I m e) (e2I m e) m i 2 (stepK (e1I m e) (e2I m e) m i 1 (stepK (e1I m e) (e2I m e) m i 0 (rsT m i))))
    | none => rsT m i
abbrev Ms.row (x : Ms) : List AV := [I x.a, I x.b, I x.c, I x.d]
theorem ms_ok (k : List Ms) : RowsOk 4 (k.map Ms.row) := by
  intro r hr
  simp only [List.mem_map] at hr
  obtain ⟨x, _, rfl⟩ := hr
  exact ⟨rfl, rfl, rfl, rfl⟩
theorem fl_ok (k : List Fl) : RowsOk 7 (k.map Fl.row) := by
  intro r hr
  simp only [List.mem_map] at hr
  obtain ⟨x, _, rfl⟩ := hr
  exact ⟨rfl, rfl, rfl, rfl⟩
def cF (l : List Fl) : List AV := (l.map Fl.row).flatten
def cM (l : List Ms) : List AV := (l.map Ms.row).flatten
theorem cF_gr (l : List Fl) : grL (cF l) = true := (rows_cells (fl_ok _)).1
theorem cF_nm (l : List Fl) : nmL (cF l) = [] := (rows_cells (fl_ok _)).2.1
theorem cF_sl (l : List Fl) : slL (cF l) = [] := (rows_cells (fl_ok _)).2.2.1
theorem cF_len (l : List Fl) : (cF l).length = l.length * 7 := by rw [cF, (rows_cells (fl_ok _)).2.2.2, List.length_map]
theorem cF_app (l : List Fl) (x : Fl) : cF (l ++ [x]) = cF l ++ x.row := by simp [cF]
theorem cM_gr (l : List Ms) : grL (cM l) = true := (rows_cells (ms_ok _)).1
theorem cM_nm (l : List Ms) : nmL (cM l) = [] := (rows_cells (ms_ok _)).2.1
theorem cM_sl (l : List Ms) : slL (cM l) = [] := (rows_cells (ms_ok _)).2.2.1
theorem cM_len (l : List Ms) : (cM l).length = l.length * 4 := by rw [cM, (rows_cells (ms_ok _)).2.2.2, List.length_map]
theorem cM_app (l : List Ms) (x : Ms) : cM (l ++ [x]) = cM l ++ x.row := by simp [cM]
theorem flT_len (m : Mi) : ∀ i, i ≤ m.ends.length → (flT m i).length = i
  | 0, _ => rfl
  | i + 1, h => by
    have ih := flT_len m i (by omega)
    rw [flT, List.getElem?_eq_getElem (show i < m.ends.length by omega)]
    simp only [List.length_append, ih, List.length_cons, List.length_nil]
theorem rlT_len (m : Mi) : ∀ i, (rlT m i).length = i
  | 0 => rfl
  | i + 1 => by rw [rlT, List.length_append, rlT_len m i]; rfl
/-- How many ends are looked at. -/
def Mi.c (m : Mi) : Nat := min m.ends.length 6
abbrev rw4 (r : Nat → Int) (u : Nat) : Ms := ⟨r (u * 4), r (u * 4 + 1), r (u * 4 + 2), r (u * 4 + 3)⟩
def mkMe (m : Mi) (r : Nat → Int) (u : Nat) : Bool := meB m.kn (6 + u) && (decide (0 ≤ r (u * 4)) && (decide (0 ≤ r (u * 4 + 1)) && (decide (0 ≤ r (u * 4 + 2)) && decide (0 ≤ r (u * 4 + 3)))))
/-- The flow of a unit to outside. -/
def mkC (m : Mi) (r : Nat → Int) (u : Nat) : Fl := ⟨u, -1, mkMe m r u, if mkMe m r u then rw4 r u else Ms.zero⟩
def flU (m : Mi) : Nat → List Fl
  | 0 => flT m m.c
  | u + 1 => flU m u ++ [mkC m (rsT m m.c) u]
def rlU (m : Mi) : Nat → List Ms
  | 0 => rlT m m.c
  | u + 1 => rlU m u ++ [rw4 (rsT m m.c) u]
theorem flU_len (m : Mi) : ∀ u, (flU m u).length = m.c + u
  | 0 => flT_len m _ (Nat.min_le_left _ _)
  | u + 1 => by rw [flU, List.length_append, flU_len m u]; rfl
theorem rlU_len (m : Mi) : ∀ u, (rlU m u).length = m.c + u
  | 0 => rlT_len m _
  | u + 1 => by rw [rlU, List.length_append, rlU_len m u]; rfl

abbrev XM (m : Mi) : Option XB := some (.blk true (.cells true (miC m)))
abbrev RM : Option XB := some (.blk true (.cells true [I 0, .nilsl]))
def gM (m : Mi) (j : Nat) (fl : List Fl) (rl : List Ms) (r : Nat → Int) : XH := if j = 0 then [XM m, RM, some (.blk true (.cells true [I m.n, .nilsl])), some (.blk true (.cells true ((restL r).map I)))] else
  [XM m, RM, some (.blk false (.cells true [I m.n, .sl 3 0 7 j])), some (.blk true (.cells true (cF fl))), some (.blk true (.cells true (cM rl))), some (.blk true (.cells true ((restL r).map I)))]
theorem gM_0 (m : Mi) (fl : List Fl) (rl : List Ms) (r : Nat → Int) : gM m 0 fl rl r = [XM m, RM, some (.blk true (.cells true [I m.n, .nilsl])), some (.blk true (.cells true ((restL r).map I)))] := rfl
theorem gM_1 {m : Mi} {j : Nat} (h : j ≠ 0) (fl : List Fl) (rl : List Ms) (r : Nat → Int) : gM m j fl rl r = [XM m, RM, some (.blk false (.cells true [I m.n, .sl 3 0 7 j])), some (.blk true (.cells true (cF fl))), some (.blk true (.cells true (cM rl))), some (.blk true (.cells true ((restL r).map I)))] := if_neg h
def sR (j : Nat) : AV := if j = 0 then .nilsl else .sl 4 0 4 j
def pR (j : Nat) : AV := if j = 0 then .pt 3 0 else .pt 5 0
end Go.Proofs.Ytdbikamciedfdaa
namespace Go.Proofs.Ytdbikamciedfdaa
open Go Go.DL
set_option maxRecDepth 100000
set_option maxHeartbeats 8000000

theorem n_bd (m : Mi) : 1 ≤ m.n ∧ m.n ≤ 4 := by unfold Mi.n; omega
theorem tmod_bd {a : Int} {n : Nat} (h0 : 0 ≤ a) (hn : 1 ≤ n) : 0 ≤ a.tmod ((n : Int) + 1) ∧ a.tmod ((n : Int) + 1) < (n : Int) + 1 := by
  rw [Int.tmod_eq_emod_of_nonneg h0]
  exact ⟨Int.emod_nonneg _ (by omega), Int.emod_lt_of_pos _ (by omega)⟩
theorem ends_bd {m : Mi} {e : Int × Int} (h1 : 0 ≤ e.1 ∧ e.1 ≤ 255) (h2 : 0 ≤ e.2 ∧ e.2 ≤ 255) : -1 ≤ e1I m e ∧ e1I m e < m.n ∧ -1 ≤ e2I m e ∧ e2I m e < m.n ∧ e1I m e ≠ e2I m e := by
  obtain ⟨n1, n2⟩ := n_bd m
  have a := tmod_bd (n := m.n) h1.1 n1
  have b := tmod_bd (n := m.n) h2.1 n1
  have he : e1I m e = e.1.tmod ((m.n : Int) + 1) - 1 := rfl
  have c := tmod_bd (a := e1I m e + 2) (n := m.n) (by omega) n1
  unfold e2I
  split
  · rename_i hq
    refine ⟨by omega, by omega, by omega, by omega, ?_⟩
    rw [Int.tmod_eq_emod_of_nonneg (by omega)]
    by_cases hl : e1I m e + 2 < (m.n : Int) + 1
    · rw [Int.emod_eq_of_lt (by omega) hl]; omega
    · rw [show e1I m e + 2 = 0 + ((m.n : Int) + 1) + (e1I m e + 2 - ((m.n : Int) + 1)) by omega]
      have : e1I m e + 2 = (m.n : Int) + 1 := by omega
      rw [this]
      simp
      omega
  · rename_i hq
    exact ⟨by omega, by omega, by omega, by omega, hq⟩
theorem c_lt {m : Mi} {i : Nat} (hi : i < m.c) : i < m.ends.length ∧ i < 6 := by unfold Mi.c at hi; omega

theorem made_r1 {m : Mi} (h : m.Ok) {i : Nat} (hi : i < m.c) :
    headX 0 [1, 2, 4, 5, 6, 7, 8, 9] (execW progX 29 0 none (match x29l1 with | .loop _ a => a | c => c) (envL [1, 2, 4, 5, 6, 7, 8, 9] [.pt 0 0, .pt 1 0, I m.n, .pt 2 0, sR i, pR i, .fn (.func 54) [] [.pt 0 0], I (i : Nat)]) (gM m i (flT m i) (rlT m i) (rsT m i))) =
      some ([.pt 0 0, .pt 1 0, I m.n, .pt 2 0, sR (i + 1), pR (i + 1), .fn (.func 54) [] [.pt 0 0], I (i + 1 : Nat)], gM m (i + 1) (flT m (i + 1)) (rlT m (i + 1)) (rsT m (i + 1))) := by
  obtain ⟨i1, i2⟩ := c_lt hi
  obtain ⟨n1, n2⟩ := n_bd m
  obtain ⟨e, a0⟩ := at_ix i1
  have hm : e ∈ m.ends := List.mem_of_getElem? a0
  obtain ⟨h1, h2⟩ := h.ends e hm
  obtain ⟨b1, b2, b3, b4, b5⟩ := ends_bd (m := m) h1 h2
  have t1 := tmod_bd (n := m.n) h1.1 n1
  have t2 := tmod_bd (n := m.n) h2.1 n1
  have eF : flT m (i + 1) = flT m i ++ [⟨e1I m e, e2I m e, meB m.kn i, if meB m.kn i then mass4 m i else Ms.zero⟩] := by rw [flT, a0]; rfl
  have eM : rlT m (i + 1) = rlT m i ++ [⟨mval m i 0, mval m i 1, mval m i 2, mval m i 3⟩] := rfl
  have eR : rsT m (i + 1) = stepK (e1I m e) (e2I m e) m i 3 (stepK (e1I m e) (e2I m e) m i 2 (stepK (e1I m e) (e2I m e) m i 1 (stepK (e1I m e) (e2I m e) m i 0 (rsT m i)))) := by rw [rsT, a0]
  have lF := flT_len m i (by omega)
  have lM := rlT_len m i
  have k0 := w54 h i (by omega) 0 0 rfl (by omega)
  have k1 := w54 h i (by omega) 1 1 rfl (by omega)
  have k2 := w54 h i (by omega) 2 2 rfl (by omega)
  have k3 := w54 h i (by omega) 3 3 rfl (by omega)
  have a1 : ((i : Int) < (m.ends.length : Int)) = True := eq_true (by omega)
  have a2 : ((i : Int) < 6) = True := eq_true (by omega)
  have a3 : ((i : Int) < 0) = False := eq_false (by omega)
  have a4 : IntKind.i64.wrap e.1 = e.1 := wrap_ok (by omega) (by omega)
  have a5 : IntKind.i64.wrap e.2 = e.2 := wrap_ok (by omega) (by omega)
  have a6 : IntKind.i64.wrap ((m.n : Int) + 1) = (m.n : Int) + 1 := wrap_ok (by omega) (by omega)
  have a7 : ((m.n : Int) + 1 = 0) = False := eq_false (by omega)
  have a8 : IntKind.i64.wrap (e.1.tmod ((m.n : Int) + 1) - 1) = e1I m e := wrap_ok (by omega) (by omega)
  have c1 : (e2I m e < 4) = True := eq_true (by omega)
  have c2 : (e1I m e < 4) = True := eq_true (by omega)
  have p1 : (e1I m e).toNat * 4 + 3 < 16 := by omega
  have p2 : (e2I m e).toNat * 4 + 3 < 16 := by omega
  have me : meB m.kn i = decide (bitsA .and .u16 (m.kn.fdiv (2 ^ min i IntKind.u16.bits)) 1 = 1) := rfl
  have eq2 : ((e1I m e = e.2.tmod ((m.n : Int) + 1) - 1) = True ∧ IntKind.i64.wrap (e1I m e + 2) = e1I m e + 2 ∧ IntKind.i64.wrap ((e1I m e + 2).tmod ((m.n : Int) + 1) - 1) = e2I m e ∧ IntKind.i64.wrap (e.2.tmod ((m.n : Int) + 1) - 1) = e.2.tmod ((m.n : Int) + 1) - 1) ∨ ((e1I m e = e2I m e) = False ∧ IntKind.i64.wrap (e.2.tmod ((m.n : Int) + 1) - 1) = e2I m e) := by
    have w : IntKind.i64.wrap (e.2.tmod ((m.n : Int) + 1) - 1) = e.2.tmod ((m.n : Int) + 1) - 1 := wrap_ok (by omega) (by omega)
    by_cases hq : e1I m e = e.2.tmod ((m.n : Int) + 1) - 1
    · have hv : e2I m e = (e1I m e + 2).tmod ((m.n : Int) + 1) - 1 := if_pos hq
      exact .inl ⟨eq_true hq, wrap_ok (by omega) (by omega), by rw [hv]; exact wrap_ok (by omega) (by omega), w⟩
    · exact .inr ⟨eq_false b5, by rw [w]; exact (if_neg hq).symm⟩
  have zF : i = 0 → cF (flT m i) = [] := fun hz => by rw [hz]; rfl
  have zM : i = 0 → cM (rlT m i) = [] := fun hz => by rw [hz]; rfl
  have w1 : IntKind.i64.wrap ((i : Int) + 1) = (i : Int) + 1 := wrap_ok (by omega) (by omega)
  have q2 : ((i + 1) * 56 ≤ 1099511627776) = True := eq_true (by omega)
  have q3 : ((i + 1) * 32 ≤ 1099511627776) = True := eq_true (by omega)
  have q4 : (i + 1 ≤ 1099511627776) = True := eq_true (by omega)
  rw [eF, eM, eR, gM_1 (show i + 1 ≠ 0 by omega)]
  simp only [sR, pR, Nat.add_one_ne_zero, if_false]
  unfold stepK
  have ft : ((0 ≤ e1I m e) = True ∧ (0 ≤ e2I m e) = True) ∨ ((0 ≤ e1I m e) = True ∧ (0 ≤ e2I m e) = False) ∨ ((0 ≤ e1I m e) = False ∧ (0 ≤ e2I m e) = True) := by
    by_cases h3 : 0 ≤ e1I m e
    · by_cases h4 : 0 ≤ e2I m e
      · exact .inl ⟨eq_true h3, eq_true h4⟩
      · exact .inr (.inl ⟨eq_true h3, eq_false h4⟩)
    · exact .inr (.inr ⟨eq_false h3, eq_true (by omega)⟩)
  have mb : ((bitsA .and .u16 (m.kn.fdiv (2 ^ min i IntKind.u16.bits)) 1 = 1) = True ∧ meB m.kn i = true) ∨ ((bitsA .and .u16 (m.kn.fdiv (2 ^ min i IntKind.u16.bits)) 1 = 1) = False ∧ meB m.kn i = false) := by
    by_cases hq : bitsA .and .u16 (m.kn.fdiv (2 ^ min i IntKind.u16.bits)) 1 = 1
    · exact .inl ⟨eq_true hq, by rw [me]; exact decide_eq_true hq⟩
    · exact .inr ⟨eq_false hq, by rw [me]; exact decide_eq_false hq⟩
  unfold mass4
  generalize mval m i 0 = v0 at *
  generalize mval m i 1 = v1 at *
  generalize mval m i 2 = v2 at *
  generalize mval m i 3 = v3 at *
  clear b1 b2 b3 b4 b5 t1 t2 h1 h2
  generalize e2I m e = to at *
  generalize e1I m e = fr at *
  have fs0 := rest_set (o := fr.toNat * 4) (by omega)
  have fs1 := rest_set (o := fr.toNat * 4 + 1) (by omega)
  have fs2 := rest_set (o := fr.toNat * 4 + 2) (by omega)
  have fs3 := rest_set (o := fr.toNat * 4 + 3) (by omega)
  have fg0 := rest_get (o := fr.toNat * 4) (by omega)
  have fg1 := rest_get (o := fr.toNat * 4 + 1) (by omega)
  have fg2 := rest_get (o := fr.toNat * 4 + 2) (by omega)
  have fg3 := rest_get (o := fr.toNat * 4 + 3) (by omega)
  have fl0 := rest_len (o := fr.toNat * 4) (by omega)
  have fl1 := rest_len (o := fr.toNat * 4 + 1) (by omega)
  have fl2 := rest_len (o := fr.toNat * 4 + 2) (by omega)
  have fl3 := rest_len (o := fr.toNat * 4 + 3) (by omega)
  have ts0 := rest_set (o := to.toNat * 4) (by omega)
  have ts1 := rest_set (o := to.toNat * 4 + 1) (by omega)
  have ts2 := rest_set (o := to.toNat * 4 + 2) (by omega)
  have ts3 := rest_set (o := to.toNat * 4 + 3) (by omega)
  have tg0 := rest_get (o := to.toNat * 4) (by omega)
  have tg1 := rest_get (o := to.toNat * 4 + 1) (by omega)
  have tg2 := rest_get (o := to.toNat * 4 + 2) (by omega)
  have tg3 := rest_get (o := to.toNat * 4 + 3) (by omega)
  have tl0 := rest_len (o := to.toNat * 4) (by omega)
  have tl1 := rest_len (o := to.toNat * 4 + 1) (by omega)
  have tl2 := rest_len (o := to.toNat * 4 + 2) (by omega)
  have tl3 := rest_len (o := to.toNat * 4 + 3) (by omega)
  generalize rsT m i = r at *
  unfold x29l1 x29l0
  dsimp only
  have d2 := pad
  have q5 := pad
  have d3 := pad
  have y1 := pad
  have y2 := pad
  clear me
  have iz : ((i = 0) = True ∧ i + 1 = 1 ∧ IntKind.i64.wrap ((i : Int) + 1) = 1 ∧ cF (flT m i) = [] ∧ cM (rlT m i) = []) ∨ ((i = 0) = False ∧ i ≠ 0) := by
    rcases Nat.eq_zero_or_pos i with hz | hz
    · exact .inl ⟨eq_true hz, by omega, by rw [w1]; omega, zF hz, zM hz⟩
    · exact .inr ⟨eq_false (by omega), by omega⟩
  rcases ft with ⟨f0, o0⟩ | ⟨f0, o0⟩ | ⟨f0, o0⟩
  all_goals rcases mb with ⟨x1, x2⟩ | ⟨x1, x2⟩
  all_goals simp only [x2, if_true, Bool.false_eq_true, if_false]
  all_goals rcases eq2 with ⟨d1, d2, d3, d4⟩ | ⟨d1, d4⟩
  all_goals rcases iz with ⟨q1, q5, w1, y1, y2⟩ | ⟨q1, q5⟩
  all_goals (sym => (simp [etaM, etaF, z00,z01,z02,z03,z04,z05,z06,z07,z08,z0a,z0b,z0c,z0f,z0h,z0i,z0n,z0o,z0q,z0s,z0t,z0v,z11,z12,z14,z15,z1f,z1j,z1k,z1l,z1m,z1n,z1o,z1p,z1q,z1r,z1u,z20,z21,z22,z28,z29,z2b,z2g,z2h,z2j,z2k,z2n,z2o,z2s,z2t,z2v,z2y,z33,z34,z36,z37,z38,z39,z3g,z3i,z3j,z3k,z3l,z3m,z3p,z40,z41,z4f,z4l,z4s,z4t,z4v,z4y,z54,z55,z57,z5b,z66,z6d,z6e,z6g,z6j,z8a,z8b,z8d,z8h,z90,z91,z93,z9d,z9e,z9g,z9i,z9j,z9k,z9l,z9m,z9p,z9r,z9s,z9t,z9v,z9w,z9y,za0,za1,za2,za3,za5,za6,za7,za8,za9,zaa,zab,zac,zae,zaf,zag,zal,zam,zaq,zas,zat,zau,zav,zba,zbc,zbd,zbf,zbg,zbk,zca,zcb,zcc,zcd,zce,zcf,zcg,zcn,zco,zcp,zcq,zcr,zct,zcu,zcv,zcw,zcx,zcy,zd3,zd5,zd7,zd8,zdd,zdh,zdj,zdk,zdl,zdm,zdn,zdo,zds,zdt,zdu,zdv,zdw,zdx,ze9,zea,zeb,zec,zeq,zer,zes,zet,zez,zf0,zf1,zf2,zf3,zf4,zf6,zf7,zf8,zf9,zfa,zfb,zfc,zfd,zfg,zfh,zfi,zfj,zfl,zfm,zfo,zfq,zfr,zfs,zft,zfu,zfw,zfy,zfz,zg0,zg1,zhe,zhf,zhi,zhp,zj4,zj7,zj8, execW_loop, gM.eq_1, addK.eq_1, subK.eq_1, a0, a1, a2, a3, a4, a5, a6, a7, a8, c1, c2, d1, d2, d3, d4, q1, q2, q3, q4, q5, w1, y1, y2, f0, o0, x1, lF, lM, k0, k1, k2, k3, fs0, fs1, fs2, fs3, fg0, fg1, fg2, fg3, fl0, fl1, fl2, fl3, ts0, ts1, ts2, ts3, tg0, tg1, tg2, tg3, tl0, tl1, tl2, tl3, cF_gr, cF_nm, cF_sl, cF_len, cF_app, cM_gr, cM_nm, cM_sl, cM_len, cM_app]; all_goals tactic => exact rfl))
end Go.Proofs.Ytdbikamciedfdaa
namespace Go.Proofs.Ytdbikamciedfdaa
open Go Go.DL
set_option maxRecDepth 100000
set_option maxHeartbeats 8000000

theorem made_r2 {m : Mi} {u : Nat} (hu : u < m.n) :
    headX 0 [1, 2, 4, 5, 6, 7, 13] (execW progX 29 0 none (match x29l3 with | .loop _ a => a | c => c) (envL [1, 2, 4, 5, 6, 7, 13] [.pt 0 0, .pt 1 0, I m.n, .pt 2 0, sR (m.c + u), pR (m.c + u), I (u : Nat)]) (gM m (m.c + u) (flU m u) (rlU m u) (rsT m m.c))) =
      some ([.pt 0 0, .pt 1 0, I m.n, .pt 2 0, sR (m.c + (u + 1)), pR (m.c + (u + 1)), I (u + 1 : Nat)], gM m (m.c + (u + 1)) (flU m (u + 1)) (rlU m (u + 1)) (rsT m m.c)) := by
  obtain ⟨n1, n2⟩ := n_bd m
  have hc : m.c ≤ 6 := by unfold Mi.c; omega
  have eF : flU m (u + 1) = flU m u ++ [⟨u, -1, mkMe m (rsT m m.c) u, if mkMe m (rsT m m.c) u then rw4 (rsT m m.c) u else Ms.zero⟩] := rfl
  have eM : rlU m (u + 1) = rlU m u ++ [⟨rsT m m.c (u * 4), rsT m m.c (u * 4 + 1), rsT m m.c (u * 4 + 2), rsT m m.c (u * 4 + 3)⟩] := rfl
  have lF := flU_len m u
  have lM := rlU_len m u
  have ej : m.c + (u + 1) = m.c + u + 1 := by omega
  rw [eF, eM, ej]
  have zF : m.c + u = 0 → cF (flU m u) = [] := fun hz => by
    have : flU m u = [] := List.eq_nil_of_length_eq_zero (by omega)
    rw [this]; rfl
  have zM : m.c + u = 0 → cM (rlU m u) = [] := fun hz => by
    have : rlU m u = [] := List.eq_nil_of_length_eq_zero (by omega)
    rw [this]; rfl
  have a1 : ((u : Int) < (m.n : Int)) = True := eq_true (by omega)
  have a2 : ((u : Int) < 4) = True := eq_true (by omega)
  have a3 : IntKind.i64.wrap (6 + (u : Int)) = 6 + (u : Int) := wrap_ok (by omega) (by omega)
  have a4 : (6 + (u : Int) < 0) = False := eq_false (by omega)
  have a5 : (6 + (u : Int)).toNat = 6 + u := by omega
  have w1 : IntKind.i64.wrap ((u : Int) + 1) = (u : Int) + 1 := wrap_ok (by omega) (by omega)
  have q2 : ((m.c + u + 1) * 56 ≤ 1099511627776) = True := eq_true (by omega)
  have q3 : ((m.c + u + 1) * 32 ≤ 1099511627776) = True := eq_true (by omega)
  have q4 : (m.c + u + 1 ≤ 1099511627776) = True := eq_true (by omega)
  have cl : (u * 4 + 4 ≤ (restL (rsT m m.c)).length) = True := eq_true (by simp [restL]; omega)
  have cr := rest_row (o := u * 4) (by omega) (rsT m m.c)
  have iz : ((m.c + u = 0) = True ∧ m.c + u + 1 = 1 ∧ cF (flU m u) = [] ∧ cM (rlU m u) = []) ∨ ((m.c + u = 0) = False ∧ (0 : Nat) = 0) := by
    rcases Nat.eq_zero_or_pos (m.c + u) with hz | hz
    · exact .inl ⟨eq_true hz, by omega, zF hz, zM hz⟩
    · exact .inr ⟨eq_false (by omega), rfl⟩
  have tg0 := rest_get (o := u * 4) (by omega) (rsT m m.c)
  have tg1 := rest_get (o := u * 4 + 1) (by omega) (rsT m m.c)
  have tg2 := rest_get (o := u * 4 + 2) (by omega) (rsT m m.c)
  have tg3 := rest_get (o := u * 4 + 3) (by omega) (rsT m m.c)
  have mb : ((bitsA .and .u16 (m.kn.fdiv (2 ^ min (6 + u) IntKind.u16.bits)) 1 = 1) = False ∧ mkMe m (rsT m m.c) u = false) ∨
      ((bitsA .and .u16 (m.kn.fdiv (2 ^ min (6 + u) IntKind.u16.bits)) 1 = 1) = True ∧ (((0 ≤ rsT m m.c (u * 4)) = False ∧ mkMe m (rsT m m.c) u = false) ∨ ((0 ≤ rsT m m.c (u * 4)) = True ∧ (((0 ≤ rsT m m.c (u * 4 + 1)) = False ∧ mkMe m (rsT m m.c) u = false) ∨ ((0 ≤ rsT m m.c (u * 4 + 1)) = True ∧ (((0 ≤ rsT m m.c (u * 4 + 2)) = False ∧ mkMe m (rsT m m.c) u = false) ∨ ((0 ≤ rsT m m.c (u * 4 + 2)) = True ∧ (((0 ≤ rsT m m.c (u * 4 + 3)) = False ∧ mkMe m (rsT m m.c) u = false) ∨ ((0 ≤ rsT m m.c (u * 4 + 3)) = True ∧ mkMe m (rsT m m.c) u = true))))))))) := by
    unfold mkMe meB
    generalize rsT m m.c = r
    by_cases h : bitsA .and .u16 (m.kn.fdiv (2 ^ min (6 + u) IntKind.u16.bits)) 1 = 1
    · refine .inr ⟨eq_true h, ?_⟩
      by_cases h0 : 0 ≤ r (u * 4)
      · refine .inr ⟨eq_true h0, ?_⟩
        by_cases h1 : 0 ≤ r (u * 4 + 1)
        · refine .inr ⟨eq_true h1, ?_⟩
          by_cases h2 : 0 ≤ r (u * 4 + 2)
          · refine .inr ⟨eq_true h2, ?_⟩
            by_cases h3 : 0 ≤ r (u * 4 + 3)
            · exact .inr ⟨eq_true h3, by simp [h, h0, h1, h2, h3]⟩
            · exact .inl ⟨eq_false h3, by simp [h3]⟩
          · exact .inl ⟨eq_false h2, by simp [h2]⟩
        · exact .inl ⟨eq_false h1, by simp [h1]⟩
      · exact .inl ⟨eq_false h0, by simp [h0]⟩
    · exact .inl ⟨eq_false h, by simp [h]⟩
  rw [gM_1 (show m.c + u + 1 ≠ 0 by omega)]
  simp only [sR, pR, Nat.add_one_ne_zero, if_false]
  unfold x29l3 x29l2
  dsimp only
  generalize mkMe m (rsT m m.c) u = b at *
  generalize rsT m m.c = r at *
  generalize m.c + u = j at *
  have q5 := pad
  have y1 := pad
  have y2 := pad
  have g0 := pad
  have g1 := pad
  have g2 := pad
  have g3 := pad
  rcases mb with ⟨x1, rfl⟩ | ⟨x1, ⟨g0, rfl⟩ | ⟨g0, ⟨g1, rfl⟩ | ⟨g1, ⟨g2, rfl⟩ | ⟨g2, ⟨g3, rfl⟩ | ⟨g3, rfl⟩⟩⟩⟩⟩
  all_goals simp only [if_true, Bool.false_eq_true, if_false]
  all_goals rcases iz with ⟨q1, q5, y1, y2⟩ | ⟨q1, q5⟩
  all_goals (sym => (simp [etaM, etaF, z00,z01,z02,z03,z04,z05,z06,z07,z0a,z0b,z0c,z0f,z0h,z0i,z0k,z0n,z0o,z0q,z0s,z0t,z0v,z12,z14,z1j,z1k,z1m,z1n,z1o,z1p,z1q,z22,z23,z29,z2j,z2o,z2s,z2t,z2v,z2y,z33,z34,z36,z37,z38,z39,z3g,z3i,z3k,z3m,z3p,z40,z4f,z4l,z4s,z4t,z4v,z54,z55,z57,z5b,z66,z6d,z6e,z6g,z8a,z8b,z8d,z8h,z90,z91,z93,z9d,z9e,z9g,z9i,z9j,z9k,z9l,z9m,z9p,z9r,z9s,z9v,z9w,z9y,za0,za1,za3,za6,za7,za8,za9,zae,zaf,zag,zal,zam,zav,zba,zbc,zbd,zbf,zbg,zbk,zca,zcb,zcc,zcd,zce,zcf,zcg,zcn,zco,zcp,zcq,zcr,zct,zcu,zcv,zcw,zcx,zcy,zd3,zd5,zd7,zd8,zdd,zdj,zdk,zdl,zdm,zdn,zds,zdt,zdu,zdv,zdw,zdx,ze9,zea,zeb,zec,zeq,zer,zes,zet,zez,zf0,zf1,zf2,zf3,zf4,zf6,zf7,zfa,zfb,zfc,zfd,zfg,zfh,zfi,zfj,zfl,zfm,zfo,zfq,zfr,zfs,zft,zfu,zfw,zfy,zfz,zg0,zg1,zhe,zhf,zhp,zj4,zj7,zj8, execW_loop, gM.eq_1, a1, a2, a3, a4, a5, w1, q1, q2, q3, q4, q5, y1, y2, g0, g1, g2, g3, x1, cl, cr, lF, lM, tg0, tg1, tg2, tg3, cF_gr, cF_nm, cF_sl, cF_len, cF_app, cM_gr, cM_nm, cM_sl, cM_len, cM_app]; all_goals tactic => exact rfl))
end Go.Proofs.Ytdbikamciedfdaa
namespace Go.Proofs.Ytdbikamciedfdaa
open Go Go.DL
set_option maxRecDepth 100000
set_option maxHeartbeats 8000000

abbrev miA (m : Mi) : AV := .agg (miC m)
def Mi.N (m : Mi) : Nat := m.c + m.n
theorem w29 {m : Mi} (h : m.Ok) : runW progX 29 [miA m] [] = some (.tup [.agg [I m.n, .sl 0 0 7 m.N], .sl 1 0 4 m.N], [some (.blk true (.cells true (cF (flU m m.n)))), some (.blk true (.cells true (cM (rlU m m.n))))]) := by
  obtain ⟨n1, n2⟩ := n_bd m
  have hu := h.u
  have hc6 : m.c ≤ 6 := by unfold Mi.c; omega
  have a1 : IntKind.i64.wrap m.u = m.u := wrap_ok (by omega) (by omega)
  have a2 : IntKind.i64.wrap (1 + m.u.tmod 4) = (m.n : Int) := by
    have : m.u.tmod 4 = ((m.u.toNat % 4 : Nat) : Int) := by
      rw [Int.tmod_eq_emod_of_nonneg hu.1]; omega
    rw [this, wrap_ok (by omega) (by omega)]
    unfold Mi.n; omega
  have z16 : (restL (rsT m 0)).map I = [I 0, I 0, I 0, I 0, I 0, I 0, I 0, I 0, I 0, I 0, I 0, I 0, I 0, I 0, I 0, I 0] := rfl
  have ex : (((m.c : Int) < (m.ends.length : Int)) = False ∧ (0 : Nat) = 0 ∧ ((m.c = 0) = True)) ∨ (((m.c : Int) < (m.ends.length : Int)) = False ∧ (0 : Nat) = 0 ∧ ((m.c = 0) = False)) ∨ (((m.c : Int) < (m.ends.length : Int)) = True ∧ ((m.c : Int) < 6) = False ∧ ((m.c = 0) = False)) := by
    unfold Mi.c
    by_cases hl : m.ends.length ≤ 6
    · rcases ptf (min m.ends.length 6 = 0) with h | h
      · exact .inl ⟨eq_false (by omega), rfl, h⟩
      · exact .inr (.inl ⟨eq_false (by omega), rfl, h⟩)
    · exact .inr (.inr ⟨eq_true (by omega), eq_false (by omega), eq_false (by omega)⟩)
  have hN : m.c + m.n = m.N := rfl
  have hN0 : m.N ≠ 0 := by unfold Mi.N; omega
  have gl := gM_1 (m := m) hN0
  have gN := zf5 (n := (m.n : Int))
  have s0 : sR 0 = .nilsl := rfl
  have p0 : pR 0 = .pt 3 0 := rfl
  have sN : sR m.N = .sl 4 0 4 m.N := if_neg hN0
  have pN : pR m.N = .pt 5 0 := if_neg hN0
  have g1 := pad
  have g2 := pad
  rw [r29 (by simp)]; unfold x29; dsimp only
  sym =>
    simp [etaM, etaF, z00,z01,z02,z03,z04,z05,z07,z0b,z0c,z0f,z0h,z0i,z0k,z0n,z0o,z0p,z0q,z0r,z0s,z0v,z11,z12,z1f,z1j,z1n,z1o,z22,z23,z28,z29,z2b,z2j,z2n,z2v,z3h,z4f,z4l,z4o,z4p,z4s,z4t,z4v,z4y,z54,z57,z59,z5b,z5e,z66,z69,z6a,z6d,z6e,z6g,z6j,z7r,z7u,z7w,z8a,z8d,z9d,z9e,z9g,z9i,z9j,z9k,z9l,z9m,z9n,z9p,z9r,z9s,z9v,z9w,z9y,za0,za1,za3,za6,za7,za8,za9,zae,zaf,zag,zal,zam,zbt,zbu,zbv,zby,zbz,zc2,zc3,zc4,zc5,zc6,zc7,zc8,zca,zcc,zcd,zce,zcg,zch,zcj,zcn,zco,zcp,zcq,zcr,zct,zcu,zcv,zcw,zcy,zd3,zd5,zdd,zdh,zdj,zdk,zdl,zds,zdt,zdu,zdv,zdw,zdx,ze2,ze3,ze9,zea,zeb,zec,zeo,zep,zf5,zf6,zf7,zfa,zfb,zfc,zfd,zfg,zfm,zfo,zfp,zfr,zfs,zft,zfu,zfy,zfz,zg0,zg1,zhf, a1, a2]
    tactic =>
      unfold x29l1
      rw [loop_rule m.c (fun i => [.pt 0 0, .pt 1 0, I m.n, .pt 2 0, sR i, pR i, .fn (.func 54) [] [.pt 0 0], I (i : Nat)]) (fun i => gM m i (flT m i) (rlT m i) (rsT m i))]
      · rcases ex with ⟨g1, g2, q1⟩ | ⟨g1, g2, q1⟩ | ⟨g1, g2, q1⟩
        all_goals (
          sym =>
            simp [etaM, etaF, z00,z01,z02,z03,z04,z05,z07,z0b,z0c,z0f,z0h,z0i,z0k,z0n,z0o,z0p,z0q,z0r,z0s,z0v,z11,z12,z1f,z1j,z1n,z1o,z22,z23,z28,z29,z2b,z2j,z2n,z2v,z3h,z4f,z4l,z4o,z4p,z4s,z4t,z4v,z4y,z54,z57,z59,z5b,z5e,z66,z69,z6a,z6d,z6e,z6g,z6j,z7r,z7u,z7w,z8a,z8d,z9d,z9e,z9g,z9i,z9j,z9k,z9l,z9m,z9n,z9p,z9r,z9s,z9v,z9w,z9y,za0,za1,za3,za6,za7,za8,za9,zae,zaf,zag,zal,zam,zbt,zbu,zbv,zby,zbz,zc2,zc3,zc4,zc5,zc6,zc7,zc8,zca,zcc,zcd,zce,zcg,zch,zcj,zcn,zco,zcp,zcq,zcr,zct,zcu,zcv,zcw,zcy,zd3,zd5,zdd,zdh,zdj,zdk,zdl,zds,zdt,zdu,zdv,zdw,zdx,ze2,ze3,ze9,zea,zeb,zec,zeo,zep,zf5,zf6,zf7,zfa,zfb,zfc,zfd,zfg,zfm,zfo,zfp,zfr,zfs,zft,zfu,zfy,zfz,zg0,zg1,zhf, g1, g2, gM.eq_1, q1, sR.eq_1, pR.eq_1]
            tactic =>
              unfold x29l3
              rw [loop_rule m.n (fun u => [.pt 0 0, .pt 1 0, I m.n, .pt 2 0, sR (m.c + u), pR (m.c + u), I (u : Nat)]) (fun u => gM m (m.c + u) (flU m u) (rlU m u) (rsT m m.c))]
              · rw [hN, gl]
                (sym => (simp [etaM, etaF, z00,z01,z02,z03,z04,z05,z07,z0b,z0c,z0f,z0h,z0i,z0k,z0n,z0o,z0p,z0q,z0r,z0s,z0v,z11,z12,z1f,z1j,z1n,z1o,z22,z23,z28,z29,z2b,z2j,z2n,z2v,z3h,z4f,z4l,z4o,z4p,z4s,z4t,z4v,z4y,z54,z57,z59,z5b,z5e,z66,z69,z6a,z6d,z6e,z6g,z6j,z7r,z7u,z7w,z8a,z8d,z9d,z9e,z9g,z9i,z9j,z9k,z9l,z9m,z9n,z9p,z9r,z9s,z9v,z9w,z9y,za0,za1,za3,za6,za7,za8,za9,zae,zaf,zag,zal,zam,zbt,zbu,zbv,zby,zbz,zc2,zc3,zc4,zc5,zc6,zc7,zc8,zca,zcc,zcd,zce,zcg,zch,zcj,zcn,zco,zcp,zcq,zcr,zct,zcu,zcv,zcw,zcy,zd3,zd5,zdd,zdh,zdj,zdk,zdl,zds,zdt,zdu,zdv,zdw,zdx,ze2,ze3,ze9,zea,zeb,zec,zeo,zep,zf5,zf6,zf7,zfa,zfb,zfc,zfd,zfg,zfm,zfo,zfp,zfr,zfs,zft,zfu,zfy,zfz,zg0,zg1,zhf, gN, sN, pN, cF_gr, cF_nm, cF_sl, cM_gr, cM_nm, cM_sl]; all_goals tactic => exact rfl))
              · rw [Nat.add_zero, show flU m 0 = flT m m.c from rfl, show rlU m 0 = rlT m m.c from rfl]
                (sym => (simp [etaM, etaF, z00,z01,z02,z03,z04,z05,z07,z0b,z0c,z0f,z0h,z0i,z0k,z0n,z0o,z0p,z0q,z0r,z0s,z0v,z11,z12,z1f,z1j,z1n,z1o,z22,z23,z28,z29,z2b,z2j,z2n,z2v,z3h,z4f,z4l,z4o,z4p,z4s,z4t,z4v,z4y,z54,z57,z59,z5b,z5e,z66,z69,z6a,z6d,z6e,z6g,z6j,z7r,z7u,z7w,z8a,z8d,z9d,z9e,z9g,z9i,z9j,z9k,z9l,z9m,z9n,z9p,z9r,z9s,z9v,z9w,z9y,za0,za1,za3,za6,za7,za8,za9,zae,zaf,zag,zal,zam,zbt,zbu,zbv,zby,zbz,zc2,zc3,zc4,zc5,zc6,zc7,zc8,zca,zcc,zcd,zce,zcg,zch,zcj,zcn,zco,zcp,zcq,zcr,zct,zcu,zcv,zcw,zcy,zd3,zd5,zdd,zdh,zdj,zdk,zdl,zds,zdt,zdu,zdv,zdw,zdx,ze2,ze3,ze9,zea,zeb,zec,zeo,zep,zf5,zf6,zf7,zfa,zfb,zfc,zfd,zfg,zfm,zfo,zfp,zfr,zfs,zft,zfu,zfy,zfz,zg0,zg1,zhf, gM.eq_1, q1, sR.eq_1, pR.eq_1]; all_goals tactic => exact rfl))
              · intro u hu
                exact made_r2 hu
              · rw [hN, gl]
                (sym => (simp [etaM, etaF, z00,z01,z02,z03,z04,z05,z07,z0b,z0c,z0f,z0h,z0i,z0k,z0n,z0o,z0p,z0q,z0r,z0s,z0v,z11,z12,z1f,z1j,z1n,z1o,z22,z23,z28,z29,z2b,z2j,z2n,z2v,z3h,z4f,z4l,z4o,z4p,z4s,z4t,z4v,z4y,z54,z57,z59,z5b,z5e,z66,z69,z6a,z6d,z6e,z6g,z6j,z7r,z7u,z7w,z8a,z8d,z9d,z9e,z9g,z9i,z9j,z9k,z9l,z9m,z9n,z9p,z9r,z9s,z9v,z9w,z9y,za0,za1,za3,za6,za7,za8,za9,zae,zaf,zag,zal,zam,zbt,zbu,zbv,zby,zbz,zc2,zc3,zc4,zc5,zc6,zc7,zc8,zca,zcc,zcd,zce,zcg,zch,zcj,zcn,zco,zcp,zcq,zcr,zct,zcu,zcv,zcw,zcy,zd3,zd5,zdd,zdh,zdj,zdk,zdl,zds,zdt,zdu,zdv,zdw,zdx,ze2,ze3,ze9,zea,zeb,zec,zeo,zep,zf5,zf6,zf7,zfa,zfb,zfc,zfd,zfg,zfm,zfo,zfp,zfr,zfs,zft,zfu,zfy,zfz,zg0,zg1,zhf, gN, sN, pN, cF_gr, cF_nm, cF_sl, cM_gr, cM_nm, cM_sl]; all_goals tactic => exact rfl)))
      · rw [gM_0]
        sym =>
          simp [etaM, etaF, z00,z01,z02,z03,z04,z05,z07,z0b,z0c,z0f,z0h,z0i,z0k,z0n,z0o,z0p,z0q,z0r,z0s,z0v,z11,z12,z1f,z1j,z1n,z1o,z22,z23,z28,z29,z2b,z2j,z2n,z2v,z3h,z4f,z4l,z4o,z4p,z4s,z4t,z4v,z4y,z54,z57,z59,z5b,z5e,z66,z69,z6a,z6d,z6e,z6g,z6j,z7r,z7u,z7w,z8a,z8d,z9d,z9e,z9g,z9i,z9j,z9k,z9l,z9m,z9n,z9p,z9r,z9s,z9v,z9w,z9y,za0,za1,za3,za6,za7,za8,za9,zae,zaf,zag,zal,zam,zbt,zbu,zbv,zby,zbz,zc2,zc3,zc4,zc5,zc6,zc7,zc8,zca,zcc,zcd,zce,zcg,zch,zcj,zcn,zco,zcp,zcq,zcr,zct,zcu,zcv,zcw,zcy,zd3,zd5,zdd,zdh,zdj,zdk,zdl,zds,zdt,zdu,zdv,zdw,zdx,ze2,ze3,ze9,zea,zeb,zec,zeo,zep,zf5,zf6,zf7,zfa,zfb,zfc,zfd,zfg,zfm,zfo,zfp,zfr,zfs,zft,zfu,zfy,zfz,zg0,zg1,zhf, s0, p0, z16, a2]
          tactic => simp only [a2]
      · intro i hi
        exact made_r1 h hi
      · rcases ex with ⟨g1, g2, q1⟩ | ⟨g1, g2, q1⟩ | ⟨g1, g2, q1⟩ <;> (sym => (simp [etaM, etaF, z00,z01,z02,z03,z04,z05,z07,z0b,z0c,z0f,z0h,z0i,z0k,z0n,z0o,z0p,z0q,z0r,z0s,z0v,z11,z12,z1f,z1j,z1n,z1o,z22,z23,z28,z29,z2b,z2j,z2n,z2v,z3h,z4f,z4l,z4o,z4p,z4s,z4t,z4v,z4y,z54,z57,z59,z5b,z5e,z66,z69,z6a,z6d,z6e,z6g,z6j,z7r,z7u,z7w,z8a,z8d,z9d,z9e,z9g,z9i,z9j,z9k,z9l,z9m,z9n,z9p,z9r,z9s,z9v,z9w,z9y,za0,za1,za3,za6,za7,za8,za9,zae,zaf,zag,zal,zam,zbt,zbu,zbv,zby,zbz,zc2,zc3,zc4,zc5,zc6,zc7,zc8,zca,zcc,zcd,zce,zcg,zch,zcj,zcn,zco,zcp,zcq,zcr,zct,zcu,zcv,zcw,zcy,zd3,zd5,zdd,zdh,zdj,zdk,zdl,zds,zdt,zdu,zdv,zdw,zdx,ze2,ze3,ze9,zea,zeb,zec,zeo,zep,zf5,zf6,zf7,zfa,zfb,zfc,zfd,zfg,zfm,zfo,zfp,zfr,zfs,zft,zfu,zfy,zfz,zg0,zg1,zhf, g1, g2, gM.eq_1, q1, sR.eq_1, pR.eq_1]; all_goals tactic => exact rfl))
end Go.Proofs.Ytdbikamciedfdaa
namespace Go.Proofs.Ytdbikamciedfdaa
open Go Go.DL
set_option maxRecDepth 100000
set_option maxHeartbeats 8000000

abbrev hP (U : Nat) (l : List Fl) : XH := [some (.blk true (.cells true [I U, .fs (l.map Fl.row)]))]
end Go.Proofs.Ytdbikamciedfdaa
namespace Go.Proofs.Ytdbikamciedfdaa
open Go Go.DL
set_option maxRecDepth 100000
set_option maxHeartbeats 1000000

/-- A flow as a plant may have it. -/
structure OkF (n : Nat) (x : Fl) : Prop where
  fr : -1 ≤ x.fr ∧ x.fr < n
  to : -1 ≤ x.to ∧ x.to < n
  ne : x.fr ≠ x.to
  ma : x.me = true → ∀ k, 0 ≤ cmp k x.m ∧ cmp k x.m ≤ 1000000000
theorem within_of {x : Ms} (h : ∀ k, 0 ≤ cmp k x ∧ cmp k x ≤ 1000000000) : x.within 0 1000000000 = true := by
  have h0 := h 0
  have h1 := h 1
  have h2 := h 2
  have h3 := h 3
  simp only [cmp] at h0 h1 h2 h3
  simp only [Ms.within, btw, Bool.and_eq_true, decide_eq_true_eq]
  omega
theorem chkF_of {n : Nat} (hn : n ≤ 8) {x : Fl} (h : OkF n x) : chkF n x = 0 := by
  obtain ⟨⟨a, b⟩, ⟨c, d⟩, e, g⟩ := h
  have w : wr ((n : Int) - 1) = (n : Int) - 1 := wrap_ok (by omega) (by omega)
  have h1 : btw (-1) x.fr (wr ((n : Int) - 1)) = true := by rw [w]; simp only [btw, Bool.and_eq_true, decide_eq_true_eq]; omega
  have h2 : btw (-1) x.to (wr ((n : Int) - 1)) = true := by rw [w]; simp only [btw, Bool.and_eq_true, decide_eq_true_eq]; omega
  unfold chkF
  rw [h1, h2, if_neg e]
  cases hm : x.me with
  | false => rfl
  | true => rw [within_of (g hm)]; rfl
theorem firstE_of {u : Int} : ∀ {l : List Fl}, (∀ x ∈ l, chkF u x = 0) → firstE u l = 0
  | [], _ => rfl
  | x :: r, h => by
    rw [firstE, if_pos (h x (by simp))]
    exact firstE_of fun y hy => h y (by simp [hy])
theorem checkP_of {n : Nat} (h1 : 1 ≤ n) (hn : n ≤ 8) {l : List Fl} (hl : l.length ≤ 20) (h : ∀ x ∈ l, OkF n x) : checkP n l = 0 := by
  have hb : btw 1 (n : Int) 8 = true := by simp only [btw, Bool.and_eq_true, decide_eq_true_eq]; omega
  unfold checkP
  rw [hb, if_pos rfl, if_neg (by omega)]
  exact firstE_of fun x hx => chkF_of hn (h x hx)
/-! ### What is left -/
def netT (m : Mi) (u k : Nat) : Nat → Int
  | 0 => 0
  | i + 1 => match m.ends[i]? with
    | some e => netT m u k i + (bi (decide (e2I m e = u)) - bi (decide (e1I m e = u))) * mval m i k
    | none => netT m u k i
theorem addK_at {t : Int} (ht : -1 ≤ t) {k k' u : Nat} (hk : k < 4) (hk' : k' < 4) (v : Int) (r : Nat → Int) : addK t k v r (u * 4 + k') = if t = u ∧ k = k' then wr (r (u * 4 + k') + v) else r (u * 4 + k') := by
  unfold addK
  by_cases h0 : 0 ≤ t
  · rw [if_pos h0]
    unfold upN
    by_cases h : t = u ∧ k = k'
    · rw [if_pos h, if_pos (by omega), show t.toNat * 4 + k = u * 4 + k' by omega]
    · rw [if_neg h, if_neg (by omega)]
  · rw [if_neg h0, if_neg (by omega)]
theorem subK_at {t : Int} (ht : -1 ≤ t) {k k' u : Nat} (hk : k < 4) (hk' : k' < 4) (v : Int) (r : Nat → Int) : subK t k v r (u * 4 + k') = if t = u ∧ k = k' then wr (r (u * 4 + k') - v) else r (u * 4 + k') := by
  unfold subK
  by_cases h0 : 0 ≤ t
  · rw [if_pos h0]
    unfold upN
    by_cases h : t = u ∧ k = k'
    · rw [if_pos h, if_pos (by omega), show t.toNat * 4 + k = u * 4 + k' by omega]
    · rw [if_neg h, if_neg (by omega)]
  · rw [if_neg h0, if_neg (by omega)]
theorem stepK_at {fr to : Int} (hf : -1 ≤ fr) (ht : -1 ≤ to) (m : Mi) (i : Nat) {k k' u : Nat} (hk : k < 4) (hk' : k' < 4) (r : Nat → Int) :
    stepK fr to m i k r (u * 4 + k') = if k = k' then (if fr = u then wr ((if to = u then wr (r (u * 4 + k') + mval m i k) else r (u * 4 + k')) - mval m i k) else (if to = u then wr (r (u * 4 + k') + mval m i k) else r (u * 4 + k'))) else r (u * 4 + k') := by
  unfold stepK
  rw [subK_at hf hk hk', addK_at ht hk hk']
  by_cases h : k = k'
  · subst h; simp
  · simp [h]
theorem net_bd {m : Mi} (h : m.Ok) (u k : Nat) : ∀ i : Nat, -(255 * (i : Int)) ≤ netT m u k i ∧ netT m u k i ≤ 255 * (i : Int)
  | 0 => by simp [netT]
  | i + 1 => by
    have ih := net_bd h u k i
    have b := mval_bd h i k
    rw [netT]
    split
    · unfold bi
      split <;> split <;> simp only [Int.sub_self, Int.zero_mul, Int.sub_zero, Int.one_mul, Int.zero_sub] <;> omega
    · omega
theorem rsT_net {m : Mi} (h : m.Ok) (u : Nat) {k : Nat} (hk : k < 4) : ∀ i : Nat, i ≤ 6 → rsT m i (u * 4 + k) = netT m u k i
  | 0, _ => rfl
  | i + 1, hi => by
    have ih := rsT_net h u hk i (by omega)
    have nb := net_bd h u k i
    rw [rsT, netT]
    cases he : m.ends[i]? with
    | none => exact ih
    | some e =>
      have hm := List.mem_of_getElem? he
      obtain ⟨h1, h2⟩ := h.ends e hm
      obtain ⟨b1, b2, b3, b4, b5⟩ := ends_bd (m := m) h1 h2
      have b := mval_bd h i k
      have key : (if e1I m e = u then wr ((if e2I m e = u then wr (netT m u k i + mval m i k) else netT m u k i) - mval m i k) else (if e2I m e = u then wr (netT m u k i + mval m i k) else netT m u k i)) = netT m u k i + (bi (decide (e2I m e = u)) - bi (decide (e1I m e = u))) * mval m i k := by
        by_cases c1 : e1I m e = u
        · have c2 : ¬ e2I m e = u := fun hc => b5 (by rw [c1, hc])
          rw [if_pos c1, if_neg c2, decide_eq_true c1, decide_eq_false c2, show wr (netT m u k i - mval m i k) = netT m u k i - mval m i k from wrap_ok (by omega) (by omega)]
          simp [bi]
          omega
        · rw [if_neg c1, decide_eq_false c1]
          by_cases c2 : e2I m e = u
          · rw [if_pos c2, decide_eq_true c2, show wr (netT m u k i + mval m i k) = netT m u k i + mval m i k from wrap_ok (by omega) (by omega)]
            simp [bi]
          · rw [if_neg c2, decide_eq_false c2]
            simp [bi]
      simp only []
      rw [← key, ← ih]
      match k, hk with
      | 0, hk => simp only [stepK_at b1 b3 m i (show 3 < 4 by decide) hk, stepK_at b1 b3 m i (show 2 < 4 by decide) hk, stepK_at b1 b3 m i (show 1 < 4 by decide) hk, stepK_at b1 b3 m i (show 0 < 4 by decide) hk]; simp
      | 1, hk => simp only [stepK_at b1 b3 m i (show 3 < 4 by decide) hk, stepK_at b1 b3 m i (show 2 < 4 by decide) hk, stepK_at b1 b3 m i (show 1 < 4 by decide) hk, stepK_at b1 b3 m i (show 0 < 4 by decide) hk]; simp
      | 2, hk => simp only [stepK_at b1 b3 m i (show 3 < 4 by decide) hk, stepK_at b1 b3 m i (show 2 < 4 by decide) hk, stepK_at b1 b3 m i (show 1 < 4 by decide) hk, stepK_at b1 b3 m i (show 0 < 4 by decide) hk]; simp
      | 3, hk => simp only [stepK_at b1 b3 m i (show 3 < 4 by decide) hk, stepK_at b1 b3 m i (show 2 < 4 by decide) hk, stepK_at b1 b3 m i (show 1 < 4 by decide) hk, stepK_at b1 b3 m i (show 0 < 4 by decide) hk]; simp
theorem cmp_4 (k : Nat) (m : Ms) : cmp k m = m.a ∨ cmp k m = m.b ∨ cmp k m = m.c ∨ cmp k m = m.d := by
  unfold cmp
  split
  · exact .inl rfl
  · exact .inr (.inl rfl)
  · exact .inr (.inr (.inl rfl))
  · exact .inr (.inr (.inr rfl))
/-- What is made: as a plant may have it, and small. -/
structure OkM (n : Nat) (x : Fl) : Prop where
  fr : -1 ≤ x.fr ∧ x.fr < n
  to : -1 ≤ x.to ∧ x.to < n
  ne : x.fr ≠ x.to
  ma : ∀ k, 0 ≤ cmp k x.m ∧ cmp k x.m ≤ 2000
theorem cmp_mass4 {m : Mi} (h : m.Ok) (i k : Nat) : 0 ≤ cmp k (mass4 m i) ∧ cmp k (mass4 m i) ≤ 2000 := by
  have := mval_bd h i 0
  have := mval_bd h i 1
  have := mval_bd h i 2
  have := mval_bd h i 3
  rcases cmp_4 k (mass4 m i) with e | e | e | e <;> rw [e] <;> unfold mass4 <;> dsimp only <;> omega
theorem cmp_zero (k : Nat) : cmp k Ms.zero = 0 := by unfold cmp; split <;> rfl
theorem flT_okM {m : Mi} (h : m.Ok) : ∀ i, i ≤ 6 → ∀ x ∈ flT m i, OkM m.n x
  | 0, _, x, hx => by simp [flT] at hx
  | i + 1, hi, x, hx => by
    rw [flT] at hx
    cases he : m.ends[i]? with
    | none => rw [he] at hx; exact flT_okM h i (by omega) x hx
    | some e =>
      rw [he] at hx
      rcases List.mem_append.1 hx with hx | hx
      · exact flT_okM h i (by omega) x hx
      · simp only [List.mem_cons, List.not_mem_nil, or_false] at hx
        obtain ⟨h1, h2⟩ := h.ends e (List.mem_of_getElem? he)
        obtain ⟨b1, b2, b3, b4, b5⟩ := ends_bd (m := m) h1 h2
        subst hx
        refine ⟨⟨b1, b2⟩, ⟨b3, b4⟩, b5, fun k => ?_⟩
        show 0 ≤ cmp k (if meB m.kn i then mass4 m i else Ms.zero) ∧ _
        unfold mkF
        dsimp only
        split
        · exact cmp_mass4 h i k
        · rw [cmp_zero]; omega
theorem c_le (m : Mi) : m.c ≤ 6 := by unfold Mi.c; omega
theorem flU_okM {m : Mi} (h : m.Ok) : ∀ u, u ≤ m.n → ∀ x ∈ flU m u, OkM m.n x
  | 0, _, x, hx => flT_okM h m.c (c_le m) x hx
  | u + 1, hu, x, hx => by
    rw [flU] at hx
    rcases List.mem_append.1 hx with hx | hx
    · exact flU_okM h u (by omega) x hx
    · simp only [List.mem_cons, List.not_mem_nil, or_false] at hx
      subst hx
      refine ⟨⟨by show -1 ≤ (u : Int); omega, by show (u : Int) < m.n; omega⟩, ⟨by show (-1 : Int) ≤ -1; omega, by show (-1 : Int) < m.n; omega⟩, by show (u : Int) ≠ -1; omega, fun k => ?_⟩
      unfold mkC
      dsimp only
      split
      · rename_i hme
        unfold mkMe at hme
        simp only [Bool.and_eq_true, decide_eq_true_eq] at hme
        obtain ⟨_, g0, g1, g2, g3⟩ := hme
        have c6 := c_le m
        have n0 := rsT_net h u (k := 0) (by decide) m.c c6
        have n1 := rsT_net h u (k := 1) (by decide) m.c c6
        have n2 := rsT_net h u (k := 2) (by decide) m.c c6
        have n3 := rsT_net h u (k := 3) (by decide) m.c c6
        have d0 := net_bd h u 0 m.c
        have d1 := net_bd h u 1 m.c
        have d2 := net_bd h u 2 m.c
        have d3 := net_bd h u 3 m.c
        rw [Nat.add_zero] at n0
        rcases cmp_4 k (rw4 (rsT m m.c) u) with e | e | e | e <;> rw [e] <;> unfold rw4 <;> dsimp only <;> omega
      · rw [cmp_zero]; omega
theorem okF_of {n : Nat} {x : Fl} (h : OkM n x) : OkF n x := ⟨h.fr, h.to, h.ne, fun _ k => by have := h.ma k; omega⟩
theorem N_le (m : Mi) : m.N ≤ 10 ∧ 1 ≤ m.N := by
  have := n_bd m
  have := c_le m
  unfold Mi.N; omega
theorem fl_len (m : Mi) : (flU m m.n).length = m.N := flU_len m m.n
theorem made_check {m : Mi} (h : m.Ok) : checkP m.n (flU m m.n) = 0 := by
  obtain ⟨n1, n2⟩ := n_bd m
  have := N_le m
  exact checkP_of n1 (by omega) (by rw [fl_len]; omega) fun x hx => okF_of (flU_okM h m.n (Nat.le_refl _) x hx)
end Go.Proofs.Ytdbikamciedfdaa
namespace Go.Proofs.Ytdbikamciedfdaa
open Go Go.DL
set_option maxRecDepth 100000
set_option maxHeartbeats 4000000

theorem cF_get {l : List Fl} {i : Nat} {x : Fl} (h : l[i]? = some x) {c : Nat} (hc : c < 7) : (cF l)[i * 7 + c]? = x.row[c]? := by
  induction l generalizing i with
  | nil => simp at h
  | cons y r ih =>
    have e : cF (y :: r) = y.row ++ cF r := rfl
    cases i with
    | zero =>
      simp only [List.getElem?_cons_zero, Option.some.injEq] at h
      subst h
      rw [e, Nat.zero_mul, Nat.zero_add, List.getElem?_append_left (by simpa using hc)]
    | succ i =>
      simp only [List.getElem?_cons_succ] at h
      rw [e, List.getElem?_append_right (by simp only [Fl.row, List.length_cons, List.length_nil]; omega), ← ih h]
      congr 1
      simp only [Fl.row, List.length_cons, List.length_nil]; omega
def setM (k : Nat) (v : Int) (m : Ms) : Ms := match k with
  | 0 => ⟨v, m.b, m.c, m.d⟩
  | 1 => ⟨m.a, v, m.c, m.d⟩
  | 2 => ⟨m.a, m.b, v, m.d⟩
  | _ => ⟨m.a, m.b, m.c, v⟩
theorem cF_set {l : List Fl} {i : Nat} {x : Fl} (h : l[i]? = some x) {k : Nat} (hk : k < 4) (v : Int) : (cF l).set (i * 7 + (3 + k)) (I v) = cF (l.set i ⟨x.fr, x.to, x.me, setM k v x.m⟩) := by
  induction l generalizing i with
  | nil => simp at h
  | cons y r ih =>
    have e : cF (y :: r) = y.row ++ cF r := rfl
    cases i with
    | zero =>
      simp only [List.getElem?_cons_zero, Option.some.injEq] at h
      subst h
      rw [e, Nat.zero_mul, Nat.zero_add, List.set_append_left _ _ (by simp only [Fl.row, List.length_cons, List.length_nil]; omega), List.set_cons_zero]
      match k, hk with
      | 0, _ => rfl
      | 1, _ => rfl
      | 2, _ => rfl
      | 3, _ => rfl
    | succ i =>
      simp only [List.getElem?_cons_succ] at h
      rw [e, List.set_append_right _ _ (by simp only [Fl.row, List.length_cons, List.length_nil]; omega), List.set_cons_succ, show cF (y :: r.set i ⟨x.fr, x.to, x.me, setM k v x.m⟩) = y.row ++ cF (r.set i ⟨x.fr, x.to, x.me, setM k v x.m⟩) from rfl, ← ih h]
      congr 2
      simp only [Fl.row, List.length_cons, List.length_nil]; omega
theorem cF_ch (l : List Fl) : chunks (cF l) 0 7 l.length = l.map Fl.row := by
  have := rows_chunks (fl_ok l)
  rw [List.length_map] at this
  exact this
theorem cF_spl {l : List Fl} {i : Nat} {x : Fl} (h : l[i]? = some x) {k : Nat} (hk : k < 4) (v : Int) : splice (cF l) (i * 7 + 3 + k) [I v] = cF (l.set i ⟨x.fr, x.to, x.me, setM k v x.m⟩) := by
  have hi : i < l.length := by rw [List.getElem?_eq_some_iff] at h; exact h.1
  rw [← cF_set h hk, ← setX_set (by rw [cF_len]; omega), Nat.add_assoc]
  simp [splice, setX]

end Go.Proofs.Ytdbikamciedfdaa
namespace Go.Proofs.Ytdbikamciedfdaa
open Go Go.DL
set_option maxRecDepth 100000
set_option maxHeartbeats 4000000

/-! ### A set by numbers -/
/-! ### Masses set one by one -/
end Go.Proofs.Ytdbikamciedfdaa
namespace Go.Proofs.Ytdbikamciedfdaa
open Go Go.DL
set_option maxRecDepth 100000
set_option maxHeartbeats 1000000

/-- What masses bring to a set. -/
def linR (S : Int → Bool) (l : List Fl) (rl : List Ms) (k : Nat) : Nat → Int
  | 0 => 0
  | i + 1 => linR S l rl k i + match l[i]? with
    | some x => (bi (S x.to) - bi (S x.fr)) * cmp k (rl.getD i Ms.zero)
    | none => 0
structure Bal (l : List Fl) (rl : List Ms) : Prop where
  zero : ∀ S : Int → Bool, S (-1) = false → ∀ k, linR S l rl k l.length = 0
  agree : ∀ (i : Nat) (x : Fl), l[i]? = some x → x.me = true → x.m = rl.getD i Ms.zero
section
variable {U : Nat} {l : List Fl} {rl : List Ms}
theorem lin_real (ha : ∀ (i : Nat) (x : Fl), l[i]? = some x → x.me = true → x.m = rl.getD i Ms.zero) {S : Int → Bool} (hS : ClosedS (-1) l S) (k : Nat) : ∀ n, linI S (-1) l k n = linR S l rl k n
  | 0 => rfl
  | n + 1 => by
    have ih := lin_real ha hS k n
    simp only [linI, linR, ih]
    cases hx : l[n]? with
    | none => rfl
    | some x =>
      simp only []
      have hd : decide ((n : Int) = -1) = false := decide_eq_false (by omega)
      cases hm : x.me with
      | true => rw [← ha n x hx hm, hd]; simp
      | false =>
        have := hS n x hx hm (by omega)
        rw [this]
        simp
theorem lin_real_j (ha : ∀ (i : Nat) (x : Fl), l[i]? = some x → x.me = true → x.m = rl.getD i Ms.zero) {S : Int → Bool} {j : Nat} {y : Fl} (hy : l[j]? = some y) (hym : y.me = false) (hS : ClosedS j l S) (k : Nat) :
    ∀ n, linI S (-1) l k n + (if j < n then (bi (S y.to) - bi (S y.fr)) * cmp k (rl.getD j Ms.zero) else 0) = linR S l rl k n
  | 0 => by simp [linI, linR]
  | n + 1 => by
    have ih := lin_real_j ha hy hym hS k n
    simp only [linI, linR, ← ih]
    cases hx : l[n]? with
    | none =>
      have h1 : n ≠ j := fun e => by rw [e, hy] at hx; simp at hx
      simp only []
      by_cases h2 : j < n
      · rw [if_pos h2, if_pos (by omega)]; omega
      · rw [if_neg h2, if_neg (by omega)]
    | some x =>
      simp only []
      have hd : decide ((n : Int) = -1) = false := decide_eq_false (by omega)
      by_cases hnj : n = j
      · subst hnj
        rw [hy] at hx
        simp only [Option.some.injEq] at hx
        subst hx
        rw [hym]
        simp only [Bool.false_and, Bool.false_eq_true, if_false, Nat.lt_irrefl, Nat.lt_succ_self, if_true]
      · rw [show (if j < n + 1 then (bi (S y.to) - bi (S y.fr)) * cmp k (rl.getD j Ms.zero) else 0) = (if j < n then (bi (S y.to) - bi (S y.fr)) * cmp k (rl.getD j Ms.zero) else 0) by
          by_cases h2 : j < n
          · rw [if_pos h2, if_pos (by omega)]
          · rw [if_neg h2, if_neg (by omega)]]
        cases hm : x.me with
        | true =>
          rw [← ha n x hx hm, hd]
          simp only [Bool.not_false, Bool.and_self, if_true]
          omega
        | false =>
          have := hS n x hx hm (by omega)
          rw [this]
          simp
theorem cls_closed (wo : Int) (c : Int) : ClosedS wo l fun y => decide (gI wo l l.length y = c) := by
  intro i y hy hm hw
  have hi : i < l.length := by rw [List.getElem?_eq_some_iff] at hy; exact hy.1
  simp only [gI_joined hy hm hw l.length hi]
/-- No part has an excess, said by sets. -/
theorem noClash_of (h : checkP U l = 0) (hz : ∀ S : Int → Bool, S (-1) = false → ClosedS (-1) l S → ∀ k, linI S (-1) l k l.length = 0) : NoClash U l := by
  obtain ⟨u1, u2, u3, u4⟩ := checkP_u h
  have gm1 := gI_m1 h (-1) l.length
  refine clF_none fun i hi => ?_
  unfold clP
  split
  · rw [ex_side (rngL_of h) gm1 i, Option.map_eq_none_iff]
    have hc : ∀ k, cmp k (exI (fun x => decide (gI (-1) l l.length x = i)) (-1) l l.length) = 0 := by
      intro k
      rw [ex_lin (boundL_of h) k l.length (by omega)]
      exact hz _ (by rw [gm1]; exact decide_eq_false (by omega)) (cls_closed _ _) k
    generalize exI (fun x => decide (gI (-1) l l.length x = i)) (-1) l l.length = m at hc
    have h0 : m.a = 0 := hc 0
    have h1 : m.b = 0 := hc 1
    have h2 : m.c = 0 := hc 2
    have h3 : m.d = 0 := hc 3
    unfold kd
    rw [if_pos h0, if_pos h1, if_pos h2, if_pos h3]
  · rfl
theorem bal_noclash (h : checkP U l = 0) (b : Bal l rl) : NoClash U l := noClash_of h fun S h1 h2 k => by rw [lin_real b.agree h2 k, b.zero S h1 k]
theorem kn_me {j : Nat} {x : Fl} (hm : x.me = true) : knAt l j x = ⟨1, x.m⟩ := by
  unfold knAt knF
  cases foundP l j x <;> simp [hm]
theorem kn_open {j : Nat} {x : Fl} (hm : x.me = false) (hg : gI j l l.length x.fr = gI j l l.length x.to) : knAt l j x = ⟨3, Ms.zero⟩ := by
  unfold knAt foundP
  rw [if_pos hg]
  simp [knF, hm]
theorem gap_set (h : checkP U l = 0) {j : Nat} {x : Fl} (hx : l[j]? = some x) (hg : ¬ gI j l l.length x.fr = gI j l l.length x.to) : ∃ S : Int → Bool, ClosedS j l S ∧ S (-1) = false ∧ S x.fr ≠ S x.to := by
  have gm1 := gI_m1 h j l.length
  by_cases h1 : gI j l l.length x.fr = -1
  · refine ⟨fun y => decide (gI j l l.length y = gI j l l.length x.to), cls_closed _ _, ?_, ?_⟩
    · show decide (gI j l l.length (-1) = gI j l l.length x.to) = false
      rw [gm1, ← h1]; exact decide_eq_false hg
    · simp [hg]
  · refine ⟨fun y => decide (gI j l l.length y = gI j l l.length x.fr), cls_closed _ _, ?_, ?_⟩
    · show decide (gI j l l.length (-1) = gI j l l.length x.fr) = false
      rw [gm1]; exact decide_eq_false (fun e => h1 e.symm)
    · simp only [decide_true, ne_eq]
      intro e
      exact hg (of_decide_eq_true e.symm).symm
theorem bal_found (h : checkP U l = 0) (b : Bal l rl) {j : Nat} {x : Fl} (hx : l[j]? = some x) (hm : x.me = false) (hg : ¬ gI j l l.length x.fr = gI j l l.length x.to) : knAt l j x = ⟨2, rl.getD j Ms.zero⟩ := by
  obtain ⟨S, s1, s2, s3⟩ := gap_set h hx hg
  obtain ⟨f1, f2⟩ := found_by h (bal_noclash h b) hx hm s1 s2 s3
  have hj : j < l.length := by rw [List.getElem?_eq_some_iff] at hx; exact hx.1
  have key : (knAt l j x).m = rl.getD j Ms.zero := by
    apply ms_ext
    intro k
    have e := lin_real_j b.agree hx hm s1 k l.length
    rw [if_pos hj, b.zero S s2 k] at e
    rw [f2 k]
    generalize cmp k (rl.getD j Ms.zero) = v at *
    generalize linI S (-1) l k l.length = t at *
    revert e s3
    cases S x.fr <;> cases S x.to <;> simp [bi] <;> omega
  revert f1 key
  cases knAt l j x
  simp only
  rintro rfl rfl
  rfl
end
/-! ### What is made -/
theorem cmp_mk (k : Nat) (f : Nat → Int) : cmp k ⟨f 0, f 1, f 2, f 3⟩ = f (min k 3) := by
  match k with
  | 0 => rfl
  | 1 => rfl
  | 2 => rfl
  | k + 3 => rw [show min (k + 3) 3 = 3 by omega]; rfl
theorem linR_app (S : Int → Bool) (l l2 : List Fl) (rl rl2 : List Ms) (k : Nat) (hl : rl.length = l.length) : ∀ n, n ≤ l.length → linR S (l ++ l2) (rl ++ rl2) k n = linR S l rl k n
  | 0, _ => rfl
  | n + 1, hn => by
    have ih := linR_app S l l2 rl rl2 k hl n (by omega)
    simp only [linR, ih, List.getD_eq_getElem?_getD]
    rw [List.getElem?_append_left (by omega), List.getElem?_append_left (by omega)]
theorem linR_snoc (S : Int → Bool) (l : List Fl) (rl : List Ms) (x : Fl) (m : Ms) (k : Nat) (hl : rl.length = l.length) : linR S (l ++ [x]) (rl ++ [m]) k (l.length + 1) = linR S l rl k l.length + (bi (S x.to) - bi (S x.fr)) * cmp k m := by
  rw [linR, linR_app S l [x] rl [m] k hl _ (Nat.le_refl _), List.getElem?_append_right (Nat.le_refl _), List.getD_eq_getElem?_getD, List.getElem?_append_right (by omega), hl, Nat.sub_self]
  rfl
/-- What all units are left. -/
def sumN (S : Int → Bool) (f : Nat → Int) : Nat → Int
  | 0 => 0
  | u + 1 => sumN S f u + bi (S u) * f u
theorem sumN_0 (S : Int → Bool) : ∀ n, sumN S (fun _ => 0) n = 0
  | 0 => rfl
  | n + 1 => by rw [sumN, sumN_0 S n]; simp
theorem sumN_add (S : Int → Bool) (f g : Nat → Int) : ∀ n, sumN S (fun u => f u + g u) n = sumN S f n + sumN S g n
  | 0 => rfl
  | n + 1 => by simp only [sumN, sumN_add S f g n, Int.mul_add]; omega
theorem sumN_at (S : Int → Bool) (t v : Int) (ht : -1 ≤ t) : ∀ n : Nat, sumN S (fun u => bi (decide (t = u)) * v) n = if 0 ≤ t ∧ t < n then bi (S t) * v else 0
  | 0 => by rw [if_neg (by omega)]; rfl
  | n + 1 => by
    rw [sumN, sumN_at S t v ht n]
    by_cases h : t = n
    · subst h
      rw [if_neg (by omega), if_pos (by omega), decide_eq_true rfl]
      simp [bi]
    · rw [decide_eq_false h]
      by_cases h2 : 0 ≤ t ∧ t < n
      · rw [if_pos h2, if_pos (by omega)]; simp [bi]
      · rw [if_neg h2, if_neg (by omega)]; simp [bi]
theorem sumN_neg (S : Int → Bool) (f : Nat → Int) : ∀ n, sumN S (fun u => - f u) n = - sumN S f n
  | 0 => rfl
  | n + 1 => by simp only [sumN, sumN_neg S f n, Int.mul_neg]; omega
theorem flT_bal {m : Mi} (h : m.Ok) {S : Int → Bool} (hS : S (-1) = false) (k : Nat) : ∀ i, i ≤ m.ends.length → linR S (flT m i) (rlT m i) k i = sumN S (fun u => netT m u (min k 3) i) m.n
  | 0, _ => by
    have : sumN S (fun u => netT m u (min k 3) 0) m.n = sumN S (fun _ => 0) m.n := rfl
    rw [this, sumN_0]; rfl
  | i + 1, hi => by
    have ih := flT_bal h hS k i (by omega)
    obtain ⟨e, he⟩ := at_ix (l := m.ends) (i := i) (by omega)
    obtain ⟨h1, h2⟩ := h.ends e (List.mem_of_getElem? he)
    obtain ⟨b1, b2, b3, b4, b5⟩ := ends_bd (m := m) h1 h2
    have e1 : flT m (i + 1) = flT m i ++ [mkF m i e] := by rw [flT, he]
    have e2 : rlT m (i + 1) = rlT m i ++ [mass4 m i] := rfl
    have l1 := flT_len m i (by omega)
    have l2 := rlT_len m i
    have sn := linR_snoc S (flT m i) (rlT m i) (mkF m i e) (mass4 m i) k (by omega)
    rw [l1, ih] at sn
    rw [e1, e2, sn]
    have c : cmp k (mass4 m i) = mval m i (min k 3) := cmp_mk k (mval m i)
    have net : ∀ u, netT m u (min k 3) (i + 1) = netT m u (min k 3) i + (bi (decide (e2I m e = u)) * mval m i (min k 3) + - (bi (decide (e1I m e = u)) * mval m i (min k 3))) := by
      intro u
      rw [netT, he]
      simp only []
      rw [Int.sub_mul]
      omega
    simp only [net]
    rw [sumN_add, sumN_add, sumN_neg, sumN_at S _ _ b3, sumN_at S _ _ b1, c]
    have p1 : (if 0 ≤ e2I m e ∧ e2I m e < m.n then bi (S (e2I m e)) * mval m i (min k 3) else 0) = bi (S (e2I m e)) * mval m i (min k 3) := by
      by_cases hq : 0 ≤ e2I m e
      · rw [if_pos ⟨hq, b4⟩]
      · have : e2I m e = -1 := by omega
        rw [if_neg (by omega), this, hS]; simp [bi]
    have p2 : (if 0 ≤ e1I m e ∧ e1I m e < m.n then bi (S (e1I m e)) * mval m i (min k 3) else 0) = bi (S (e1I m e)) * mval m i (min k 3) := by
      by_cases hq : 0 ≤ e1I m e
      · rw [if_pos ⟨hq, b2⟩]
      · have : e1I m e = -1 := by omega
        rw [if_neg (by omega), this, hS]; simp [bi]
    rw [p1, p2, Int.sub_mul, show (mkF m i e).to = e2I m e from rfl, show (mkF m i e).fr = e1I m e from rfl]
    omega
theorem flU_bal {m : Mi} (h : m.Ok) {S : Int → Bool} (hS : S (-1) = false) (k : Nat) : ∀ u, linR S (flU m u) (rlU m u) k (m.c + u) + sumN S (fun v => netT m v (min k 3) m.c) u = sumN S (fun v => netT m v (min k 3) m.c) m.n
  | 0 => by
    have := flT_bal h hS k m.c (Nat.min_le_left _ _)
    show linR S (flT m m.c) (rlT m m.c) k m.c + 0 = _
    omega
  | u + 1 => by
    have ih := flU_bal h hS k u
    have l1 := flU_len m u
    have l2 := rlU_len m u
    have sn := linR_snoc S (flU m u) (rlU m u) (mkC m (rsT m m.c) u) (rw4 (rsT m m.c) u) k (by omega)
    rw [l1] at sn
    have e1 : flU m (u + 1) = flU m u ++ [mkC m (rsT m m.c) u] := rfl
    have e2 : rlU m (u + 1) = rlU m u ++ [rw4 (rsT m m.c) u] := rfl
    rw [e1, e2, ← Nat.add_assoc, sn]
    have c : cmp k (rw4 (rsT m m.c) u) = netT m u (min k 3) m.c := by
      rw [← rsT_net h u (k := min k 3) (by omega) m.c (c_le m)]
      exact cmp_mk k (fun j => rsT m m.c (u * 4 + j))
    rw [c]
    have : (mkC m (rsT m m.c) u).to = -1 := rfl
    have : (mkC m (rsT m m.c) u).fr = (u : Int) := rfl
    rw [show S (mkC m (rsT m m.c) u).to = false from hS, show (mkC m (rsT m m.c) u).fr = (u : Int) from rfl]
    have e3 : sumN S (fun v => netT m v (min k 3) m.c) (u + 1) = sumN S (fun v => netT m v (min k 3) m.c) u + bi (S u) * netT m u (min k 3) m.c := rfl
    rw [e3, Int.sub_mul]
    simp [bi] at ih ⊢
    omega
theorem flT_agree (m : Mi) : ∀ i, i ≤ m.ends.length → ∀ (j : Nat) (x : Fl), (flT m i)[j]? = some x → (x.me = true → x.m = (rlT m i).getD j Ms.zero) ∧ (x.me = false → x.m = Ms.zero)
  | 0, _, j, x, hx => by simp [flT] at hx
  | i + 1, hi, j, x, hx => by
    obtain ⟨e, he⟩ := at_ix (l := m.ends) (i := i) (by omega)
    have l1 := flT_len m i (by omega)
    have l2 := rlT_len m i
    rw [flT, he] at hx
    rw [rlT, List.getD_eq_getElem?_getD]
    by_cases hj : j < i
    · rw [List.getElem?_append_left (by omega)] at hx
      rw [List.getElem?_append_left (by omega), ← List.getD_eq_getElem?_getD]
      exact flT_agree m i (by omega) j x hx
    · rw [List.getElem?_append_right (by omega)] at hx
      rw [List.getElem?_append_right (by omega)]
      have : j - (flT m i).length = 0 := by
        rcases Nat.eq_zero_or_pos (j - (flT m i).length) with h | h
        · exact h
        · rw [List.getElem?_eq_none (by simp; omega)] at hx; simp at hx
      rw [this] at hx
      rw [show j - (rlT m i).length = 0 by omega]
      simp only [List.getElem?_cons_zero, Option.some.injEq] at hx
      subst hx
      unfold mkF
      cases meB m.kn i <;> simp
theorem flU_agree (m : Mi) : ∀ u (j : Nat) (x : Fl), (flU m u)[j]? = some x → (x.me = true → x.m = (rlU m u).getD j Ms.zero) ∧ (x.me = false → x.m = Ms.zero)
  | 0, j, x, hx => flT_agree m m.c (Nat.min_le_left _ _) j x hx
  | u + 1, j, x, hx => by
    have l1 := flU_len m u
    have l2 := rlU_len m u
    rw [flU] at hx
    rw [rlU, List.getD_eq_getElem?_getD]
    by_cases hj : j < m.c + u
    · rw [List.getElem?_append_left (by omega)] at hx
      rw [List.getElem?_append_left (by omega), ← List.getD_eq_getElem?_getD]
      exact flU_agree m u j x hx
    · rw [List.getElem?_append_right (by omega)] at hx
      rw [List.getElem?_append_right (by omega)]
      have : j - (flU m u).length = 0 := by
        rcases Nat.eq_zero_or_pos (j - (flU m u).length) with h | h
        · exact h
        · rw [List.getElem?_eq_none (by simp; omega)] at hx; simp at hx
      rw [this] at hx
      rw [show j - (rlU m u).length = 0 by omega]
      simp only [List.getElem?_cons_zero, Option.some.injEq] at hx
      subst hx
      unfold mkC
      cases mkMe m (rsT m m.c) u <;> simp
theorem made_bal {m : Mi} (h : m.Ok) : Bal (flU m m.n) (rlU m m.n) := ⟨fun S hS k => by
  have := flU_bal h hS k m.n
  have := flU_len m m.n
  rw [flU_len m m.n]
  omega, fun i x hx hm => (flU_agree m m.n i x hx).1 hm⟩
end Go.Proofs.Ytdbikamciedfdaa
namespace Go.Proofs.Ytdbikamciedfdaa
open Go Go.DL
set_option maxRecDepth 100000
set_option maxHeartbeats 4000000

/-! ### The whole plant -/
end Go.Proofs.Ytdbikamciedfdaa
namespace Go.Proofs.Ytdbikamciedfdaa
open Go Go.DL
set_option maxRecDepth 100000
set_option maxHeartbeats 4000000

theorem knT_get {l : List Fl} {j : Nat} {x : Fl} (hx : l[j]? = some x) : ∀ i, i ≤ l.length → j < i → (knT l i)[j]? = some (knAt l j x)
  | 0, _, h => by omega
  | i + 1, hi, h => by
    obtain ⟨y, hy⟩ := at_ix (l := l) (i := i) (by omega)
    have hl := knT_len (l := l) i (by omega)
    rw [knT, hy]
    dsimp only
    by_cases hj : j = i
    · subst hj
      rw [hx, Option.some.injEq] at hy
      subst hy
      rw [List.getElem?_append_right (by omega), hl, Nat.sub_self]; rfl
    · rw [List.getElem?_append_left (by omega)]
      exact knT_get hx i (by omega) (by omega)
theorem cmp_net {m : Mi} (h : m.Ok) (u k : Nat) : -2000 ≤ cmp k (rw4 (rsT m m.c) u) ∧ cmp k (rw4 (rsT m m.c) u) ≤ 2000 := by
  have e : cmp k (rw4 (rsT m m.c) u) = netT m u (min k 3) m.c := by
    rw [← rsT_net h u (k := min k 3) (by omega) m.c (c_le m)]
    exact cmp_mk k (fun j => rsT m m.c (u * 4 + j))
  have := net_bd h u (min k 3) m.c
  have := c_le m
  omega
theorem rlU_bd {m : Mi} (h : m.Ok) : ∀ u, ∀ r ∈ rlU m u, ∀ k, -2000 ≤ cmp k r ∧ cmp k r ≤ 2000
  | 0, r, hr, k => by
    have key : ∀ i, ∀ r ∈ rlT m i, -2000 ≤ cmp k r ∧ cmp k r ≤ 2000 := by
      intro i
      induction i with
      | zero => intro r hr; simp [rlT] at hr
      | succ i ih =>
        intro r hr
        rw [rlT] at hr
        rcases List.mem_append.1 hr with hr | hr
        · exact ih r hr
        · simp only [List.mem_cons, List.not_mem_nil, or_false] at hr
          subst hr
          have := cmp_mass4 h i k
          omega
    exact key m.c r hr
  | u + 1, r, hr, k => by
    rw [rlU] at hr
    rcases List.mem_append.1 hr with hr | hr
    · exact rlU_bd h u r hr k
    · simp only [List.mem_cons, List.not_mem_nil, or_false] at hr
      subst hr
      exact cmp_net h u k
end Go.Proofs.Ytdbikamciedfdaa
namespace Go.Proofs.Ytdbikamciedfdaa
open Go Go.DL
set_option maxRecDepth 100000
set_option maxHeartbeats 1000000

section
variable {U : Nat} {l : List Fl} {rl : List Ms} {i : Nat} {x : Fl} {mm : Ms}
/-- The flow measured. -/
abbrev meF (x : Fl) (mm : Ms) : Fl := ⟨x.fr, x.to, true, mm⟩
theorem set_get (hx : l[i]? = some x) (j : Nat) (y : Fl) : (l.set i (meF x mm))[j]? = some y ↔ (j = i ∧ y = meF x mm) ∨ (j ≠ i ∧ l[j]? = some y) := by
  have hi : i < l.length := by rw [List.getElem?_eq_some_iff] at hx; exact hx.1
  by_cases hj : j = i
  · subst hj
    rw [List.getElem?_set_self hi]
    simp
    exact eq_comm
  · rw [List.getElem?_set_ne (fun e => hj e.symm)]
    simp [hj]
theorem closed_set (hx : l[i]? = some x) {wo : Int} {S : Int → Bool} (h : ClosedS wo l S) : ClosedS wo (l.set i (meF x mm)) S := by
  intro j y hy hm hw
  rcases (set_get hx j y).1 hy with ⟨_, rfl⟩ | ⟨_, hy⟩
  · simp at hm
  · exact h j y hy hm hw
theorem closed_unset (hx : l[i]? = some x) {wo : Int} {S : Int → Bool} (h : ClosedS wo (l.set i (meF x mm)) S) (he : (i : Int) ≠ wo → S x.fr = S x.to) : ClosedS wo l S := by
  intro j y hy hm hw
  by_cases hj : j = i
  · subst hj
    rw [hx, Option.some.injEq] at hy
    subst hy
    exact he hw
  · exact h j y ((set_get hx j y).2 (.inr ⟨hj, hy⟩)) hm hw
theorem lin_set (hx : l[i]? = some x) (hm : x.me = false) (S : Int → Bool) (k : Nat) : ∀ n, linI S (-1) (l.set i (meF x mm)) k n = linI S (-1) l k n + if i < n then (bi (S x.to) - bi (S x.fr)) * cmp k mm else 0
  | 0 => by simp [linI]
  | n + 1 => by
    have ih := lin_set hx hm S k n
    have hd : decide ((n : Int) = -1) = false := decide_eq_false (by omega)
    simp only [linI, ih, hd]
    by_cases hn : n = i
    · subst hn
      rw [(set_get hx n (meF x mm)).2 (.inl ⟨rfl, rfl⟩), hx]
      simp [hm]
    · rw [show (l.set i (meF x mm))[n]? = l[n]? from List.getElem?_set_ne (fun e => hn e.symm)]
      by_cases h2 : i < n
      · rw [if_pos h2, if_pos (by omega)]
        omega
      · rw [if_neg h2, if_neg (by omega)]
        omega
theorem ok_of (h : checkP U l = 0) : ∀ x ∈ l, chkF U x = 0 := by
  obtain ⟨u1, u2, u3, u4⟩ := checkP_u h
  have key : ∀ l : List Fl, firstE U l = 0 → ∀ x ∈ l, chkF U x = 0 := by
    intro l
    induction l with
    | nil => intro _ x hx; simp at hx
    | cons a r ih =>
      intro h x hx
      rw [firstE] at h
      by_cases ha : chkF U a = 0
      · rw [if_pos ha] at h
        rcases List.mem_cons.1 hx with hx | hx
        · rw [hx]; exact ha
        · exact ih h x hx
      · rw [if_neg ha] at h
        exact absurd h ha
  exact key l u4
theorem chk_meF (h : chkF U x = 0) (e : Int) (he : e = if mm.within 0 1000000000 then 0 else 2) : chkF U (meF x mm) = e := by
  unfold chkF at h ⊢
  dsimp only
  rw [he]
  split at h
  · rename_i h1
    rw [if_pos h1]
    split at h
    · simp at h
    · rename_i h2
      rw [if_neg h2]
      cases mm.within 0 1000000000 <;> rfl
  · simp at h
theorem firstE_set : ∀ {l : List Fl} {i : Nat} {z : Fl}, (∀ x ∈ l, chkF U x = 0) → i < l.length → firstE U (l.set i z) = chkF U z
  | [], i, z, _, h => by simp at h
  | y :: r, 0, z, h, _ => by
    rw [List.set_cons_zero, firstE]
    split
    · rename_i hz
      rw [hz]
      exact firstE_of fun x hx => h x (by simp [hx])
    · rfl
  | y :: r, i + 1, z, h, hi => by
    rw [List.set_cons_succ, firstE, if_pos (h y (by simp))]
    exact firstE_set (fun x hx => h x (by simp [hx])) (by simpa using hi)
theorem check_set (h : checkP U l = 0) (hx : l[i]? = some x) (e : Int) (he : e = if mm.within 0 1000000000 then 0 else 2) : checkP U (l.set i (meF x mm)) = e := by
  obtain ⟨u1, u2, u3, u4⟩ := checkP_u h
  have hi : i < l.length := by rw [List.getElem?_eq_some_iff] at hx; exact hx.1
  have hb : btw 1 (U : Int) 8 = true := by simp only [btw, Bool.and_eq_true, decide_eq_true_eq]; omega
  unfold checkP
  rw [hb, if_pos rfl, List.length_set, if_neg (by omega), firstE_set (ok_of h) hi]
  exact chk_meF (ok_of h x (List.mem_of_getElem? hx)) e he
/-- No clash, with masses that a balance has. -/
theorem more_noclash (h : checkP U l = 0) (b : Bal l rl) (hx : l[i]? = some x) (hm : x.me = false) (hc : checkP U (l.set i (meF x mm)) = 0) (hf : (¬ gI i l l.length x.fr = gI i l l.length x.to) → mm = rl.getD i Ms.zero) : NoClash U (l.set i (meF x mm)) := by
  have hi : i < l.length := by rw [List.getElem?_eq_some_iff] at hx; exact hx.1
  refine noClash_of hc fun S s1 s2 k => ?_
  rw [List.length_set, lin_set hx hm, if_pos hi]
  have sw : ClosedS i l S := by
    intro j y hy hmy hw
    exact s2 j y ((set_get hx j y).2 (.inr ⟨by omega, hy⟩)) hmy (by omega)
  by_cases hg : gI i l l.length x.fr = gI i l l.length x.to
  · have he := closed_same sw hg
    have : ClosedS (-1) l S := closed_unset hx s2 fun _ => he
    rw [lin_real b.agree this, b.zero S s1 k, he]
    simp
  · rw [hf hg]
    have e := lin_real_j b.agree hx hm sw k l.length
    rw [if_pos hi, b.zero S s1 k] at e
    omega
/-- What was found stays. -/
theorem more_found (h : checkP U l = 0) (hn : NoClash U l) (hc : checkP U (l.set i (meF x mm)) = 0) (hn2 : NoClash U (l.set i (meF x mm))) (hx : l[i]? = some x) (hm : x.me = false) {j : Nat} {y : Fl} (hij : j ≠ i) (hy : l[j]? = some y) (hym : y.me = false)
    (hg : ¬ gI j l l.length y.fr = gI j l l.length y.to) : knAt (l.set i (meF x mm)) j y = knAt l j y := by
  have hi : i < l.length := by rw [List.getElem?_eq_some_iff] at hx; exact hx.1
  obtain ⟨S, s1, s2, s3⟩ := gap_set h hy hg
  obtain ⟨f1, f2⟩ := found_by h hn hy hym s1 s2 s3
  have hy2 : (l.set i (meF x mm))[j]? = some y := (set_get hx j y).2 (.inr ⟨hij, hy⟩)
  obtain ⟨g1, g2⟩ := found_by hc hn2 hy2 hym (closed_set hx s1) s2 s3
  have he : S x.fr = S x.to := s1 i x hx hm (by omega)
  have key : (knAt (l.set i (meF x mm)) j y).m = (knAt l j y).m := by
    apply ms_ext
    intro k
    rw [g2 k, f2 k, List.length_set, lin_set hx hm, if_pos hi, he]
    simp
  revert f1 g1 key
  cases knAt (l.set i (meF x mm)) j y
  cases knAt l j y
  simp only
  rintro rfl rfl rfl
  rfl
/-- One that was found opens nothing, and closes nothing. -/
theorem more_open (h : checkP U l = 0) (hc : checkP U (l.set i (meF x mm)) = 0) (hx : l[i]? = some x) (hm : x.me = false) (hf : ¬ gI i l l.length x.fr = gI i l l.length x.to) {j : Nat} {y : Fl} (hij : j ≠ i) (hy : l[j]? = some y) (hym : y.me = false)
    (hg : gI j l l.length y.fr = gI j l l.length y.to) : knAt (l.set i (meF x mm)) j y = knAt l j y := by
  have hy2 : (l.set i (meF x mm))[j]? = some y := (set_get hx j y).2 (.inr ⟨hij, hy⟩)
  rw [kn_open hym hg]
  by_cases hg2 : gI j (l.set i (meF x mm)) (l.set i (meF x mm)).length y.fr = gI j (l.set i (meF x mm)) (l.set i (meF x mm)).length y.to
  · exact kn_open hym hg2
  · exfalso
    obtain ⟨S, s1, s2, s3⟩ := gap_set hc hy2 hg2
    obtain ⟨T, t1, t2, t3⟩ := gap_set h hx hf
    by_cases he : S x.fr = S x.to
    · exact s3 (closed_same (closed_unset hx s1 fun _ => he) hg)
    · have hT : T y.fr = T y.to := t1 j y hy hym (by omega)
      have W : ClosedS j l fun z => xor (S z) (T z) := by
        intro a z hz hzm hza
        by_cases hai : a = i
        · subst hai
          rw [hx, Option.some.injEq] at hz
          subst hz
          show (S x.fr ^^ T x.fr) = (S x.to ^^ T x.to)
          revert he t3
          cases S x.fr <;> cases S x.to <;> cases T x.fr <;> cases T x.to <;> simp
        · have e1 := s1 a z ((set_get hx a z).2 (.inr ⟨hai, hz⟩)) hzm hza
          have e2 := t1 a z hz hzm (by omega)
          simp only [e1, e2]
      have e := closed_same W hg
      simp only [hT] at e
      apply s3
      revert e
      cases S y.fr <;> cases S y.to <;> cases T y.to <;> simp
end
end Go.Proofs.Ytdbikamciedfdaa
namespace Go.Proofs.Ytdbikamciedfdaa
open Go Go.DL
set_option maxRecDepth 100000
set_option maxHeartbeats 4000000

/-- The masses that are told: the given ones, or those that were found. -/
def mV (f : Bool) (ms : List Int) (y : Ms) (k : Nat) : Int := if f then cmp k y else ms.getD k 0
def mmT (f : Bool) (ms : List Int) (y m0 : Ms) : Nat → Ms
  | 0 => m0
  | k + 1 => setM k (mV f ms y k) (mmT f ms y m0 k)
theorem setM_self {k : Nat} (hk : k < 4) (v : Int) (m : Ms) : cmp k (setM k v m) = v := by
  match k, hk with
  | 0, _ => rfl
  | 1, _ => rfl
  | 2, _ => rfl
  | 3, _ => rfl
theorem setM_ne {k j : Nat} (hk : k < 4) (hj : j < 4) (h : j ≠ k) (v : Int) (m : Ms) : cmp j (setM k v m) = cmp j m := by
  match k, hk, j, hj with
  | 0, _, 0, _ => exact absurd rfl h
  | 0, _, 1, _ => rfl
  | 0, _, 2, _ => rfl
  | 0, _, 3, _ => rfl
  | 1, _, 0, _ => rfl
  | 1, _, 1, _ => exact absurd rfl h
  | 1, _, 2, _ => rfl
  | 1, _, 3, _ => rfl
  | 2, _, 0, _ => rfl
  | 2, _, 1, _ => rfl
  | 2, _, 2, _ => exact absurd rfl h
  | 2, _, 3, _ => rfl
  | 3, _, 0, _ => rfl
  | 3, _, 1, _ => rfl
  | 3, _, 2, _ => rfl
  | 3, _, 3, _ => exact absurd rfl h
theorem setM_set {k : Nat} (hk : k < 4) (v w : Int) (m : Ms) : setM k v (setM k w m) = setM k v m := by
  match k, hk with
  | 0, _ => rfl
  | 1, _ => rfl
  | 2, _ => rfl
  | 3, _ => rfl
theorem mmT_cmp (f : Bool) (ms : List Int) (y m0 : Ms) (j : Nat) (hj : j < 4) : ∀ k, k ≤ 4 → j < k → cmp j (mmT f ms y m0 k) = mV f ms y j
  | 0, _, h => by omega
  | k + 1, hk, h => by
    rw [mmT]
    by_cases e : j = k
    · subst e; exact setM_self hj _ _
    · rw [setM_ne (by omega) hj e]
      exact mmT_cmp f ms y m0 j hj k (by omega) (by omega)
theorem cmp_ge (k : Nat) (m : Ms) : cmp k m = cmp (min k 3) m := by
  match k with
  | 0 => rfl
  | 1 => rfl
  | 2 => rfl
  | 3 => rfl
  | k + 4 => rw [show min (k + 4) 3 = 3 by omega]; rfl
theorem within_not {m : Ms} {lo hi : Int} {k : Nat} (hk : k < 4) (h : cmp k m < lo) : m.within lo hi = false := by
  cases hw : m.within lo hi with
  | false => rfl
  | true =>
    simp only [Ms.within, btw, Bool.and_eq_true, decide_eq_true_eq] at hw
    match k, hk with
    | 0, _ => simp only [cmp] at h; omega
    | 1, _ => simp only [cmp] at h; omega
    | 2, _ => simp only [cmp] at h; omega
    | 3, _ => simp only [cmp] at h; omega
theorem spl_me {l : List Fl} {i : Nat} {x : Fl} (hx : l[i]? = some x) {k : Nat} (hk : k < 4) (v : Int) (mm : Ms) : splice (cF (l.set i (meF x mm))) (i * 7 + 3 + k) [I v] = cF (l.set i (meF x (setM k v mm))) := by
  rw [cF_spl ((set_get hx i (meF x mm)).2 (.inl ⟨rfl, rfl⟩)) hk v, List.set_set]

theorem u8_nz : ∀ ms : List Int, nzL (ms.map fun v => .int .u8 v) = ms.map fun v => .int .u8 v
  | [] => rfl
  | v :: r => by rw [List.map_cons, nzL, u8_nz r]; rfl
theorem u8_gr : ∀ ms : List Int, grL (ms.map fun v => .int .u8 v) = true
  | [] => rfl
  | v :: r => by rw [List.map_cons, grL, u8_gr r]; rfl
theorem fl_all (l : List Fl) : ((l.map Fl.row).all fun r => r.length == 7) = true := by
  rw [List.all_eq_true]
  intro r hr
  rw [(fl_ok l r hr).2.2.2]
  rfl
theorem fl_flat (l : List Fl) : (l.map Fl.row).flatten = cF l := rfl
abbrev h8 (ms : List Int) (n : Nat) (l : List Fl) : XH := [some (.blk true (.cells true (ms.map fun v => .int .u8 v))), some (.blk false (.cells true [I n, .sl 2 0 7 l.length])), some (.blk true (.cells true (cF l)))]
/-- A kind's round. -/
theorem round8 {n : Nat} {l : List Fl} {i : Nat} {x : Fl} (hx : l[i]? = some x) (hl : l.length ≤ 10) {ms : List Int} {kn : List Kn} {y : Kn} (hkn : kn[i]? = some y) (f : Bool) {k : Nat} (hk : k < 4) {w : Int} (hw : ms[k]? = some w) (hwb : 0 ≤ w ∧ w ≤ 255)
    (hng : f = true → 0 ≤ cmp k y.m) :
    headX 0 [5, 9, 11, 12, 13, 68] (execW progX 8 0 none (match x8l0 with | .loop _ a => a | c => c) (envL [5, 9, 11, 12, 13, 68] [.pt 0 0, rK kn, I (i : Nat), .bool f, .pt 1 0, I (k : Nat)]) (h8 ms n (l.set i (meF x (mmT f ms y.m x.m k))))) =
      some ([.pt 0 0, rK kn, I (i : Nat), .bool f, .pt 1 0, I (k + 1 : Nat)], h8 ms n (l.set i (meF x (mmT f ms y.m x.m (k + 1))))) := by
  have hi : i < l.length := by rw [List.getElem?_eq_some_iff] at hx; exact hx.1
  have hki : i < kn.length := by rw [List.getElem?_eq_some_iff] at hkn; exact hkn.1
  rw [mmT]
  generalize mmT f ms y.m x.m k = m1
  have c2 : (Kn.row y)[1 + k]? = some (I (cmp k y.m)) := by
    match k, hk with
    | 0, _ => rfl
    | 1, _ => rfl
    | 2, _ => rfl
    | 3, _ => rfl
  have c3 : (Kn.row y).length = 5 := rfl
  have c4 : (kn.map Kn.row)[i]? = some (Kn.row y) := by rw [List.getElem?_map, hkn]; rfl
  have c5 : (kn.map Kn.row).length = kn.length := List.length_map ..
  have g1 : ((k : Int) < 4) = True := eq_true (by omega)
  have g2 : IntKind.i64.wrap ((k : Int) + 1) = (k : Int) + 1 := wrap_ok (by omega) (by omega)
  have g3 : ((i : Int) < (l.length : Int)) = True := eq_true (by omega)
  have g4 : ((i : Int) < ((kn.map Kn.row).length : Int)) = True := eq_true (by omega)
  have g5 : IntKind.i64.wrap w = w := wrap_ok (by omega) (by omega)
  have s1 := spl_me hx hk w m1
  have s2 := spl_me hx hk (cmp k y.m) (setM k w m1)
  rw [setM_set hk] at s2
  have hl1 : (l.set i (meF x m1)).length = l.length := List.length_set ..
  have hl2 : (l.set i (meF x (setM k w m1))).length = l.length := List.length_set ..
  have hl3 : (l.set i (meF x (setM k (cmp k y.m) m1))).length = l.length := List.length_set ..
  have b1 : (i * 7 + 3 + k + 1 ≤ (cF (l.set i (meF x m1))).length) = True := eq_true (by rw [cF_len, hl1]; omega)
  have b2 : (i * 7 + 3 + k + 1 ≤ (cF (l.set i (meF x (setM k w m1)))).length) = True := eq_true (by rw [cF_len, hl2]; omega)
  have e1 : mV false ms y.m k = w := by unfold mV; rw [if_neg (by simp), List.getD_eq_getElem?_getD, hw]; rfl
  have e2 : mV true ms y.m k = cmp k y.m := rfl
  unfold h8 rK x8l0
  dsimp only
  cases f
  · rw [e1]
    generalize l.set i (meF x m1) = l1 at *
    generalize l.set i (meF x (setM k w m1)) = l2 at *
    generalize kn.map Kn.row = rows at *
    (sym => (simp [etaM, etaF, z00,z01,z02,z05,z07,z08,z0b,z0c,z0n,z0v,z11,z12,z14,z15,z1j,z1k,z1l,z1m,z1n,z1p,z1q,z28,z29,z2a,z2f,z2g,z2h,z2j,z2v,z33,z34,z3p,z40,z41,z4l,z4m,z4q,z4s,z4t,z54,z66,z67,z6b,z6d,z6e,z8a,z91,z9d,z9e,z9g,z9i,z9p,z9r,z9s,z9v,z9w,z9y,za0,za1,za3,za6,za7,za8,za9,zae,zaf,zag,zal,zam,zav,zca,zcc,zcd,zce,zcf,zcg,zcn,zco,zcp,zcq,zcr,zct,zcu,zcv,zcx,zcy,zd3,zd7,zd8,zdd,zdj,zdk,zdl,zdm,zdn,zds,zdt,zdu,zdv,zdw,zdx,zf6,zf7,zf8,zf9,zfb,zfc,zfd,zfm,zfo,zfq,zfs,zft,zfw,zfz,zg0,zg1,zhd,zhe,zhf,zj8, g1, g2, g3, g4, g5, hl1, hl2, b1, s1, hw, cF_gr, cF_nm, cF_sl]; all_goals tactic => exact rfl))
  · have hng := hng rfl
    have e3 : (cmp k y.m < 0) = False := eq_false (by omega)
    rw [e2]
    generalize l.set i (meF x m1) = l1 at *
    generalize l.set i (meF x (setM k w m1)) = l2 at *
    generalize l.set i (meF x (setM k (cmp k y.m) m1)) = l3 at *
    generalize Kn.row y = row at *
    generalize kn.map Kn.row = rows at *
    generalize cmp k y.m = v at *
    (sym => (simp [etaM, etaF, z00,z01,z02,z05,z07,z08,z0b,z0c,z0n,z0v,z11,z12,z14,z15,z1j,z1k,z1l,z1m,z1n,z1p,z1q,z28,z29,z2a,z2f,z2g,z2h,z2j,z2v,z33,z34,z3p,z40,z41,z4l,z4m,z4q,z4s,z4t,z54,z66,z67,z6b,z6d,z6e,z8a,z91,z9d,z9e,z9g,z9i,z9p,z9r,z9s,z9v,z9w,z9y,za0,za1,za3,za6,za7,za8,za9,zae,zaf,zag,zal,zam,zav,zca,zcc,zcd,zce,zcf,zcg,zcn,zco,zcp,zcq,zcr,zct,zcu,zcv,zcx,zcy,zd3,zd7,zd8,zdd,zdj,zdk,zdl,zdm,zdn,zds,zdt,zdu,zdv,zdw,zdx,zf6,zf7,zf8,zf9,zfb,zfc,zfd,zfm,zfo,zfq,zfs,zft,zfw,zfz,zg0,zg1,zhd,zhe,zhf,zj8, g1, g2, g3, g4, g5, hl1, hl2, hl3, b1, b2, s1, s2, hw, c2, c3, c4, e3, cF_gr, cF_nm, cF_sl]; all_goals tactic => exact rfl))
theorem ret_thru {res : List (Nat × Option (Bool × Nat))} {own : Bool} {k : Nat} {r : Option (DX × Env × XH)} {v : AV × XH} (h1 : leaves r = true) (h2 : retX res own k r = some v) : ∃ e h, r = some (.ret, e, h) := by
  match r with
  | none => simp [leaves] at h1
  | some (.normal, e, h) => simp [leaves] at h1
  | some (.exit _, e, h) => simp [retX] at h2
  | some (.ret, e, h) => exact ⟨e, h, rfl⟩
/-- The round that leaves: a mass below 0 cannot be measured. -/
theorem round8n {n : Nat} {l : List Fl} {i : Nat} {x : Fl} (hck : checkP n l = 0) (hx : l[i]? = some x) (hl : l.length ≤ 10) {ms : List Int} {kn : List Kn} {y : Kn} (hkn : kn[i]? = some y) {k : Nat} (hk : k < 4) {w : Int} (hw : ms[k]? = some w) (hwb : 0 ≤ w ∧ w ≤ 255)
    (hneg : cmp k y.m < 0) : ∃ e h, execW progX 8 0 none (match x8l0 with | .loop _ a => a | c => c) (envL [5, 9, 11, 12, 13, 68] [.pt 0 0, rK kn, I (i : Nat), .bool true, .pt 1 0, I (k : Nat)]) (h8 ms n (l.set i (meF x (mmT true ms y.m x.m k)))) = some (.ret, e, h) ∧
    retX [(6, none)] false 0 (some (.ret, e, h)) = some (.bool true, []) := by
  have hi : i < l.length := by rw [List.getElem?_eq_some_iff] at hx; exact hx.1
  have hki : i < kn.length := by rw [List.getElem?_eq_some_iff] at hkn; exact hkn.1
  generalize mmT true ms y.m x.m k = m1
  have c2 : (Kn.row y)[1 + k]? = some (I (cmp k y.m)) := by
    match k, hk with
    | 0, _ => rfl
    | 1, _ => rfl
    | 2, _ => rfl
    | 3, _ => rfl
  have c3 : (Kn.row y).length = 5 := rfl
  have c4 : (kn.map Kn.row)[i]? = some (Kn.row y) := by rw [List.getElem?_map, hkn]; rfl
  have c5 : (kn.map Kn.row).length = kn.length := List.length_map ..
  have g1 : ((k : Int) < 4) = True := eq_true (by omega)
  have g3 : ((i : Int) < (l.length : Int)) = True := eq_true (by omega)
  have g4 : ((i : Int) < ((kn.map Kn.row).length : Int)) = True := eq_true (by omega)
  have g5 : IntKind.i64.wrap w = w := wrap_ok (by omega) (by omega)
  have s1 := spl_me hx hk w m1
  have s2 := spl_me hx hk (cmp k y.m) (setM k w m1)
  rw [setM_set hk] at s2
  have hl1 : (l.set i (meF x m1)).length = l.length := List.length_set ..
  have hl2 : (l.set i (meF x (setM k w m1))).length = l.length := List.length_set ..
  have hl3 : (l.set i (meF x (setM k (cmp k y.m) m1))).length = l.length := List.length_set ..
  have b1 : (i * 7 + 3 + k + 1 ≤ (cF (l.set i (meF x m1))).length) = True := eq_true (by rw [cF_len, hl1]; omega)
  have b2 : (i * 7 + 3 + k + 1 ≤ (cF (l.set i (meF x (setM k w m1)))).length) = True := eq_true (by rw [cF_len, hl2]; omega)
  have e20 := w20 n (l.set i (meF x (setM k (cmp k y.m) m1))) (by omega)
  rw [check_set hck hx 2 (by rw [within_not hk (by rw [setM_self hk]; exact hneg)]; rfl)] at e20
  have b4 := cF_ch (l.set i (meF x (setM k (cmp k y.m) m1)))
  have b5 : (l.length * 7 ≤ (cF (l.set i (meF x (setM k (cmp k y.m) m1)))).length) = True := eq_true (by rw [cF_len]; omega)
  rw [hl3] at b4
  have e3 : (cmp k y.m < 0) = True := eq_true hneg
  unfold h8 rK x8l0
  dsimp only
  generalize l.set i (meF x m1) = l1 at *
  generalize l.set i (meF x (setM k w m1)) = l2 at *
  generalize l.set i (meF x (setM k (cmp k y.m) m1)) = l3 at *
  generalize Kn.row y = row at *
  generalize kn.map Kn.row = rows at *
  generalize cmp k y.m = v at *
  have key : ∀ r, r = execW progX 8 0 none (match x8l0 with | .loop _ a => a | c => c) (envL [5, 9, 11, 12, 13, 68] [.pt 0 0, .fs rows, I (i : Nat), .bool true, .pt 1 0, I (k : Nat)]) [some (.blk true (.cells true (ms.map fun v => .int .u8 v))), some (.blk false (.cells true [I n, .sl 2 0 7 l1.length])), some (.blk true (.cells true (cF l1)))] → leaves r = true ∧ retX [(6, none)] false 0 r = some (.bool true, []) := by
    rintro r rfl
    unfold x8l0
    dsimp only
    constructor
    · (sym => (simp [etaM, etaF, z00,z01,z02,z05,z06,z07,z08,z09,z0b,z0c,z0h,z0i,z0n,z0q,z0v,z11,z12,z14,z15,z1j,z1k,z1l,z1m,z1n,z1p,z1q,z1r,z1u,z20,z21,z22,z28,z29,z2a,z2f,z2g,z2h,z2t,z2v,z33,z34,z3p,z40,z41,z4l,z4m,z4o,z4q,z54,z59,z66,z67,z69,z6b,z6p,z6q,z6w,z78,z7f,z7g,z7s,z8a,z91,z9d,z9e,z9g,z9i,z9j,z9k,z9l,z9m,z9p,z9y,za2,za3,za5,za6,za7,za8,zaa,zab,zaq,zas,zat,zav,zb4,zb5,zb9,zba,zbb,zbc,zbd,zbf,zbg,zbj,zbm,zbn,zbp,zbt,zbu,zbw,zbx,zby,zbz,zc0,zc3,zc4,zc5,zc6,zca,zce,zcf,zci,zcn,zco,zcq,zcr,zct,zcu,zcv,zcx,zcy,zd3,zd7,zd8,zdd,zdk,zdm,zdn,zdo,zds,zdt,zdu,zdv,zdw,zdx,zdy,zdz,ze0,ze1,zf6,zf7,zf8,zf9,zfa,zfb,zfc,zfd,zfm,zfo,zfp,zfq,zfs,zft,zfv,zfx,zg0,zg1,zhd,zhe,zj8, g1, g3, g4, g5, hl1, hl2, hl3, b1, b2, s1, s2, hw, c2, c3, c4, e3, b4, b5, e20, works_w, cF_gr, cF_nm, cF_sl]; all_goals tactic => exact rfl))
    · (sym => (simp [etaM, etaF, z00,z01,z02,z05,z06,z07,z08,z09,z0b,z0c,z0h,z0i,z0n,z0q,z0v,z11,z12,z14,z15,z1j,z1k,z1l,z1m,z1n,z1p,z1q,z1r,z1u,z20,z21,z22,z28,z29,z2a,z2f,z2g,z2h,z2t,z2v,z33,z34,z3p,z40,z41,z4l,z4m,z4o,z4q,z54,z59,z66,z67,z69,z6b,z6p,z6q,z6w,z78,z7f,z7g,z7s,z8a,z91,z9d,z9e,z9g,z9i,z9j,z9k,z9l,z9m,z9p,z9y,za2,za3,za5,za6,za7,za8,zaa,zab,zaq,zas,zat,zav,zb4,zb5,zb9,zba,zbb,zbc,zbd,zbf,zbg,zbj,zbm,zbn,zbp,zbt,zbu,zbw,zbx,zby,zbz,zc0,zc3,zc4,zc5,zc6,zca,zce,zcf,zci,zcn,zco,zcq,zcr,zct,zcu,zcv,zcx,zcy,zd3,zd7,zd8,zdd,zdk,zdm,zdn,zdo,zds,zdt,zdu,zdv,zdw,zdx,zdy,zdz,ze0,ze1,zf6,zf7,zf8,zf9,zfa,zfb,zfc,zfd,zfm,zfo,zfp,zfq,zfs,zft,zfv,zfx,zg0,zg1,zhd,zhe,zj8, g1, g3, g4, g5, hl1, hl2, hl3, b1, b2, s1, s2, hw, c2, c3, c4, e3, b4, b5, e20, works_w, cF_gr, cF_nm, cF_sl]; all_goals tactic => exact rfl))
  obtain ⟨k1, k2⟩ := key _ rfl
  obtain ⟨e, h, q⟩ := ret_thru k1 k2
  refine ⟨e, h, q, ?_⟩
  rw [← q]
  exact k2
/-- A flow's round: what is known stays. -/
theorem round8b {n : Nat} {l l' : List Fl} {i : Nat} (hl : l.length ≤ 10) {kn kn' : List Kn} {f : Bool} {j : Nat} (hj : j < l.length) (hk1 : kn.length = l.length) (hk2 : kn'.length = l.length) (hl' : l'.length = l.length) {x : Fl} (hx : l'[i]? = some x) (hi : i < l.length)
    {y y' : Kn} (hy : kn[j]? = some y) (hy' : kn'[j]? = some y') (hc : (j = i ∧ y'.s = 1 ∧ y'.m = x.m) ∨ (j ≠ i ∧ (y' = y ∨ (y.s = 3 ∧ f = false)))) :
    headX 0 [9, 11, 12, 13, 15, 127, 128] (execW progX 8 0 none (match x8l1 with | .loop _ a => a | c => c) (envL [9, 11, 12, 13, 15, 127, 128] [rK kn, I (i : Nat), .bool f, .pt 0 0, rK kn', I l.length, I (j : Nat)]) (hP n l')) =
      some ([rK kn, I (i : Nat), .bool f, .pt 0 0, rK kn', I l.length, I (j + 1 : Nat)], hP n l') := by
  have a1 := lt_ix hj
  have a2 := up_ix hj (by omega)
  have a3 : ((j : Int) < (kn.length : Int)) = True := eq_true (by omega)
  have a4 : ((j : Int) < (kn'.length : Int)) = True := eq_true (by omega)
  have a5 : ((i : Int) < (l'.length : Int)) = True := eq_true (by omega)
  unfold x8l1
  dsimp only
  rcases hc with ⟨rfl, k0, km⟩ | ⟨hji, hc⟩
  · have k1 : y'.m.a = x.m.a := by rw [km]
    have k2 : y'.m.b = x.m.b := by rw [km]
    have k3 : y'.m.c = x.m.c := by rw [km]
    have k4 : y'.m.d = x.m.d := by rw [km]
    (sym => (simp [etaM, etaF, z00,z01,z03,z04,z05,z07,z08,z0b,z0c,z0h,z0i,z0j,z0k,z0n,z0q,z0s,z0v,z0x,z12,z15,z1k,z1l,z1m,z22,z23,z29,z2a,z2g,z2h,z2j,z2t,z2u,z2v,z33,z34,z44,z45,z4f,z4l,z4m,z4q,z4t,z66,z67,z6b,z6e,z8a,z8d,z9d,z9e,z9g,z9j,z9k,z9l,z9m,z9p,z9r,z9v,z9w,z9y,za0,za1,za3,za6,za7,za8,za9,zae,zaf,zal,zca,zcc,zcd,zce,zcf,zcg,zcn,zco,zcp,zcq,zcr,zct,zcu,zcv,zcw,zcx,zcy,zd3,zd6,zd7,zdd,zdj,zdk,zdl,zds,zdt,zdu,zdv,ze9,zea,zeb,zec,zed,zeg,zeh,zei,zf6,zf7,zf8,zf9,zfa,zfb,zfm,zfo,zfq,zfr,zfs,zft,zfu,zfw,zfy,zfz,zg0,zg1,zhf, a1, a2, a3, a4, a5, hx, hy, hy', k0, k1, k2, k3, k4]; all_goals tactic => exact rfl))
  · have b1 : ((j : Int) = (i : Int)) = False := eq_false (by omega)
    rcases hc with rfl | ⟨h3, rfl⟩
    · rcases ptf (y'.s = 3) with g | g
      · cases f <;> (sym => (simp [etaM, etaF, z00,z01,z03,z04,z05,z07,z08,z0b,z0c,z0h,z0i,z0j,z0k,z0n,z0q,z0s,z0v,z0x,z12,z15,z1k,z1l,z1m,z22,z23,z29,z2a,z2g,z2h,z2j,z2t,z2u,z2v,z33,z34,z44,z45,z4f,z4l,z4m,z4q,z4t,z66,z67,z6b,z6e,z8a,z8d,z9d,z9e,z9g,z9j,z9k,z9l,z9m,z9p,z9r,z9v,z9w,z9y,za0,za1,za3,za6,za7,za8,za9,zae,zaf,zal,zca,zcc,zcd,zce,zcf,zcg,zcn,zco,zcp,zcq,zcr,zct,zcu,zcv,zcw,zcx,zcy,zd3,zd6,zd7,zdd,zdj,zdk,zdl,zds,zdt,zdu,zdv,ze9,zea,zeb,zec,zed,zeg,zeh,zei,zf6,zf7,zf8,zf9,zfa,zfb,zfm,zfo,zfq,zfr,zfs,zft,zfu,zfw,zfy,zfz,zg0,zg1,zhf, a1, a2, a3, a4, a5, b1, hx, hy, hy', g]; all_goals tactic => exact rfl))
      · cases f <;> (sym => (simp [etaM, etaF, z00,z01,z03,z04,z05,z07,z08,z0b,z0c,z0h,z0i,z0j,z0k,z0n,z0q,z0s,z0v,z0x,z12,z15,z1k,z1l,z1m,z22,z23,z29,z2a,z2g,z2h,z2j,z2t,z2u,z2v,z33,z34,z44,z45,z4f,z4l,z4m,z4q,z4t,z66,z67,z6b,z6e,z8a,z8d,z9d,z9e,z9g,z9j,z9k,z9l,z9m,z9p,z9r,z9v,z9w,z9y,za0,za1,za3,za6,za7,za8,za9,zae,zaf,zal,zca,zcc,zcd,zce,zcf,zcg,zcn,zco,zcp,zcq,zcr,zct,zcu,zcv,zcw,zcx,zcy,zd3,zd6,zd7,zdd,zdj,zdk,zdl,zds,zdt,zdu,zdv,ze9,zea,zeb,zec,zed,zeg,zeh,zei,zf6,zf7,zf8,zf9,zfa,zfb,zfm,zfo,zfq,zfr,zfs,zft,zfu,zfw,zfy,zfz,zg0,zg1,zhf, a1, a2, a3, a4, a5, b1, hx, hy, hy', g]; all_goals tactic => exact rfl))
    · (sym => (simp [etaM, etaF, z00,z01,z03,z04,z05,z07,z08,z0b,z0c,z0h,z0i,z0j,z0k,z0n,z0q,z0s,z0v,z0x,z12,z15,z1k,z1l,z1m,z22,z23,z29,z2a,z2g,z2h,z2j,z2t,z2u,z2v,z33,z34,z44,z45,z4f,z4l,z4m,z4q,z4t,z66,z67,z6b,z6e,z8a,z8d,z9d,z9e,z9g,z9j,z9k,z9l,z9m,z9p,z9r,z9v,z9w,z9y,za0,za1,za3,za6,za7,za8,za9,zae,zaf,zal,zca,zcc,zcd,zce,zcf,zcg,zcn,zco,zcp,zcq,zcr,zct,zcu,zcv,zcw,zcx,zcy,zd3,zd6,zd7,zdd,zdj,zdk,zdl,zds,zdt,zdu,zdv,ze9,zea,zeb,zec,zed,zeg,zeh,zei,zf6,zf7,zf8,zf9,zfa,zfb,zfm,zfo,zfq,zfr,zfs,zft,zfu,zfw,zfy,zfz,zg0,zg1,zhf, a1, a2, a3, a4, a5, b1, hx, hy, hy', h3]; all_goals tactic => exact rfl))
theorem spl_mt {l : List Fl} {i : Nat} {x : Fl} (h : l[i]? = some x) : splice (cF l) (i * 7 + 2) [.bool true] = cF (l.set i (meF x x.m)) := by
  have hi : i < l.length := by rw [List.getElem?_eq_some_iff] at h; exact h.1
  have key : (cF l).set (i * 7 + 2) (.bool true) = cF (l.set i (meF x x.m)) := by
    clear hi
    induction l generalizing i with
    | nil => simp at h
    | cons y r ih =>
      have e : cF (y :: r) = y.row ++ cF r := rfl
      cases i with
      | zero =>
        simp only [List.getElem?_cons_zero, Option.some.injEq] at h
        subst h
        rw [e, Nat.zero_mul, Nat.zero_add, List.set_append_left _ _ (by simp only [Fl.row, List.length_cons, List.length_nil]; omega), List.set_cons_zero]
        rfl
      | succ i =>
        simp only [List.getElem?_cons_succ] at h
        rw [e, List.set_append_right _ _ (by simp only [Fl.row, List.length_cons, List.length_nil]; omega), List.set_cons_succ, show cF (y :: r.set i (meF x x.m)) = y.row ++ cF (r.set i (meF x x.m)) from rfl, ← ih h]
        congr 2
        simp only [Fl.row, List.length_cons, List.length_nil]; omega
  rw [← key, ← setX_set (by rw [cF_len]; omega)]
  simp [splice, setX]
/-- The first mass below 0. -/
theorem neg_first (y : Ms) : (∀ k, k < 4 → 0 ≤ cmp k y) ∨ ∃ n, n < 4 ∧ cmp n y < 0 ∧ ∀ k, k < n → 0 ≤ cmp k y := by
  by_cases h0 : cmp 0 y < 0
  · exact .inr ⟨0, by omega, h0, fun k hk => by omega⟩
  by_cases h1 : cmp 1 y < 0
  · exact .inr ⟨1, by omega, h1, fun k hk => by rw [show k = 0 by omega]; omega⟩
  by_cases h2 : cmp 2 y < 0
  · exact .inr ⟨2, by omega, h2, fun k hk => by
      have : k = 0 ∨ k = 1 := by omega
      rcases this with rfl | rfl <;> omega⟩
  by_cases h3 : cmp 3 y < 0
  · exact .inr ⟨3, by omega, h3, fun k hk => by
      have : k = 0 ∨ k = 1 ∨ k = 2 := by omega
      rcases this with rfl | rfl | rfl <;> omega⟩
  · exact .inl fun k hk => by
      have : k = 0 ∨ k = 1 ∨ k = 2 ∨ k = 3 := by omega
      rcases this with rfl | rfl | rfl | rfl <;> omega
theorem w8 {m : Mi} (h : m.Ok) (fw : Int) (ms : List Int) (hfw : 0 ≤ fw ∧ fw ≤ 255) (hms : ms.length = 4) (hm : ∀ v ∈ ms, 0 ≤ v ∧ v ≤ 255) : runW progX 8 [miA m, .int .u8 fw, .agg (ms.map fun v => .int .u8 v)] [] = some (.bool true, []) := by
  have e29 := w29 h
  have hlen := fl_len m
  obtain ⟨n1, n2⟩ := N_le m
  obtain ⟨p1, p2⟩ := n_bd m
  have hck := made_check h
  have hb := made_bal h
  have hrl : (rlU m m.n).length = m.N := rlU_len m m.n
  have hbd := rlU_bd h m.n
  generalize flU m m.n = l at *
  generalize rlU m m.n = rl at *
  obtain ⟨i, hi⟩ : ∃ i : Nat, i = fw.toNat % m.N := ⟨_, rfl⟩
  have hiN : i < m.N := by rw [hi]; exact Nat.mod_lt _ (by omega)
  have a3 : fw.tmod (m.N : Int) = (i : Int) := by
    rw [hi, show fw = ((fw.toNat : Nat) : Int) by omega, tmod_nat]; rfl
  rw [← hlen] at e29 hrl n1 n2 hiN a3
  clear hi
  have hnc : clF (gI (-1) l l.length) m.n l m.n = none := bal_noclash hck hb
  have e23 := w23 m.n l (by omega)
  unfold knR clE at e23
  rw [if_pos hck, hnc] at e23
  have e23 : runW progX 23 [plA m.n l] [] = some (.tup [rK (knT l l.length), I 0], []) := e23
  have hkl : (knT l l.length).length = l.length := knT_len _ (Nat.le_refl _)
  obtain ⟨x, hx⟩ := at_ix hiN
  have hky : (knT l l.length)[i]? = some (knAt l i x) := knT_get hx _ (Nat.le_refl _) hiN
  have hkg : ∀ (j : Nat) (z : Fl), l[j]? = some z → (knT l l.length)[j]? = some (knAt l j z) := fun j z hz => knT_get hz _ (Nat.le_refl _) (by rw [List.getElem?_eq_some_iff] at hz; exact hz.1)
  have a1 : IntKind.i64.wrap fw = fw := wrap_ok (by omega) (by omega)
  have a5 : ((i : Int) < (l.length : Int)) = True := eq_true (by omega)
  have a6 : ((l.length : Int) = 0) = False := eq_false (by omega)
  have b2 := cF_ch l
  have b3 : (l.length * 7 ≤ (cF l).length) = True := eq_true (by rw [cF_len]; omega)
  have a7 : ((i : Int) < ((knT l l.length).length : Int)) = True := eq_true (by omega)
  have c2 : (cF l)[i * 7 + 2]? = some (.bool x.me) := by rw [cF_get hx (by omega)]; rfl
  generalize hkn : knT l l.length = kn at *
  cases hme : x.me
  · rw [hme] at c2
    have c3 := spl_mt hx
    have c4 : (i * 7 + 2 + 1 ≤ (cF l).length) = True := eq_true (by rw [cF_len]; omega)
    have hl1 : (l.set i (meF x x.m)).length = l.length := List.length_set ..
    have hmw : ∀ k, k < 4 → ∃ w, ms[k]? = some w ∧ 0 ≤ w ∧ w ≤ 255 := by
      intro k hk
      obtain ⟨w, hw⟩ := at_ix (l := ms) (i := k) (by omega)
      exact ⟨w, hw, hm w (List.mem_of_getElem? hw)⟩
    have hbr : ∀ k, -2000 ≤ cmp k (rl.getD i Ms.zero) ∧ cmp k (rl.getD i Ms.zero) ≤ 2000 := by
      intro k
      obtain ⟨r, hr⟩ := at_ix (l := rl) (i := i) (by omega)
      rw [List.getD_eq_getElem?_getD, hr]
      exact hbd r (List.mem_of_getElem? hr) k
    have z1 := zf5 (n := (l.length : Int))
    have d1 := u8_nz ms
    have d2 := u8_gr ms
    have d3 := fl_all l
    have d4 := fl_flat l
    have d5 : (l.length * 56 ≤ 1099511627776) = True := eq_true (by omega)
    have d6 : (l.length ≤ 1099511627776) = True := eq_true (by omega)
    -- the part behind the loop
    have fin : ∀ f : Bool, (f = false → (knAt l i x).s = 3) → (f = true → (knAt l i x).s = 2 ∧ ¬ gI i l l.length x.fr = gI i l l.length x.to ∧ (knAt l i x).m = rl.getD i Ms.zero ∧ ∀ k, k < 4 → 0 ≤ cmp k (knAt l i x).m) → runW progX 8 [miA m, .int .u8 fw, .agg (ms.map fun v => .int .u8 v)] [] = some (.bool true, []) := by
      intro f hf0 hf1
      have hmv : ∀ k, k < 4 → cmp k (mmT f ms (knAt l i x).m x.m 4) = mV f ms (knAt l i x).m k := fun k hk => mmT_cmp f ms _ _ k hk 4 (by omega) hk
      have hmb : ∀ k, k < 4 → 0 ≤ cmp k (mmT f ms (knAt l i x).m x.m 4) ∧ cmp k (mmT f ms (knAt l i x).m x.m 4) ≤ 1000000000 := by
        intro k hk
        rw [hmv k hk]
        unfold mV
        cases f with
        | false =>
          obtain ⟨w, hw, hwb⟩ := hmw k hk
          rw [if_neg (by simp), List.getD_eq_getElem?_getD, hw]
          show 0 ≤ w ∧ w ≤ 1000000000
          omega
        | true =>
          obtain ⟨_, _, q1, q2⟩ := hf1 rfl
          have := q2 k hk
          have := hbr k
          rw [if_pos rfl, q1] at *
          omega
      have hfm : f = true → mmT f ms (knAt l i x).m x.m 4 = rl.getD i Ms.zero := by
        intro hf
        obtain ⟨_, _, q1, _⟩ := hf1 hf
        apply ms_ext
        intro k
        rw [cmp_ge k, cmp_ge k (rl.getD i Ms.zero), hmv _ (by omega), ← q1]
        unfold mV
        rw [if_pos hf]
      have hgf : ¬ gI i l l.length x.fr = gI i l l.length x.to → f = true := by
        intro hg
        cases f with
        | true => rfl
        | false =>
          have h3 := hf0 rfl
          rw [bal_found hck hb hx hme hg] at h3
          simp at h3
      have hck' : checkP m.n (l.set i (meF x (mmT f ms (knAt l i x).m x.m 4))) = 0 := check_set hck hx 0 (by rw [within_of fun k => by rw [cmp_ge]; exact hmb _ (by omega), if_pos rfl])
      have hnc' : NoClash m.n (l.set i (meF x (mmT f ms (knAt l i x).m x.m 4))) := more_noclash hck hb hx hme hck' fun hg => hfm (hgf hg)
      have hlL : (l.set i (meF x (mmT f ms (knAt l i x).m x.m 4))).length = l.length := List.length_set ..
      have hxL : (l.set i (meF x (mmT f ms (knAt l i x).m x.m 4)))[i]? = some (meF x (mmT f ms (knAt l i x).m x.m 4)) := (set_get hx i _).2 (.inl ⟨rfl, rfl⟩)
      have e23' := w23 m.n (l.set i (meF x (mmT f ms (knAt l i x).m x.m 4))) (by omega)
      unfold knR clE at e23'
      rw [if_pos hck', show clF (gI (-1) (l.set i (meF x (mmT f ms (knAt l i x).m x.m 4))) (l.set i (meF x (mmT f ms (knAt l i x).m x.m 4))).length) m.n (l.set i (meF x (mmT f ms (knAt l i x).m x.m 4))) m.n = none from hnc'] at e23'
      have e23' : runW progX 23 [plA m.n (l.set i (meF x (mmT f ms (knAt l i x).m x.m 4)))] [] = some (.tup [rK (knT (l.set i (meF x (mmT f ms (knAt l i x).m x.m 4))) (l.set i (meF x (mmT f ms (knAt l i x).m x.m 4))).length), I 0], []) := e23'
      have hkl' : (knT (l.set i (meF x (mmT f ms (knAt l i x).m x.m 4))) (l.set i (meF x (mmT f ms (knAt l i x).m x.m 4))).length).length = l.length := by rw [knT_len _ (Nat.le_refl _), hlL]
      have hr8 := fun (j : Nat) (hj : j < l.length) => round8b (n := m.n) (f := f) n1 hj hkl hkl' hlL hxL hiN (hkg j _ (at_ix hj).choose_spec) (knT_get ((set_get hx j (if j = i then meF x (mmT f ms (knAt l i x).m x.m 4) else (at_ix hj).choose)).2 (by
          by_cases hji : j = i
          · exact .inl ⟨hji, if_pos hji⟩
          · exact .inr ⟨hji, by rw [if_neg hji]; exact (at_ix hj).choose_spec⟩)) _ (Nat.le_refl _) (by omega)) (by
          obtain ⟨z, hz⟩ : ∃ z, (at_ix hj).choose = z := ⟨_, rfl⟩
          have hzl := (at_ix hj).choose_spec
          rw [hz] at hzl ⊢
          by_cases hji : j = i
          · rw [if_pos hji]
            exact .inl ⟨hji, by rw [kn_me rfl], by rw [kn_me rfl]⟩
          · rw [if_neg hji]
            refine .inr ⟨hji, ?_⟩
            cases hzm : z.me with
            | true => exact .inl (by rw [kn_me hzm, kn_me hzm])
            | false =>
              by_cases hg : gI j l l.length z.fr = gI j l l.length z.to
              · by_cases hgx : gI i l l.length x.fr = gI i l l.length x.to
                · refine .inr ⟨by rw [kn_open hzm hg], ?_⟩
                  cases f with
                  | false => rfl
                  | true => exact absurd hgx (hf1 rfl).2.1
                · exact .inl (more_open hck hck' hx hme hgx hji hzl hzm hg)
              · exact .inl (more_found hck hnc hck' hnc' hx hme hji hzl hzm hg))
      have hsf : decide ((knAt l i x).s = 2) = f := by
        cases f with
        | false => rw [hf0 rfl]; rfl
        | true => rw [(hf1 rfl).1]; rfl
      generalize hmm : mmT f ms (knAt l i x).m x.m 4 = mm at *
      generalize hL : l.set i (meF x mm) = l' at *
      have b4 := cF_ch l'
      have b5 : (l.length * 7 ≤ (cF l').length) = True := eq_true (by rw [cF_len]; omega)
      rw [hlL] at b4
      generalize knT l' l'.length = kn' at *
      generalize hy : knAt l i x = y at *
      obtain ⟨L, hLk⟩ : ∃ L : Nat → List Fl, ∀ k, L k = l.set i (meF x (mmT f ms y.m x.m k)) := ⟨_, fun _ => rfl⟩
      have q4 : L 4 = l' := by rw [hLk, hmm, hL]
      have q0 : L 0 = l.set i (meF x x.m) := hLk 0
      have rd8 : ∀ k, k < 4 → headX 0 [5, 9, 11, 12, 13, 68] (execW progX 8 0 none (match x8l0 with | .loop _ a => a | c => c) (envL [5, 9, 11, 12, 13, 68] [.pt 0 0, rK kn, I (i : Nat), .bool f, .pt 1 0, I (k : Nat)]) (h8 ms m.n (L k))) = some ([.pt 0 0, rK kn, I (i : Nat), .bool f, .pt 1 0, I (k + 1 : Nat)], h8 ms m.n (L (k + 1))) := by
        intro k hk
        rw [hLk, hLk]
        exact round8 hx n1 hky f hk (hmw k hk).choose_spec.1 (hmw k hk).choose_spec.2 fun hf => (hf1 hf).2.2.2 k hk
      clear hLk
      rw [r8 (by simp)]; unfold x8; dsimp only
      sym =>
        simp [etaM, etaF, z00,z01,z02,z03,z04,z05,z06,z07,z08,z09,z0b,z0c,z0f,z0h,z0j,z0n,z0o,z0q,z0r,z0s,z0t,z0v,z11,z12,z15,z1e,z1f,z1j,z1k,z1m,z1n,z1o,z1p,z1q,z1r,z1u,z20,z21,z23,z28,z29,z2a,z2b,z2f,z2g,z2h,z2i,z2n,z2t,z2u,z2v,z33,z34,z3h,z3p,z4f,z4l,z4m,z4o,z4q,z4s,z4t,z54,z55,z57,z59,z5b,z5e,z66,z67,z69,z6a,z6b,z6d,z6e,z6p,z6q,z6w,z78,z79,z7d,z7f,z7g,z7r,z7s,z7u,z7w,z8a,z8b,z8d,z8h,z90,z91,z9d,z9e,z9g,z9i,z9j,z9k,z9l,z9m,z9n,z9p,z9r,z9s,z9v,z9w,z9x,z9y,za0,za1,za2,za3,za5,za6,za7,za8,za9,zaa,zab,zae,zaf,zag,zal,zam,zaq,zas,zat,zav,zb4,zb5,zb9,zba,zbb,zbc,zbd,zbf,zbg,zbj,zbk,zbm,zbn,zbp,zbt,zbu,zbw,zbx,zby,zbz,zc0,zc3,zc4,zc5,zc6,zc8,zca,zcc,zcd,zce,zcf,zcg,zch,zcj,zcn,zco,zcp,zcq,zcr,zct,zcu,zcv,zcw,zcx,zcy,zd3,zd5,zd6,zd7,zd8,zdd,zdj,zdk,zdl,zdm,zdn,zdo,zds,zdt,zdu,zdv,zdw,zdx,zdy,zdz,ze0,ze1,ze2,ze3,ze9,zea,zeb,zec,zeo,zep,zeq,zer,zes,zey,zf1,zf3,zf4,zf5,zf6,zf7,zf8,zf9,zfa,zfb,zfc,zfd,zfg,zfh,zfi,zfj,zfk,zfm,zfo,zfp,zfq,zfr,zfs,zft,zfu,zfv,zfy,zfz,zg0,zg1,zhe,zhf,zj4,zj8, e29, b2, b3, e23, hkl, a1, a3, a5, a6, a7, c2, c3, c4, d1, d2, d3, d4, d5, d6, hx, hme, hky, hsf, cF_gr, cF_nm, cF_sl]
        tactic =>
          unfold x8l0
          rw [loop_rule 4 (fun k => [.pt 0 0, rK kn, I (i : Nat), .bool f, .pt 1 0, I (k : Nat)]) (fun k => h8 ms m.n (L k))]
          · sym =>
              simp [etaM, etaF, z00,z01,z02,z03,z04,z05,z06,z07,z08,z09,z0b,z0c,z0f,z0h,z0j,z0n,z0o,z0q,z0r,z0s,z0t,z0v,z11,z12,z15,z1e,z1f,z1j,z1k,z1m,z1n,z1o,z1p,z1q,z1r,z1u,z20,z21,z23,z28,z29,z2a,z2b,z2f,z2g,z2h,z2i,z2n,z2t,z2u,z2v,z33,z34,z3h,z3p,z4f,z4l,z4m,z4o,z4q,z4s,z4t,z54,z55,z57,z59,z5b,z5e,z66,z67,z69,z6a,z6b,z6d,z6e,z6p,z6q,z6w,z78,z79,z7d,z7f,z7g,z7r,z7s,z7u,z7w,z8a,z8b,z8d,z8h,z90,z91,z9d,z9e,z9g,z9i,z9j,z9k,z9l,z9m,z9n,z9p,z9r,z9s,z9v,z9w,z9x,z9y,za0,za1,za2,za3,za5,za6,za7,za8,za9,zaa,zab,zae,zaf,zag,zal,zam,zaq,zas,zat,zav,zb4,zb5,zb9,zba,zbb,zbc,zbd,zbf,zbg,zbj,zbk,zbm,zbn,zbp,zbt,zbu,zbw,zbx,zby,zbz,zc0,zc3,zc4,zc5,zc6,zc8,zca,zcc,zcd,zce,zcf,zcg,zch,zcj,zcn,zco,zcp,zcq,zcr,zct,zcu,zcv,zcw,zcx,zcy,zd3,zd5,zd6,zd7,zd8,zdd,zdj,zdk,zdl,zdm,zdn,zdo,zds,zdt,zdu,zdv,zdw,zdx,zdy,zdz,ze0,ze1,ze2,ze3,ze9,zea,zeb,zec,zeo,zep,zeq,zer,zes,zey,zf1,zf3,zf4,zf5,zf6,zf7,zf8,zf9,zfa,zfb,zfc,zfd,zfg,zfh,zfi,zfj,zfk,zfm,zfo,zfp,zfq,zfr,zfs,zft,zfu,zfv,zfy,zfz,zg0,zg1,zhe,zhf,zj4,zj8, q4, hlL, b4, b5, e23', hkl, hkl', cF_gr, cF_nm, cF_sl]
              tactic =>
                unfold x8l1
                rw [loop_rule l.length (fun j => [rK kn, I (i : Nat), .bool f, .pt 0 0, rK kn', I l.length, I (j : Nat)]) (fun _ => hP m.n l')]
                · (sym => (simp [etaM, etaF, z00,z01,z02,z03,z04,z05,z06,z07,z08,z09,z0b,z0c,z0f,z0h,z0j,z0n,z0o,z0q,z0r,z0s,z0t,z0v,z11,z12,z15,z1e,z1f,z1j,z1k,z1m,z1n,z1o,z1p,z1q,z1r,z1u,z20,z21,z23,z28,z29,z2a,z2b,z2f,z2g,z2h,z2i,z2n,z2t,z2u,z2v,z33,z34,z3h,z3p,z4f,z4l,z4m,z4o,z4q,z4s,z4t,z54,z55,z57,z59,z5b,z5e,z66,z67,z69,z6a,z6b,z6d,z6e,z6p,z6q,z6w,z78,z79,z7d,z7f,z7g,z7r,z7s,z7u,z7w,z8a,z8b,z8d,z8h,z90,z91,z9d,z9e,z9g,z9i,z9j,z9k,z9l,z9m,z9n,z9p,z9r,z9s,z9v,z9w,z9x,z9y,za0,za1,za2,za3,za5,za6,za7,za8,za9,zaa,zab,zae,zaf,zag,zal,zam,zaq,zas,zat,zav,zb4,zb5,zb9,zba,zbb,zbc,zbd,zbf,zbg,zbj,zbk,zbm,zbn,zbp,zbt,zbu,zbw,zbx,zby,zbz,zc0,zc3,zc4,zc5,zc6,zc8,zca,zcc,zcd,zce,zcf,zcg,zch,zcj,zcn,zco,zcp,zcq,zcr,zct,zcu,zcv,zcw,zcx,zcy,zd3,zd5,zd6,zd7,zd8,zdd,zdj,zdk,zdl,zdm,zdn,zdo,zds,zdt,zdu,zdv,zdw,zdx,zdy,zdz,ze0,ze1,ze2,ze3,ze9,zea,zeb,zec,zeo,zep,zeq,zer,zes,zey,zf1,zf3,zf4,zf5,zf6,zf7,zf8,zf9,zfa,zfb,zfc,zfd,zfg,zfh,zfi,zfj,zfk,zfm,zfo,zfp,zfq,zfr,zfs,zft,zfu,zfv,zfy,zfz,zg0,zg1,zhe,zhf,zj4,zj8, z1, works_w]; all_goals tactic => exact rfl))
                · (sym => (simp [etaM, etaF, z00,z01,z02,z03,z04,z05,z06,z07,z08,z09,z0b,z0c,z0f,z0h,z0j,z0n,z0o,z0q,z0r,z0s,z0t,z0v,z11,z12,z15,z1e,z1f,z1j,z1k,z1m,z1n,z1o,z1p,z1q,z1r,z1u,z20,z21,z23,z28,z29,z2a,z2b,z2f,z2g,z2h,z2i,z2n,z2t,z2u,z2v,z33,z34,z3h,z3p,z4f,z4l,z4m,z4o,z4q,z4s,z4t,z54,z55,z57,z59,z5b,z5e,z66,z67,z69,z6a,z6b,z6d,z6e,z6p,z6q,z6w,z78,z79,z7d,z7f,z7g,z7r,z7s,z7u,z7w,z8a,z8b,z8d,z8h,z90,z91,z9d,z9e,z9g,z9i,z9j,z9k,z9l,z9m,z9n,z9p,z9r,z9s,z9v,z9w,z9x,z9y,za0,za1,za2,za3,za5,za6,za7,za8,za9,zaa,zab,zae,zaf,zag,zal,zam,zaq,zas,zat,zav,zb4,zb5,zb9,zba,zbb,zbc,zbd,zbf,zbg,zbj,zbk,zbm,zbn,zbp,zbt,zbu,zbw,zbx,zby,zbz,zc0,zc3,zc4,zc5,zc6,zc8,zca,zcc,zcd,zce,zcf,zcg,zch,zcj,zcn,zco,zcp,zcq,zcr,zct,zcu,zcv,zcw,zcx,zcy,zd3,zd5,zd6,zd7,zd8,zdd,zdj,zdk,zdl,zdm,zdn,zdo,zds,zdt,zdu,zdv,zdw,zdx,zdy,zdz,ze0,ze1,ze2,ze3,ze9,zea,zeb,zec,zeo,zep,zeq,zer,zes,zey,zf1,zf3,zf4,zf5,zf6,zf7,zf8,zf9,zfa,zfb,zfc,zfd,zfg,zfh,zfi,zfj,zfk,zfm,zfo,zfp,zfq,zfr,zfs,zft,zfu,zfv,zfy,zfz,zg0,zg1,zhe,zhf,zj4,zj8]; all_goals tactic => exact rfl))
                · exact hr8
                · (sym => (simp [etaM, etaF, z00,z01,z02,z03,z04,z05,z06,z07,z08,z09,z0b,z0c,z0f,z0h,z0j,z0n,z0o,z0q,z0r,z0s,z0t,z0v,z11,z12,z15,z1e,z1f,z1j,z1k,z1m,z1n,z1o,z1p,z1q,z1r,z1u,z20,z21,z23,z28,z29,z2a,z2b,z2f,z2g,z2h,z2i,z2n,z2t,z2u,z2v,z33,z34,z3h,z3p,z4f,z4l,z4m,z4o,z4q,z4s,z4t,z54,z55,z57,z59,z5b,z5e,z66,z67,z69,z6a,z6b,z6d,z6e,z6p,z6q,z6w,z78,z79,z7d,z7f,z7g,z7r,z7s,z7u,z7w,z8a,z8b,z8d,z8h,z90,z91,z9d,z9e,z9g,z9i,z9j,z9k,z9l,z9m,z9n,z9p,z9r,z9s,z9v,z9w,z9x,z9y,za0,za1,za2,za3,za5,za6,za7,za8,za9,zaa,zab,zae,zaf,zag,zal,zam,zaq,zas,zat,zav,zb4,zb5,zb9,zba,zbb,zbc,zbd,zbf,zbg,zbj,zbk,zbm,zbn,zbp,zbt,zbu,zbw,zbx,zby,zbz,zc0,zc3,zc4,zc5,zc6,zc8,zca,zcc,zcd,zce,zcf,zcg,zch,zcj,zcn,zco,zcp,zcq,zcr,zct,zcu,zcv,zcw,zcx,zcy,zd3,zd5,zd6,zd7,zd8,zdd,zdj,zdk,zdl,zdm,zdn,zdo,zds,zdt,zdu,zdv,zdw,zdx,zdy,zdz,ze0,ze1,ze2,ze3,ze9,zea,zeb,zec,zeo,zep,zeq,zer,zes,zey,zf1,zf3,zf4,zf5,zf6,zf7,zf8,zf9,zfa,zfb,zfc,zfd,zfg,zfh,zfi,zfj,zfk,zfm,zfo,zfp,zfq,zfr,zfs,zft,zfu,zfv,zfy,zfz,zg0,zg1,zhe,zhf,zj4,zj8, z1]; all_goals tactic => exact rfl))
          · (sym => (simp [etaM, etaF, z00,z01,z02,z03,z04,z05,z06,z07,z08,z09,z0b,z0c,z0f,z0h,z0j,z0n,z0o,z0q,z0r,z0s,z0t,z0v,z11,z12,z15,z1e,z1f,z1j,z1k,z1m,z1n,z1o,z1p,z1q,z1r,z1u,z20,z21,z23,z28,z29,z2a,z2b,z2f,z2g,z2h,z2i,z2n,z2t,z2u,z2v,z33,z34,z3h,z3p,z4f,z4l,z4m,z4o,z4q,z4s,z4t,z54,z55,z57,z59,z5b,z5e,z66,z67,z69,z6a,z6b,z6d,z6e,z6p,z6q,z6w,z78,z79,z7d,z7f,z7g,z7r,z7s,z7u,z7w,z8a,z8b,z8d,z8h,z90,z91,z9d,z9e,z9g,z9i,z9j,z9k,z9l,z9m,z9n,z9p,z9r,z9s,z9v,z9w,z9x,z9y,za0,za1,za2,za3,za5,za6,za7,za8,za9,zaa,zab,zae,zaf,zag,zal,zam,zaq,zas,zat,zav,zb4,zb5,zb9,zba,zbb,zbc,zbd,zbf,zbg,zbj,zbk,zbm,zbn,zbp,zbt,zbu,zbw,zbx,zby,zbz,zc0,zc3,zc4,zc5,zc6,zc8,zca,zcc,zcd,zce,zcf,zcg,zch,zcj,zcn,zco,zcp,zcq,zcr,zct,zcu,zcv,zcw,zcx,zcy,zd3,zd5,zd6,zd7,zd8,zdd,zdj,zdk,zdl,zdm,zdn,zdo,zds,zdt,zdu,zdv,zdw,zdx,zdy,zdz,ze0,ze1,ze2,ze3,ze9,zea,zeb,zec,zeo,zep,zeq,zer,zes,zey,zf1,zf3,zf4,zf5,zf6,zf7,zf8,zf9,zfa,zfb,zfc,zfd,zfg,zfh,zfi,zfj,zfk,zfm,zfo,zfp,zfq,zfr,zfs,zft,zfu,zfv,zfy,zfz,zg0,zg1,zhe,zhf,zj4,zj8, q0, hl1, cF_gr, cF_nm, cF_sl]; all_goals tactic => exact rfl))
          · exact rd8
          · (sym => (simp [etaM, etaF, z00,z01,z02,z03,z04,z05,z06,z07,z08,z09,z0b,z0c,z0f,z0h,z0j,z0n,z0o,z0q,z0r,z0s,z0t,z0v,z11,z12,z15,z1e,z1f,z1j,z1k,z1m,z1n,z1o,z1p,z1q,z1r,z1u,z20,z21,z23,z28,z29,z2a,z2b,z2f,z2g,z2h,z2i,z2n,z2t,z2u,z2v,z33,z34,z3h,z3p,z4f,z4l,z4m,z4o,z4q,z4s,z4t,z54,z55,z57,z59,z5b,z5e,z66,z67,z69,z6a,z6b,z6d,z6e,z6p,z6q,z6w,z78,z79,z7d,z7f,z7g,z7r,z7s,z7u,z7w,z8a,z8b,z8d,z8h,z90,z91,z9d,z9e,z9g,z9i,z9j,z9k,z9l,z9m,z9n,z9p,z9r,z9s,z9v,z9w,z9x,z9y,za0,za1,za2,za3,za5,za6,za7,za8,za9,zaa,zab,zae,zaf,zag,zal,zam,zaq,zas,zat,zav,zb4,zb5,zb9,zba,zbb,zbc,zbd,zbf,zbg,zbj,zbk,zbm,zbn,zbp,zbt,zbu,zbw,zbx,zby,zbz,zc0,zc3,zc4,zc5,zc6,zc8,zca,zcc,zcd,zce,zcf,zcg,zch,zcj,zcn,zco,zcp,zcq,zcr,zct,zcu,zcv,zcw,zcx,zcy,zd3,zd5,zd6,zd7,zd8,zdd,zdj,zdk,zdl,zdm,zdn,zdo,zds,zdt,zdu,zdv,zdw,zdx,zdy,zdz,ze0,ze1,ze2,ze3,ze9,zea,zeb,zec,zeo,zep,zeq,zer,zes,zey,zf1,zf3,zf4,zf5,zf6,zf7,zf8,zf9,zfa,zfb,zfc,zfd,zfg,zfh,zfi,zfj,zfk,zfm,zfo,zfp,zfq,zfr,zfs,zft,zfu,zfv,zfy,zfz,zg0,zg1,zhe,zhf,zj4,zj8]; all_goals tactic => exact rfl))
    by_cases hg : gI i l l.length x.fr = gI i l l.length x.to
    · exact fin false (fun _ => by rw [kn_open hme hg]) (fun hc => by simp at hc)
    · have hkf := bal_found hck hb hx hme hg
      rcases neg_first (knAt l i x).m with hp | ⟨n0, hn0, hneg, hpos⟩
      · exact fin true (fun hc => by simp at hc) (fun _ => ⟨by rw [hkf], hg, by rw [hkf], hp⟩)
      · obtain ⟨w, hw, hwb⟩ := hmw n0 hn0
        have k0 : (knAt l i x).s = 2 := by rw [hkf]
        generalize hy : knAt l i x = y at *
        have rd8 := fun (k : Nat) (hk : k < n0) => round8 (n := m.n) hx n1 hky true (k := k) (by omega) (hmw k (by omega)).choose_spec.1 (hmw k (by omega)).choose_spec.2 fun _ => hpos k hk
        obtain ⟨L, hLk⟩ : ∃ L : Nat → List Fl, ∀ k, L k = l.set i (meF x (mmT true ms y.m x.m k)) := ⟨_, fun _ => rfl⟩
        have q0 : L 0 = l.set i (meF x x.m) := hLk 0
        have rd8 : ∀ k, k < n0 → headX 0 [5, 9, 11, 12, 13, 68] (execW progX 8 0 none (match x8l0 with | .loop _ a => a | c => c) (envL [5, 9, 11, 12, 13, 68] [.pt 0 0, rK kn, I (i : Nat), .bool true, .pt 1 0, I (k : Nat)]) (h8 ms m.n (L k))) = some ([.pt 0 0, rK kn, I (i : Nat), .bool true, .pt 1 0, I (k + 1 : Nat)], h8 ms m.n (L (k + 1))) := by
          intro k hk
          rw [hLk, hLk]
          exact rd8 k hk
        obtain ⟨eo, ho, q1, q2⟩ := round8n (n := m.n) hck hx n1 hky hn0 hw hwb hneg
        rw [← hLk n0] at q1
        clear hLk
        rw [r8 (by simp)]; unfold x8; dsimp only
        sym =>
          simp [etaM, etaF, z00,z01,z02,z03,z04,z05,z06,z07,z08,z09,z0b,z0c,z0f,z0h,z0j,z0n,z0o,z0q,z0r,z0s,z0t,z0v,z11,z12,z15,z1e,z1f,z1j,z1k,z1m,z1n,z1o,z1p,z1q,z1r,z1u,z20,z21,z23,z28,z29,z2a,z2b,z2f,z2g,z2h,z2i,z2n,z2t,z2u,z2v,z33,z34,z3h,z3p,z4f,z4l,z4m,z4o,z4q,z4s,z4t,z54,z55,z57,z59,z5b,z5e,z66,z67,z69,z6a,z6b,z6d,z6e,z6p,z6q,z6w,z78,z79,z7d,z7f,z7g,z7r,z7s,z7u,z7w,z8a,z8b,z8d,z8h,z90,z91,z9d,z9e,z9g,z9i,z9j,z9k,z9l,z9m,z9n,z9p,z9r,z9s,z9v,z9w,z9x,z9y,za0,za1,za2,za3,za5,za6,za7,za8,za9,zaa,zab,zae,zaf,zag,zal,zam,zaq,zas,zat,zav,zb4,zb5,zb9,zba,zbb,zbc,zbd,zbf,zbg,zbj,zbk,zbm,zbn,zbp,zbt,zbu,zbw,zbx,zby,zbz,zc0,zc3,zc4,zc5,zc6,zc8,zca,zcc,zcd,zce,zcf,zcg,zch,zcj,zcn,zco,zcp,zcq,zcr,zct,zcu,zcv,zcw,zcx,zcy,zd3,zd5,zd6,zd7,zd8,zdd,zdj,zdk,zdl,zdm,zdn,zdo,zds,zdt,zdu,zdv,zdw,zdx,zdy,zdz,ze0,ze1,ze2,ze3,ze9,zea,zeb,zec,zeo,zep,zeq,zer,zes,zey,zf1,zf3,zf4,zf5,zf6,zf7,zf8,zf9,zfa,zfb,zfc,zfd,zfg,zfh,zfi,zfj,zfk,zfm,zfo,zfp,zfq,zfr,zfs,zft,zfu,zfv,zfy,zfz,zg0,zg1,zhe,zhf,zj4,zj8, e29, b2, b3, e23, hkl, a1, a3, a5, a6, a7, c2, c3, c4, d1, d2, d3, d4, d5, d6, hx, hme, hky, k0, cF_gr, cF_nm, cF_sl]
          tactic =>
            unfold x8l0
            rw [loop_rule n0 (fun k => [.pt 0 0, rK kn, I (i : Nat), .bool true, .pt 1 0, I (k : Nat)]) (fun k => h8 ms m.n (L k))]
            · show retX [(6, none)] false 0 (thenX (blockX 0 (execW progX 8 0 none (match x8l0 with | .loop _ a => a | c => c) (envL [5, 9, 11, 12, 13, 68] [.pt 0 0, rK kn, I (i : Nat), .bool true, .pt 1 0, I (n0 : Nat)]) (h8 ms m.n (L n0)))) _) = _
              rw [q1]
              exact q2
            · (sym => (simp [etaM, etaF, z00,z01,z02,z03,z04,z05,z06,z07,z08,z09,z0b,z0c,z0f,z0h,z0j,z0n,z0o,z0q,z0r,z0s,z0t,z0v,z11,z12,z15,z1e,z1f,z1j,z1k,z1m,z1n,z1o,z1p,z1q,z1r,z1u,z20,z21,z23,z28,z29,z2a,z2b,z2f,z2g,z2h,z2i,z2n,z2t,z2u,z2v,z33,z34,z3h,z3p,z4f,z4l,z4m,z4o,z4q,z4s,z4t,z54,z55,z57,z59,z5b,z5e,z66,z67,z69,z6a,z6b,z6d,z6e,z6p,z6q,z6w,z78,z79,z7d,z7f,z7g,z7r,z7s,z7u,z7w,z8a,z8b,z8d,z8h,z90,z91,z9d,z9e,z9g,z9i,z9j,z9k,z9l,z9m,z9n,z9p,z9r,z9s,z9v,z9w,z9x,z9y,za0,za1,za2,za3,za5,za6,za7,za8,za9,zaa,zab,zae,zaf,zag,zal,zam,zaq,zas,zat,zav,zb4,zb5,zb9,zba,zbb,zbc,zbd,zbf,zbg,zbj,zbk,zbm,zbn,zbp,zbt,zbu,zbw,zbx,zby,zbz,zc0,zc3,zc4,zc5,zc6,zc8,zca,zcc,zcd,zce,zcf,zcg,zch,zcj,zcn,zco,zcp,zcq,zcr,zct,zcu,zcv,zcw,zcx,zcy,zd3,zd5,zd6,zd7,zd8,zdd,zdj,zdk,zdl,zdm,zdn,zdo,zds,zdt,zdu,zdv,zdw,zdx,zdy,zdz,ze0,ze1,ze2,ze3,ze9,zea,zeb,zec,zeo,zep,zeq,zer,zes,zey,zf1,zf3,zf4,zf5,zf6,zf7,zf8,zf9,zfa,zfb,zfc,zfd,zfg,zfh,zfi,zfj,zfk,zfm,zfo,zfp,zfq,zfr,zfs,zft,zfu,zfv,zfy,zfz,zg0,zg1,zhe,zhf,zj4,zj8, q0, hl1, cF_gr, cF_nm, cF_sl]; all_goals tactic => exact rfl))
            · exact rd8
            · show leaves (execW progX 8 0 none (match x8l0 with | .loop _ a => a | c => c) (envL [5, 9, 11, 12, 13, 68] [.pt 0 0, rK kn, I (i : Nat), .bool true, .pt 1 0, I (n0 : Nat)]) (h8 ms m.n (L n0))) = true
              rw [q1]; rfl
  · rw [hme] at c2
    have k0 : (knAt l i x).s = 1 := by rw [kn_me hme]
    generalize knAt l i x = y at *
    rw [r8 (by simp)]; unfold x8; dsimp only
    (sym => (simp [etaM, etaF, z00,z01,z02,z03,z04,z05,z06,z07,z08,z09,z0b,z0c,z0f,z0h,z0j,z0n,z0o,z0q,z0r,z0s,z0t,z0v,z11,z12,z15,z1e,z1f,z1j,z1k,z1m,z1n,z1o,z1p,z1q,z1r,z1u,z20,z21,z23,z28,z29,z2a,z2b,z2f,z2g,z2h,z2i,z2n,z2t,z2u,z2v,z33,z34,z3h,z3p,z4f,z4l,z4m,z4o,z4q,z4s,z4t,z54,z55,z57,z59,z5b,z5e,z66,z67,z69,z6a,z6b,z6d,z6e,z6p,z6q,z6w,z78,z79,z7d,z7f,z7g,z7r,z7s,z7u,z7w,z8a,z8b,z8d,z8h,z90,z91,z9d,z9e,z9g,z9i,z9j,z9k,z9l,z9m,z9n,z9p,z9r,z9s,z9v,z9w,z9x,z9y,za0,za1,za2,za3,za5,za6,za7,za8,za9,zaa,zab,zae,zaf,zag,zal,zam,zaq,zas,zat,zav,zb4,zb5,zb9,zba,zbb,zbc,zbd,zbf,zbg,zbj,zbk,zbm,zbn,zbp,zbt,zbu,zbw,zbx,zby,zbz,zc0,zc3,zc4,zc5,zc6,zc8,zca,zcc,zcd,zce,zcf,zcg,zch,zcj,zcn,zco,zcp,zcq,zcr,zct,zcu,zcv,zcw,zcx,zcy,zd3,zd5,zd6,zd7,zd8,zdd,zdj,zdk,zdl,zdm,zdn,zdo,zds,zdt,zdu,zdv,zdw,zdx,zdy,zdz,ze0,ze1,ze2,ze3,ze9,zea,zeb,zec,zeo,zep,zeq,zer,zes,zey,zf1,zf3,zf4,zf5,zf6,zf7,zf8,zf9,zfa,zfb,zfc,zfd,zfg,zfh,zfi,zfj,zfk,zfm,zfo,zfp,zfq,zfr,zfs,zft,zfu,zfv,zfy,zfz,zg0,zg1,zhe,zhf,zj4,zj8, e29, b2, b3, e23, hkl, a1, a3, a5, a6, a7, c2, hx, hme, hky, k0, works_w, cF_gr, cF_nm, cF_sl]; all_goals tactic => exact rfl))
end Go.Proofs.Ytdbikamciedfdaa
