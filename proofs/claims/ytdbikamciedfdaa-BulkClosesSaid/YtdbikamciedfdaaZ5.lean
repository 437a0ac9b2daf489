/- Parts of a proof, joined: GT E0 E1 K1 K2 K3 K4 K5 K6 K7 K8 K9 K10 K11 K12 K13 K14 K15 K16 K17 K18 K19 K20 K21. No statement of the seed is proved here. -/
import Derived.KernelRfl
import Derived.Test.YtdbikamciedfdaaZ4
set_option linter.unusedSimpArgs false
set_option linter.unusedVariables false
set_option linter.unusedSectionVars false
namespace Go.Proofs.Ytdbikamciedfdaa
open Go Go.DL Go.Proofs.Try

def progX : Nat → Option XFn
  | 3 => some x3
  | 4 => some x4
  | 5 => some x5
  | 6 => some x6
  | 7 => some x7
  | 8 => some x8
  | 9 => some x9
  | 10 => some x10
  | 11 => some x11
  | 12 => some x12
  | 13 => some x13
  | 14 => some x14
  | 15 => some x15
  | 16 => some x16
  | 17 => some x17
  | 18 => some x18
  | 19 => some x19
  | 20 => some x20
  | 21 => some x21
  | 22 => some x22
  | 23 => some x23
  | 24 => some x24
  | 25 => some x25
  | 26 => some x26
  | 27 => some x27
  | 28 => some x28
  | 29 => some x29
  | 30 => some x30
  | 31 => some x31
  | 32 => some x32
  | 33 => some x33
  | 34 => some x34
  | 35 => some x35
  | 36 => some x36
  | 37 => some x37
  | 38 => some x38
  | 39 => some x39
  | 40 => some x40
  | 41 => some x41
  | 42 => some x42
  | 43 => some x43
  | 44 => some x44
  | 45 => some x45
  | 46 => some x46
  | 47 => some x47
  | 48 => some x48
  | 49 => some x49
  | 50 => some x50
  | 51 => some x51
  | 52 => some x52
  | 53 => some x53
  | 54 => some x54
  | 55 => some x55
  | 56 => some x56
  | 57 => some x57
  | 58 => some x58
  | 59 => some x59
  | 60 => some x60
  | 61 => some x61
  | 62 => some x62
  | 63 => some x63
  | 64 => some x64
  | 65 => some x65
  | 66 => some x66
  | 67 => some x67
  | 68 => some x68
  | 69 => some x69
  | 70 => some x70
  | 71 => some x71
  | 72 => some x72
  | 73 => some x73
  | 74 => some x74
  | 75 => some x75
  | 76 => some x76
  | 77 => some x77
  | 78 => some x78
  | 79 => some x79
  | 80 => some x80
  | _ => none
theorem progX_ok : XOk prog progX := by
  refine ⟨rfl, fun k d h => ?_, fun k d h => ?_, fun k d h => ?_⟩
  · unfold progX at h
    split at h <;> first | (cases h; done) | (simp only [Option.some.injEq] at h; subst h; first | exact is3 | exact is4 | exact is5 | exact is6 | exact is7 | exact is8 | exact is9 | exact is10 | exact is11 | exact is12 | exact is13 | exact is14 | exact is15 | exact is16 | exact is17 | exact is18 | exact is19 | exact is20 | exact is21 | exact is22 | exact is23 | exact is24 | exact is25 | exact is26 | exact is27 | exact is28 | exact is29 | exact is30 | exact is31 | exact is32 | exact is33 | exact is34 | exact is35 | exact is36 | exact is37 | exact is38 | exact is39 | exact is40 | exact is41 | exact is42 | exact is43 | exact is44 | exact is45 | exact is46 | exact is47 | exact is48 | exact is49 | exact is50 | exact is51 | exact is52 | exact is53 | exact is54 | exact is55 | exact is56 | exact is57 | exact is58 | exact is59 | exact is60 | exact is61 | exact is62 | exact is63 | exact is64 | exact is65 | exact is66 | exact is67 | exact is68 | exact is69 | exact is70 | exact is71 | exact is72 | exact is73 | exact is74 | exact is75 | exact is76 | exact is77 | exact is78 | exact is79 | exact is80)
  · unfold progX at h
    split at h <;> first | (cases h; done) | (simp only [Option.some.injEq] at h; subst h; first | exact ok3 | exact ok4 | exact ok5 | exact ok6 | exact ok7 | exact ok8 | exact ok9 | exact ok10 | exact ok11 | exact ok12 | exact ok13 | exact ok14 | exact ok15 | exact ok16 | exact ok17 | exact ok18 | exact ok19 | exact ok20 | exact ok21 | exact ok22 | exact ok23 | exact ok24 | exact ok25 | exact ok26 | exact ok27 | exact ok28 | exact ok29 | exact ok30 | exact ok31 | exact ok32 | exact ok33 | exact ok34 | exact ok35 | exact ok36 | exact ok37 | exact ok38 | exact ok39 | exact ok40 | exact ok41 | exact ok42 | exact ok43 | exact ok44 | exact ok45 | exact ok46 | exact ok47 | exact ok48 | exact ok49 | exact ok50 | exact ok51 | exact ok52 | exact ok53 | exact ok54 | exact ok55 | exact ok56 | exact ok57 | exact ok58 | exact ok59 | exact ok60 | exact ok61 | exact ok62 | exact ok63 | exact ok64 | exact ok65 | exact ok66 | exact ok67 | exact ok68 | exact ok69 | exact ok70 | exact ok71 | exact ok72 | exact ok73 | exact ok74 | exact ok75 | exact ok76 | exact ok77 | exact ok78 | exact ok79 | exact ok80)
  · unfold progX at h
    split at h <;> first | (cases h; done) | (simp only [Option.some.injEq] at h; subst h; first | exact st3 | exact st4 | exact st5 | exact st6 | exact st7 | exact st8 | exact st9 | exact st10 | exact st11 | exact st12 | exact st13 | exact st14 | exact st15 | exact st16 | exact st17 | exact st18 | exact st19 | exact st20 | exact st21 | exact st22 | exact st23 | exact st24 | exact st25 | exact st26 | exact st27 | exact st28 | exact st29 | exact st30 | exact st31 | exact st32 | exact st33 | exact st34 | exact st35 | exact st36 | exact st37 | exact st38 | exact st39 | exact st40 | exact st41 | exact st42 | exact st43 | exact st44 | exact st45 | exact st46 | exact st47 | exact st48 | exact st49 | exact st50 | exact st51 | exact st52 | exact st53 | exact st54 | exact st55 | exact st56 | exact st57 | exact st58 | exact st59 | exact st60 | exact st61 | exact st62 | exact st63 | exact st64 | exact st65 | exact st66 | exact st67 | exact st68 | exact st69 | exact st70 | exact st71 | exact st72 | exact st73 | exact st74 | exact st75 | exact st76 | exact st77 | exact st78 | exact st79 | exact st80)
theorem r3 {vs : List AV} {h : XH} (hl : vs.length ≤ 90) : runW progX 3 vs h = retX x3.res x3.ownR h.length (execW progX 3 h.length none x3.body (argEnv (if x3.ownA then vs else nzL vs)) h) := runW_eq rfl hl h
theorem r4 {vs : List AV} {h : XH} (hl : vs.length ≤ 65) : runW progX 4 vs h = retX x4.res x4.ownR h.length (execW progX 4 h.length none x4.body (argEnv (if x4.ownA then vs else nzL vs)) h) := runW_eq rfl hl h
theorem r5 {vs : List AV} {h : XH} (hl : vs.length ≤ 77) : runW progX 5 vs h = retX x5.res x5.ownR h.length (execW progX 5 h.length none x5.body (argEnv (if x5.ownA then vs else nzL vs)) h) := runW_eq rfl hl h
theorem r6 {vs : List AV} {h : XH} (hl : vs.length ≤ 215) : runW progX 6 vs h = retX x6.res x6.ownR h.length (execW progX 6 h.length none x6.body (argEnv (if x6.ownA then vs else nzL vs)) h) := runW_eq rfl hl h
theorem r7 {vs : List AV} {h : XH} (hl : vs.length ≤ 135) : runW progX 7 vs h = retX x7.res x7.ownR h.length (execW progX 7 h.length none x7.body (argEnv (if x7.ownA then vs else nzL vs)) h) := runW_eq rfl hl h
theorem r8 {vs : List AV} {h : XH} (hl : vs.length ≤ 179) : runW progX 8 vs h = retX x8.res x8.ownR h.length (execW progX 8 h.length none x8.body (argEnv (if x8.ownA then vs else nzL vs)) h) := runW_eq rfl hl h
theorem r9 {vs : List AV} {h : XH} (hl : vs.length ≤ 215) : runW progX 9 vs h = retX x9.res x9.ownR h.length (execW progX 9 h.length none x9.body (argEnv (if x9.ownA then vs else nzL vs)) h) := runW_eq rfl hl h
theorem r10 {vs : List AV} {h : XH} (hl : vs.length ≤ 58) : runW progX 10 vs h = retX x10.res x10.ownR h.length (execW progX 10 h.length none x10.body (argEnv (if x10.ownA then vs else nzL vs)) h) := runW_eq rfl hl h
theorem r11 {vs : List AV} {h : XH} (hl : vs.length ≤ 145) : runW progX 11 vs h = retX x11.res x11.ownR h.length (execW progX 11 h.length none x11.body (argEnv (if x11.ownA then vs else nzL vs)) h) := runW_eq rfl hl h
theorem r12 {vs : List AV} {h : XH} (hl : vs.length ≤ 210) : runW progX 12 vs h = retX x12.res x12.ownR h.length (execW progX 12 h.length none x12.body (argEnv (if x12.ownA then vs else nzL vs)) h) := runW_eq rfl hl h
theorem r13 {vs : List AV} {h : XH} (hl : vs.length ≤ 36) : runW progX 13 vs h = retX x13.res x13.ownR h.length (execW progX 13 h.length none x13.body (argEnv (if x13.ownA then vs else nzL vs)) h) := runW_eq rfl hl h
theorem r14 {vs : List AV} {h : XH} (hl : vs.length ≤ 60) : runW progX 14 vs h = retX x14.res x14.ownR h.length (execW progX 14 h.length none x14.body (argEnv (if x14.ownA then vs else nzL vs)) h) := runW_eq rfl hl h
theorem r15 {vs : List AV} {h : XH} (hl : vs.length ≤ 36) : runW progX 15 vs h = retX x15.res x15.ownR h.length (execW progX 15 h.length none x15.body (argEnv (if x15.ownA then vs else nzL vs)) h) := runW_eq rfl hl h
theorem r16 {vs : List AV} {h : XH} (hl : vs.length ≤ 21) : runW progX 16 vs h = retX x16.res x16.ownR h.length (execW progX 16 h.length none x16.body (argEnv (if x16.ownA then vs else nzL vs)) h) := runW_eq rfl hl h
theorem r17 {vs : List AV} {h : XH} (hl : vs.length ≤ 21) : runW progX 17 vs h = retX x17.res x17.ownR h.length (execW progX 17 h.length none x17.body (argEnv (if x17.ownA then vs else nzL vs)) h) := runW_eq rfl hl h
theorem r18 {vs : List AV} {h : XH} (hl : vs.length ≤ 40) : runW progX 18 vs h = retX x18.res x18.ownR h.length (execW progX 18 h.length none x18.body (argEnv (if x18.ownA then vs else nzL vs)) h) := runW_eq rfl hl h
theorem r19 {vs : List AV} {h : XH} (hl : vs.length ≤ 50) : runW progX 19 vs h = retX x19.res x19.ownR h.length (execW progX 19 h.length none x19.body (argEnv (if x19.ownA then vs else nzL vs)) h) := runW_eq rfl hl h
theorem r20 {vs : List AV} {h : XH} (hl : vs.length ≤ 18) : runW progX 20 vs h = retX x20.res x20.ownR h.length (execW progX 20 h.length none x20.body (argEnv (if x20.ownA then vs else nzL vs)) h) := runW_eq rfl hl h
theorem r21 {vs : List AV} {h : XH} (hl : vs.length ≤ 54) : runW progX 21 vs h = retX x21.res x21.ownR h.length (execW progX 21 h.length none x21.body (argEnv (if x21.ownA then vs else nzL vs)) h) := runW_eq rfl hl h
theorem r22 {vs : List AV} {h : XH} (hl : vs.length ≤ 26) : runW progX 22 vs h = retX x22.res x22.ownR h.length (execW progX 22 h.length none x22.body (argEnv (if x22.ownA then vs else nzL vs)) h) := runW_eq rfl hl h
theorem r23 {vs : List AV} {h : XH} (hl : vs.length ≤ 56) : runW progX 23 vs h = retX x23.res x23.ownR h.length (execW progX 23 h.length none x23.body (argEnv (if x23.ownA then vs else nzL vs)) h) := runW_eq rfl hl h
theorem r24 {vs : List AV} {h : XH} (hl : vs.length ≤ 93) : runW progX 24 vs h = retX x24.res x24.ownR h.length (execW progX 24 h.length none x24.body (argEnv (if x24.ownA then vs else nzL vs)) h) := runW_eq rfl hl h
theorem r25 {vs : List AV} {h : XH} (hl : vs.length ≤ 22) : runW progX 25 vs h = retX x25.res x25.ownR h.length (execW progX 25 h.length none x25.body (argEnv (if x25.ownA then vs else nzL vs)) h) := runW_eq rfl hl h
theorem r26 {vs : List AV} {h : XH} (hl : vs.length ≤ 23) : runW progX 26 vs h = retX x26.res x26.ownR h.length (execW progX 26 h.length none x26.body (argEnv (if x26.ownA then vs else nzL vs)) h) := runW_eq rfl hl h
theorem r27 {vs : List AV} {h : XH} (hl : vs.length ≤ 65) : runW progX 27 vs h = retX x27.res x27.ownR h.length (execW progX 27 h.length none x27.body (argEnv (if x27.ownA then vs else nzL vs)) h) := runW_eq rfl hl h
theorem r28 {vs : List AV} {h : XH} (hl : vs.length ≤ 36) : runW progX 28 vs h = retX x28.res x28.ownR h.length (execW progX 28 h.length none x28.body (argEnv (if x28.ownA then vs else nzL vs)) h) := runW_eq rfl hl h
theorem r29 {vs : List AV} {h : XH} (hl : vs.length ≤ 180) : runW progX 29 vs h = retX x29.res x29.ownR h.length (execW progX 29 h.length none x29.body (argEnv (if x29.ownA then vs else nzL vs)) h) := runW_eq rfl hl h
theorem r30 {vs : List AV} {h : XH} (hl : vs.length ≤ 75) : runW progX 30 vs h = retX x30.res x30.ownR h.length (execW progX 30 h.length none x30.body (argEnv (if x30.ownA then vs else nzL vs)) h) := runW_eq rfl hl h
theorem r31 {vs : List AV} {h : XH} (hl : vs.length ≤ 15) : runW progX 31 vs h = retX x31.res x31.ownR h.length (execW progX 31 h.length none x31.body (argEnv (if x31.ownA then vs else nzL vs)) h) := runW_eq rfl hl h
theorem r32 {vs : List AV} {h : XH} (hl : vs.length ≤ 14) : runW progX 32 vs h = retX x32.res x32.ownR h.length (execW progX 32 h.length none x32.body (argEnv (if x32.ownA then vs else nzL vs)) h) := runW_eq rfl hl h
theorem r33 {vs : List AV} {h : XH} (hl : vs.length ≤ 138) : runW progX 33 vs h = retX x33.res x33.ownR h.length (execW progX 33 h.length none x33.body (argEnv (if x33.ownA then vs else nzL vs)) h) := runW_eq rfl hl h
theorem r34 {vs : List AV} {h : XH} (hl : vs.length ≤ 79) : runW progX 34 vs h = retX x34.res x34.ownR h.length (execW progX 34 h.length none x34.body (argEnv (if x34.ownA then vs else nzL vs)) h) := runW_eq rfl hl h
theorem r35 {vs : List AV} {h : XH} (hl : vs.length ≤ 48) : runW progX 35 vs h = retX x35.res x35.ownR h.length (execW progX 35 h.length none x35.body (argEnv (if x35.ownA then vs else nzL vs)) h) := runW_eq rfl hl h
theorem r36 {vs : List AV} {h : XH} (hl : vs.length ≤ 4) : runW progX 36 vs h = retX x36.res x36.ownR h.length (execW progX 36 h.length none x36.body (argEnv (if x36.ownA then vs else nzL vs)) h) := runW_eq rfl hl h
theorem r37 {vs : List AV} {h : XH} (hl : vs.length ≤ 80) : runW progX 37 vs h = retX x37.res x37.ownR h.length (execW progX 37 h.length none x37.body (argEnv (if x37.ownA then vs else nzL vs)) h) := runW_eq rfl hl h
theorem r38 {vs : List AV} {h : XH} (hl : vs.length ≤ 38) : runW progX 38 vs h = retX x38.res x38.ownR h.length (execW progX 38 h.length none x38.body (argEnv (if x38.ownA then vs else nzL vs)) h) := runW_eq rfl hl h
theorem r39 {vs : List AV} {h : XH} (hl : vs.length ≤ 54) : runW progX 39 vs h = retX x39.res x39.ownR h.length (execW progX 39 h.length none x39.body (argEnv (if x39.ownA then vs else nzL vs)) h) := runW_eq rfl hl h
theorem r40 {vs : List AV} {h : XH} (hl : vs.length ≤ 58) : runW progX 40 vs h = retX x40.res x40.ownR h.length (execW progX 40 h.length none x40.body (argEnv (if x40.ownA then vs else nzL vs)) h) := runW_eq rfl hl h
theorem r41 {vs : List AV} {h : XH} (hl : vs.length ≤ 67) : runW progX 41 vs h = retX x41.res x41.ownR h.length (execW progX 41 h.length none x41.body (argEnv (if x41.ownA then vs else nzL vs)) h) := runW_eq rfl hl h
theorem r42 {vs : List AV} {h : XH} (hl : vs.length ≤ 15) : runW progX 42 vs h = retX x42.res x42.ownR h.length (execW progX 42 h.length none x42.body (argEnv (if x42.ownA then vs else nzL vs)) h) := runW_eq rfl hl h
theorem r43 {vs : List AV} {h : XH} (hl : vs.length ≤ 21) : runW progX 43 vs h = retX x43.res x43.ownR h.length (execW progX 43 h.length none x43.body (argEnv (if x43.ownA then vs else nzL vs)) h) := runW_eq rfl hl h
theorem r44 {vs : List AV} {h : XH} (hl : vs.length ≤ 37) : runW progX 44 vs h = retX x44.res x44.ownR h.length (execW progX 44 h.length none x44.body (argEnv (if x44.ownA then vs else nzL vs)) h) := runW_eq rfl hl h
theorem r45 {vs : List AV} {h : XH} (hl : vs.length ≤ 15) : runW progX 45 vs h = retX x45.res x45.ownR h.length (execW progX 45 h.length none x45.body (argEnv (if x45.ownA then vs else nzL vs)) h) := runW_eq rfl hl h
theorem r46 {vs : List AV} {h : XH} (hl : vs.length ≤ 19) : runW progX 46 vs h = retX x46.res x46.ownR h.length (execW progX 46 h.length none x46.body (argEnv (if x46.ownA then vs else nzL vs)) h) := runW_eq rfl hl h
theorem r47 {vs : List AV} {h : XH} (hl : vs.length ≤ 28) : runW progX 47 vs h = retX x47.res x47.ownR h.length (execW progX 47 h.length none x47.body (argEnv (if x47.ownA then vs else nzL vs)) h) := runW_eq rfl hl h
theorem r48 {vs : List AV} {h : XH} (hl : vs.length ≤ 44) : runW progX 48 vs h = retX x48.res x48.ownR h.length (execW progX 48 h.length none x48.body (argEnv (if x48.ownA then vs else nzL vs)) h) := runW_eq rfl hl h
theorem r49 {vs : List AV} {h : XH} (hl : vs.length ≤ 57) : runW progX 49 vs h = retX x49.res x49.ownR h.length (execW progX 49 h.length none x49.body (argEnv (if x49.ownA then vs else nzL vs)) h) := runW_eq rfl hl h
theorem r50 {vs : List AV} {h : XH} (hl : vs.length ≤ 23) : runW progX 50 vs h = retX x50.res x50.ownR h.length (execW progX 50 h.length none x50.body (argEnv (if x50.ownA then vs else nzL vs)) h) := runW_eq rfl hl h
theorem r51 {vs : List AV} {h : XH} (hl : vs.length ≤ 23) : runW progX 51 vs h = retX x51.res x51.ownR h.length (execW progX 51 h.length none x51.body (argEnv (if x51.ownA then vs else nzL vs)) h) := runW_eq rfl hl h
theorem r52 {vs : List AV} {h : XH} (hl : vs.length ≤ 9) : runW progX 52 vs h = retX x52.res x52.ownR h.length (execW progX 52 h.length none x52.body (argEnv (if x52.ownA then vs else nzL vs)) h) := runW_eq rfl hl h
theorem r53 {vs : List AV} {h : XH} (hl : vs.length ≤ 18) : runW progX 53 vs h = retX x53.res x53.ownR h.length (execW progX 53 h.length none x53.body (argEnv (if x53.ownA then vs else nzL vs)) h) := runW_eq rfl hl h
theorem r54 {vs : List AV} {h : XH} (hl : vs.length ≤ 23) : runW progX 54 vs h = retX x54.res x54.ownR h.length (execW progX 54 h.length none x54.body (argEnv (if x54.ownA then vs else nzL vs)) h) := runW_eq rfl hl h
theorem r55 {vs : List AV} {h : XH} (hl : vs.length ≤ 11) : runW progX 55 vs h = retX x55.res x55.ownR h.length (execW progX 55 h.length none x55.body (argEnv (if x55.ownA then vs else nzL vs)) h) := runW_eq rfl hl h
theorem r56 {vs : List AV} {h : XH} (hl : vs.length ≤ 8) : runW progX 56 vs h = retX x56.res x56.ownR h.length (execW progX 56 h.length none x56.body (argEnv (if x56.ownA then vs else nzL vs)) h) := runW_eq rfl hl h
theorem r57 {vs : List AV} {h : XH} (hl : vs.length ≤ 22) : runW progX 57 vs h = retX x57.res x57.ownR h.length (execW progX 57 h.length none x57.body (argEnv (if x57.ownA then vs else nzL vs)) h) := runW_eq rfl hl h
theorem r58 {vs : List AV} {h : XH} (hl : vs.length ≤ 21) : runW progX 58 vs h = retX x58.res x58.ownR h.length (execW progX 58 h.length none x58.body (argEnv (if x58.ownA then vs else nzL vs)) h) := runW_eq rfl hl h
theorem r59 {vs : List AV} {h : XH} (hl : vs.length ≤ 83) : runW progX 59 vs h = retX x59.res x59.ownR h.length (execW progX 59 h.length none x59.body (argEnv (if x59.ownA then vs else nzL vs)) h) := runW_eq rfl hl h
theorem r60 {vs : List AV} {h : XH} (hl : vs.length ≤ 7) : runW progX 60 vs h = retX x60.res x60.ownR h.length (execW progX 60 h.length none x60.body (argEnv (if x60.ownA then vs else nzL vs)) h) := runW_eq rfl hl h
theorem r61 {vs : List AV} {h : XH} (hl : vs.length ≤ 23) : runW progX 61 vs h = retX x61.res x61.ownR h.length (execW progX 61 h.length none x61.body (argEnv (if x61.ownA then vs else nzL vs)) h) := runW_eq rfl hl h
theorem r62 {vs : List AV} {h : XH} (hl : vs.length ≤ 9) : runW progX 62 vs h = retX x62.res x62.ownR h.length (execW progX 62 h.length none x62.body (argEnv (if x62.ownA then vs else nzL vs)) h) := runW_eq rfl hl h
theorem r63 {vs : List AV} {h : XH} (hl : vs.length ≤ 6) : runW progX 63 vs h = retX x63.res x63.ownR h.length (execW progX 63 h.length none x63.body (argEnv (if x63.ownA then vs else nzL vs)) h) := runW_eq rfl hl h
theorem r64 {vs : List AV} {h : XH} (hl : vs.length ≤ 7) : runW progX 64 vs h = retX x64.res x64.ownR h.length (execW progX 64 h.length none x64.body (argEnv (if x64.ownA then vs else nzL vs)) h) := runW_eq rfl hl h
theorem r65 {vs : List AV} {h : XH} (hl : vs.length ≤ 30) : runW progX 65 vs h = retX x65.res x65.ownR h.length (execW progX 65 h.length none x65.body (argEnv (if x65.ownA then vs else nzL vs)) h) := runW_eq rfl hl h
theorem r66 {vs : List AV} {h : XH} (hl : vs.length ≤ 39) : runW progX 66 vs h = retX x66.res x66.ownR h.length (execW progX 66 h.length none x66.body (argEnv (if x66.ownA then vs else nzL vs)) h) := runW_eq rfl hl h
theorem r67 {vs : List AV} {h : XH} (hl : vs.length ≤ 33) : runW progX 67 vs h = retX x67.res x67.ownR h.length (execW progX 67 h.length none x67.body (argEnv (if x67.ownA then vs else nzL vs)) h) := runW_eq rfl hl h
theorem r68 {vs : List AV} {h : XH} (hl : vs.length ≤ 7) : runW progX 68 vs h = retX x68.res x68.ownR h.length (execW progX 68 h.length none x68.body (argEnv (if x68.ownA then vs else nzL vs)) h) := runW_eq rfl hl h
theorem r69 {vs : List AV} {h : XH} (hl : vs.length ≤ 9) : runW progX 69 vs h = retX x69.res x69.ownR h.length (execW progX 69 h.length none x69.body (argEnv (if x69.ownA then vs else nzL vs)) h) := runW_eq rfl hl h
theorem r70 {vs : List AV} {h : XH} (hl : vs.length ≤ 7) : runW progX 70 vs h = retX x70.res x70.ownR h.length (execW progX 70 h.length none x70.body (argEnv (if x70.ownA then vs else nzL vs)) h) := runW_eq rfl hl h
theorem r71 {vs : List AV} {h : XH} (hl : vs.length ≤ 10) : runW progX 71 vs h = retX x71.res x71.ownR h.length (execW progX 71 h.length none x71.body (argEnv (if x71.ownA then vs else nzL vs)) h) := runW_eq rfl hl h
theorem r72 {vs : List AV} {h : XH} (hl : vs.length ≤ 10) : runW progX 72 vs h = retX x72.res x72.ownR h.length (execW progX 72 h.length none x72.body (argEnv (if x72.ownA then vs else nzL vs)) h) := runW_eq rfl hl h
theorem r73 {vs : List AV} {h : XH} (hl : vs.length ≤ 19) : runW progX 73 vs h = retX x73.res x73.ownR h.length (execW progX 73 h.length none x73.body (argEnv (if x73.ownA then vs else nzL vs)) h) := runW_eq rfl hl h
theorem r74 {vs : List AV} {h : XH} (hl : vs.length ≤ 9) : runW progX 74 vs h = retX x74.res x74.ownR h.length (execW progX 74 h.length none x74.body (argEnv (if x74.ownA then vs else nzL vs)) h) := runW_eq rfl hl h
theorem r75 {vs : List AV} {h : XH} (hl : vs.length ≤ 10) : runW progX 75 vs h = retX x75.res x75.ownR h.length (execW progX 75 h.length none x75.body (argEnv (if x75.ownA then vs else nzL vs)) h) := runW_eq rfl hl h
theorem r76 {vs : List AV} {h : XH} (hl : vs.length ≤ 19) : runW progX 76 vs h = retX x76.res x76.ownR h.length (execW progX 76 h.length none x76.body (argEnv (if x76.ownA then vs else nzL vs)) h) := runW_eq rfl hl h
theorem r77 {vs : List AV} {h : XH} (hl : vs.length ≤ 17) : runW progX 77 vs h = retX x77.res x77.ownR h.length (execW progX 77 h.length none x77.body (argEnv (if x77.ownA then vs else nzL vs)) h) := runW_eq rfl hl h
theorem r78 {vs : List AV} {h : XH} (hl : vs.length ≤ 51) : runW progX 78 vs h = retX x78.res x78.ownR h.length (execW progX 78 h.length none x78.body (argEnv (if x78.ownA then vs else nzL vs)) h) := runW_eq rfl hl h
theorem r79 {vs : List AV} {h : XH} (hl : vs.length ≤ 19) : runW progX 79 vs h = retX x79.res x79.ownR h.length (execW progX 79 h.length none x79.body (argEnv (if x79.ownA then vs else nzL vs)) h) := runW_eq rfl hl h
theorem r80 {vs : List AV} {h : XH} (hl : vs.length ≤ 19) : runW progX 80 vs h = retX x80.res x80.ownR h.length (execW progX 80 h.length none x80.body (argEnv (if x80.ownA then vs else nzL vs)) h) := runW_eq rfl hl h

end Go.Proofs.Ytdbikamciedfdaa
namespace Go.Proofs.Ytdbikamciedfdaa
open Go Go.DL
theorem wk_0 : runW progX 32 [] [] = some (.agg [I (3), .sl 0 0 7 7], [some (.blk true (.cells true [I (-1), I (0), .bool true, I (100), I (600), I (130), I (20), I (0), I (1), .bool false, I (0), I (0), I (0), I (0), I (0), I (-1), .bool true, I (5), I (150), I (125), I (8), I (1), I (2), .bool true, I (90), I (40), I (0), I (6), I (1), I (-1), .bool false, I (0), I (0), I (0), I (0), I (2), I (-1), .bool false, I (0), I (0), I (0), I (0), I (2), I (-1), .bool true, I (80), I (1), I (0), I (1)]))]) := runW_iff.2 ⟨100, by kernel_rfl⟩
theorem wk_1 : runW progX 13 [.agg [I (3), .fs [[I (-1), I (0), .bool true, I (100), I (600), I (130), I (20)], [I (0), I (1), .bool false, I (0), I (0), I (0), I (0)], [I (0), I (-1), .bool true, I (5), I (150), I (125), I (8)], [I (1), I (2), .bool true, I (90), I (40), I (0), I (6)], [I (1), I (-1), .bool false, I (0), I (0), I (0), I (0)], [I (2), I (-1), .bool false, I (0), I (0), I (0), I (0)], [I (2), I (-1), .bool true, I (80), I (1), I (0), I (1)]]]] [] = some (.tup [.fs [[I (-1)], [I (-1)], [I (-1)]], I (0)], []) := runW_iff.2 ⟨100, by kernel_rfl⟩
theorem wk_2 : runW progX 23 [.agg [I (3), .fs [[I (-1), I (0), .bool true, I (100), I (600), I (130), I (20)], [I (0), I (1), .bool false, I (0), I (0), I (0), I (0)], [I (0), I (-1), .bool true, I (5), I (150), I (125), I (8)], [I (1), I (2), .bool true, I (90), I (40), I (0), I (6)], [I (1), I (-1), .bool false, I (0), I (0), I (0), I (0)], [I (2), I (-1), .bool false, I (0), I (0), I (0), I (0)], [I (2), I (-1), .bool true, I (80), I (1), I (0), I (1)]]]] [] = some (.tup [.fs [[I (1), I (100), I (600), I (130), I (20)], [I (2), I (95), I (450), I (5), I (12)], [I (1), I (5), I (150), I (125), I (8)], [I (1), I (90), I (40), I (0), I (6)], [I (2), I (5), I (410), I (5), I (6)], [I (2), I (10), I (39), I (0), I (5)], [I (1), I (80), I (1), I (0), I (1)]], I (0)], []) := runW_iff.2 ⟨100, by kernel_rfl⟩
theorem wk_3 : runW progX 23 [.agg [I (3), .fs [[I (-1), I (0), .bool true, I (100), I (600), I (130), I (20)], [I (0), I (1), .bool false, I (0), I (0), I (0), I (0)], [I (0), I (-1), .bool true, I (5), I (150), I (125), I (8)], [I (1), I (2), .bool false, I (90), I (40), I (0), I (6)], [I (1), I (-1), .bool false, I (0), I (0), I (0), I (0)], [I (2), I (-1), .bool false, I (0), I (0), I (0), I (0)], [I (2), I (-1), .bool true, I (80), I (1), I (0), I (1)]]]] [] = some (.tup [.fs [[I (1), I (100), I (600), I (130), I (20)], [I (2), I (95), I (450), I (5), I (12)], [I (1), I (5), I (150), I (125), I (8)], [I (3), I (0), I (0), I (0), I (0)], [I (3), I (0), I (0), I (0), I (0)], [I (3), I (0), I (0), I (0), I (0)], [I (1), I (80), I (1), I (0), I (1)]], I (0)], []) := runW_iff.2 ⟨100, by kernel_rfl⟩
theorem wk_4 : runW progX 16 [.agg [I (3), .fs [[I (-1), I (0), .bool true, I (100), I (600), I (130), I (20)], [I (0), I (1), .bool false, I (0), I (0), I (0), I (0)], [I (0), I (-1), .bool true, I (5), I (150), I (125), I (8)], [I (1), I (2), .bool true, I (90), I (40), I (0), I (6)], [I (1), I (-1), .bool false, I (0), I (0), I (0), I (0)], [I (2), I (-1), .bool false, I (0), I (0), I (0), I (0)], [I (2), I (-1), .bool true, I (80), I (1), I (0), I (1)]]], .sl 0 0 1 2] [some (.blk true (.cells true [I (0), I (1)]))] = some (.tup [.agg [I (5), I (410), I (5), I (6)], I (0)], [none]) := runW_iff.2 ⟨100, by kernel_rfl⟩
theorem wk_5 : runW progX 33 [.agg [I (3), .fs [[I (-1), I (0), .bool true, I (100), I (600), I (130), I (20)], [I (0), I (1), .bool false, I (0), I (0), I (0), I (0)], [I (0), I (-1), .bool true, I (5), I (150), I (125), I (8)], [I (1), I (2), .bool false, I (90), I (40), I (0), I (6)], [I (1), I (-1), .bool false, I (0), I (0), I (0), I (0)], [I (2), I (-1), .bool false, I (0), I (0), I (0), I (0)], [I (2), I (-1), .bool true, I (80), I (1), I (0), I (1)]]], I (3), .agg [I (0), I (0), I (0), I (0)]] [] = some (.tup [.fs [[I (100), I (600), I (130), I (20)], [I (95), I (450), I (5), I (12)], [I (5), I (150), I (125), I (8)], [I (0), I (0), I (0), I (0)], [I (95), I (450), I (5), I (12)], [I (-80), I (-1), I (0), I (-1)], [I (80), I (1), I (0), I (1)]], I (0)], []) := runW_iff.2 ⟨100, by kernel_rfl⟩
theorem wk_6 : runW progX 23 [.agg [I (3), .fs [[I (-1), I (0), .bool true, I (100), I (600), I (130), I (20)], [I (0), I (1), .bool true, I (95), I (450), I (5), I (12)], [I (0), I (-1), .bool true, I (5), I (150), I (125), I (8)], [I (1), I (2), .bool true, I (90), I (40), I (0), I (6)], [I (1), I (-1), .bool true, I (5), I (410), I (5), I (6)], [I (2), I (-1), .bool true, I (10), I (39), I (0), I (4)], [I (2), I (-1), .bool true, I (80), I (1), I (0), I (1)]]]] [] = some (.tup [.fs [], I (12)], []) := runW_iff.2 ⟨100, by kernel_rfl⟩
theorem wk_7 : runW progX 25 [.agg [I (3), .fs [[I (-1), I (0), .bool true, I (100), I (600), I (130), I (20)], [I (0), I (1), .bool true, I (95), I (450), I (5), I (12)], [I (0), I (-1), .bool true, I (5), I (150), I (125), I (8)], [I (1), I (2), .bool true, I (90), I (40), I (0), I (6)], [I (1), I (-1), .bool true, I (5), I (410), I (5), I (6)], [I (2), I (-1), .bool true, I (10), I (39), I (0), I (4)], [I (2), I (-1), .bool true, I (80), I (1), I (0), I (1)]]]] [] = some (.tup [.fs [[I (2)]], I (3), I (0)], []) := runW_iff.2 ⟨100, by kernel_rfl⟩
theorem wk_8 : runW progX 22 [.fs [[I (-1)], [I (-1)], [I (-1)]], .sl 0 0 1 3] [some (.blk true (.cells true [I (-1), I (-1), I (-1)]))] = some (.bool true, [some (.blk true (.cells true [I (-1), I (-1), I (-1)]))]) := runW_iff.2 ⟨100, by kernel_rfl⟩
theorem wk_9 : runW progX 28 [.agg [I (3), .fs [[I (-1), I (0), .bool true, I (100), I (600), I (130), I (20)], [I (0), I (1), .bool true, I (95), I (450), I (5), I (12)], [I (0), I (-1), .bool true, I (5), I (150), I (125), I (8)], [I (1), I (2), .bool true, I (90), I (40), I (0), I (6)], [I (1), I (-1), .bool true, I (5), I (410), I (5), I (6)], [I (2), I (-1), .bool true, I (10), I (39), I (0), I (4)], [I (2), I (-1), .bool true, I (80), I (1), I (0), I (1)]]], .fs [[I (2)]], I (3)] [] = some (I (0), []) := runW_iff.2 ⟨100, by kernel_rfl⟩
theorem wk_10 : runW progX 28 [.agg [I (3), .fs [[I (-1), I (0), .bool true, I (100), I (600), I (130), I (20)], [I (0), I (1), .bool true, I (95), I (450), I (5), I (12)], [I (0), I (-1), .bool true, I (5), I (150), I (125), I (8)], [I (1), I (2), .bool true, I (90), I (40), I (0), I (6)], [I (1), I (-1), .bool true, I (5), I (410), I (5), I (6)], [I (2), I (-1), .bool true, I (10), I (39), I (0), I (4)], [I (2), I (-1), .bool true, I (80), I (1), I (0), I (1)]]], .sl 0 0 1 1, I (3)] [some (.blk true (.cells true [I (2)]))] = some (I (0), [none]) := runW_iff.2 ⟨100, by kernel_rfl⟩
theorem wk_11 : runW progX 18 [.str ⟨#[97, 57]⟩] [] = some (.bool true, []) := runW_iff.2 ⟨100, by kernel_rfl⟩
theorem wk_12 : runW progX 18 [.str ⟨#[57, 97]⟩] [] = some (.bool false, []) := runW_iff.2 ⟨100, by kernel_rfl⟩
end Go.Proofs.Ytdbikamciedfdaa
namespace Go.Proofs.Ytdbikamciedfdaa
open Go Go.DL
set_option maxHeartbeats 4000000
set_option maxRecDepth 100000
theorem works_w : runW progX 12 [] [] = some (.bool true, []) := by
  rw [runW_eq (d := x12) rfl (by simp)]
  simp (config := { maxSteps := 2000000 }) [nzL, nzA, zfo, execW_regS, execW_regD, zfp, zfq, zfr, zfs, execW_cond, zft, zfu, zfv, zfw, zfx, zfy, xops, xopsD, gd, xcore, evalQ, evA, updo, upd_eq, binA, intA, fzX, fzNs, fzOf, fz1, retX_n, retX_r, resA, resL, resA1, finX, slN, slL, keepAcc, reachX, reachFuel, nmL, nmA, nmO, nmB, keepH, padTake, rnA, rnL, rnO, rnB, argEnv, List.flatMap, callX, passedOf, passed, localH, posOf, mergeR, mergeH, setL, backS, hat, hpOf, xNew, flagNew, flagH, grA, grL, loadA, readA, xStore, cellsOf, splice, fzA, fzL, fzB, fzO, chunks, keepS, cellsEq, cellEq, logOk, logPost, logX, blkA, callQ, fillA, canonE, canonH, envL, eqnA, boundA, slslA, srcA, appA, lookA, findA, keyEqA, putA, xMapup, xCopy, sameO, sameL, sameA, keptB, roX, gdA, gdL, gdR, anyE, wrap_ok, canonL, zfz, leaves, x12, x12l0, execW_loop, wk_0, wk_1, wk_2, wk_3, wk_4, wk_5, wk_6, wk_7, wk_8, wk_9, wk_10, wk_11, wk_12]
end Go.Proofs.Ytdbikamciedfdaa
namespace Go.Proofs.Ytdbikamciedfdaa
open Go Go.DL
set_option maxRecDepth 100000
set_option maxHeartbeats 1000000
abbrev wr (n : Int) : Int := IntKind.i64.wrap n

def btw (a b c : Int) : Bool := decide (a ≤ b) && decide (b ≤ c)
theorem w42 (a b c : Int) : runW progX 42 [I a, I b, I c] [] = some (.bool (btw a b c), []) := by
  rw [r42 (by simp)]; unfold x42; dsimp only
  by_cases h : a ≤ b
  · have h := eq_true h
    (sym => (simp [z00,z01,z05,z07,z0b,z0c,z0h,z0i,z0k,z0n,z0q,z0v,z22,z23,z2w,z4m,z67,z6q,z7r,z7s,z9n,z9y,za3,za5,za7,za8,zba,zbt,zbu,zbw,zbx,zby,zbz,zc0,zc3,zc4,zc5,zc6,zc8,zcj,zco,zcr,zct,zcv,zd2,zd4,zdk,zdl,zdo,zds,zdt,ze2,ze3,zfm,zfo,zfp,zft,zg0,zg1, h, btw.eq_1]; all_goals tactic => exact rfl))
  · have h := eq_false h
    (sym => (simp [z00,z01,z05,z07,z0b,z0c,z0h,z0i,z0k,z0n,z0q,z0v,z22,z23,z2w,z4m,z67,z6q,z7r,z7s,z9n,z9y,za3,za5,za7,za8,zba,zbt,zbu,zbw,zbx,zby,zbz,zc0,zc3,zc4,zc5,zc6,zc8,zcj,zco,zcr,zct,zcv,zd2,zd4,zdk,zdl,zdo,zds,zdt,ze2,ze3,zfm,zfo,zfp,zft,zg0,zg1, h, btw.eq_1]; all_goals tactic => exact rfl))
theorem w45 (n a b : Int) : runW progX 45 [I n, I a, I b] [] = some (.bool (btw a n b), []) := by
  rw [r45 (by simp)]; unfold x45; dsimp only
  by_cases h : a ≤ n
  · have h := eq_true h
    (sym => (simp [z00,z01,z05,z07,z0b,z0c,z0h,z0i,z0k,z0n,z0q,z0v,z22,z23,z2w,z2y,z4m,z67,z6q,z7r,z7s,z9n,z9y,za3,za5,za7,za8,zba,zbt,zbu,zbw,zbx,zby,zbz,zc0,zc3,zc4,zc5,zc6,zc8,zcj,zco,zcr,zct,zcv,zd2,zd4,zdk,zdl,zdo,zds,zdt,ze2,ze3,zfm,zfo,zfp,zft,zg0,zg1, h, btw.eq_1]; all_goals tactic => exact rfl))
  · have h := eq_false h
    (sym => (simp [z00,z01,z05,z07,z0b,z0c,z0h,z0i,z0k,z0n,z0q,z0v,z22,z23,z2w,z2y,z4m,z67,z6q,z7r,z7s,z9n,z9y,za3,za5,za7,za8,zba,zbt,zbu,zbw,zbx,zby,zbz,zc0,zc3,zc4,zc5,zc6,zc8,zcj,zco,zcr,zct,zcv,zd2,zd4,zdk,zdl,zdo,zds,zdt,ze2,ze3,zfm,zfo,zfp,zft,zg0,zg1, h, btw.eq_1]; all_goals tactic => exact rfl))

/-- Masses. -/
structure Ms where
  a : Int
  b : Int
  c : Int
  d : Int
deriving DecidableEq
abbrev Ms.cs (m : Ms) : List AV := [I m.a, I m.b, I m.c, I m.d]
def Ms.plus (m : Ms) (t : Int) (o : Ms) : Ms := ⟨wr (m.a + wr (t * o.a)), wr (m.b + wr (t * o.b)), wr (m.c + wr (t * o.c)), wr (m.d + wr (t * o.d))⟩

theorem w61 (a b c d t a' b' c' d' : Int) : runW progX 61 [.agg [I a, I b, I c, I d], I t, .agg [I a', I b', I c', I d']] [] = some (.agg (Ms.plus ⟨a, b, c, d⟩ t ⟨a', b', c', d'⟩).cs, []) := by
  rw [r61 (by simp)]; unfold x61; dsimp only
  unfold x61l0
  (sym => (simp [z00,z01,z02,z05,z07,z08,z0b,z0c,z0f,z0n,z0o,z0r,z0v,z14,z1j,z1k,z1m,z1n,z1o,z1p,z1q,z2j,z2l,z2v,z36,z37,z38,z39,z3g,z3i,z3k,z3m,z3p,z40,z4l,z4o,z4t,z54,z57,z66,z69,z6e,z6p,z6s,z7r,z7u,z8a,z8d,z91,z9d,z9e,z9g,z9i,z9j,z9k,z9l,z9m,z9n,z9p,z9r,z9s,z9v,z9w,z9y,za0,za1,za3,za6,za7,za8,za9,zae,zaf,zal,zav,zba,zbt,zbu,zbw,zbx,zby,zbz,zc0,zc3,zc4,zc5,zc7,zc8,zca,zcb,zcc,zcd,zce,zcf,zcg,zcj,zcn,zco,zcp,zcq,zcr,zct,zcu,zcv,zcy,zd3,zd7,zd8,zdd,zdj,zdk,zdl,zdm,zdn,zds,zdt,zdu,zdv,zdw,zdx,zdy,zdz,ze2,ze3,ze9,zeo,zep,zf6,zf7,zfa,zfb,zfc,zfd,zfg,zfm,zfo,zfp,zfq,zfr,zfs,zft,zfu,zfw,zfy,zg0,zg1,zhf, execW_loop]; all_goals tactic => exact rfl))
theorem w51 (a b c d t a' b' c' d' : Int) : runW progX 51 [.agg [I a, I b, I c, I d], I t, .agg [I a', I b', I c', I d']] [] = some (.agg (Ms.plus ⟨a, b, c, d⟩ t ⟨a', b', c', d'⟩).cs, []) := by
  rw [r51 (by simp)]; unfold x51; dsimp only
  unfold x51l0
  (sym => (simp [z00,z01,z02,z05,z07,z08,z0b,z0c,z0f,z0n,z0o,z0r,z0v,z14,z1j,z1k,z1m,z1n,z1o,z1p,z1q,z2j,z2l,z2v,z36,z37,z38,z39,z3g,z3i,z3k,z3m,z3p,z40,z4l,z4o,z4t,z54,z57,z66,z69,z6e,z6p,z6s,z7r,z7u,z8a,z8d,z91,z9d,z9e,z9g,z9i,z9j,z9k,z9l,z9m,z9n,z9p,z9r,z9s,z9v,z9w,z9y,za0,za1,za3,za6,za7,za8,za9,zae,zaf,zal,zav,zba,zbt,zbu,zbw,zbx,zby,zbz,zc0,zc3,zc4,zc5,zc7,zc8,zca,zcb,zcc,zcd,zce,zcf,zcg,zcj,zcn,zco,zcp,zcq,zcr,zct,zcu,zcv,zcy,zd3,zd7,zd8,zdd,zdj,zdk,zdl,zdm,zdn,zds,zdt,zdu,zdv,zdw,zdx,zdy,zdz,ze2,ze3,ze9,zeo,zep,zf6,zf7,zfa,zfb,zfc,zfd,zfg,zfm,zfo,zfp,zfq,zfr,zfs,zft,zfu,zfw,zfy,zg0,zg1,zhf, execW_loop]; all_goals tactic => exact rfl))
end Go.Proofs.Ytdbikamciedfdaa
namespace Go.Proofs.Ytdbikamciedfdaa
open Go Go.DL
set_option maxRecDepth 100000
set_option maxHeartbeats 1000000

def encM (es : List (Int × Int)) : List (AV × AV) := es.map fun p => (I p.1, I p.2)
def look (es : List (Int × Int)) (x : Int) : Option Int := match es with
  | [] => none
  | p :: r => if p.1 = x then some p.2 else look r x
abbrev mapB (es : List (Int × Int)) : Option XB := some (.blk true (.map true (encM es)))

theorem findA_enc (es : List (Int × Int)) (x : Int) : findA false (I x) (encM es) = some ((look es x).map I) := by
  induction es with
  | nil => rfl
  | cons p r ih =>
    simp only [encM, List.map_cons, findA, keyEqA, if_true, look] at ih ⊢
    by_cases h : p.1 = x
    · simp [h]
    · rw [show (x == p.1) = false by simpa using fun e => h e.symm]
      simpa [h] using ih

def stepH (es : List (Int × Int)) (x : Int) : Int := (look es x).getD x
def itH (es : List (Int × Int)) : Nat → Int → Int
  | 0, x => x
  | n + 1, x => stepH es (itH es n x)

theorem w57 (es : List (Int × Int)) (x : Int) (n : Nat) (h1 : ∀ i, i < n → stepH es (itH es i x) ≠ itH es i x) (h2 : stepH es (itH es n x) = itH es n x) :
    runW progX 57 [.mp 0, I x] [mapB es] = some (I (itH es n x), [mapB es]) := by
  rw [r57 (by simp)]; unfold x57; dsimp only
  have hl : look es (itH es n x) = none ∨ look es (itH es n x) = some (itH es n x) := by
    unfold stepH at h2
    cases hx : look es (itH es n x) with
    | none => exact .inl rfl
    | some y => rw [hx] at h2; simp at h2; right; rw [h2]
  sym =>
    simp [z00,z01,z05,z07,z0b,z0c,z0h,z0j,z0l,z0n,z0q,z0v,z0z,z1d,z1e,z22,z23,z26,z2i,z2t,z47,z48,z4a,z4c,z4d,z4l,z4u,z66,z6f,z6p,z7r,z80,z9d,z9e,z9g,z9n,z9p,z9r,z9w,z9y,za1,za3,za5,za6,za7,za8,zae,zaf,zak,zal,zba,zbt,zbu,zbw,zbx,zby,zbz,zc0,zc3,zc4,zc5,zc6,zc8,zca,zcc,zcd,zce,zcf,zcg,zci,zcj,zcn,zco,zcr,zcs,zct,zcu,zcv,zcy,zcz,zd6,zd7,zdj,zdk,zdl,zdo,zds,zdt,zdu,zdv,ze2,ze3,zfm,zfo,zfp,zfq,zfs,zft,zfv,zfw,zfx,zfz,zg0,zg1]
    tactic =>
      unfold x57l0
      rw [loop_rule n (fun i => [.mp 0, I (itH es i x)]) (fun _ => [mapB es])]
      · rcases hl with hl | hl <;> (sym => (simp [z00,z01,z05,z07,z0b,z0c,z0h,z0j,z0l,z0n,z0q,z0v,z0z,z1d,z1e,z22,z23,z26,z2i,z2t,z47,z48,z4a,z4c,z4d,z4l,z4u,z66,z6f,z6p,z7r,z80,z9d,z9e,z9g,z9n,z9p,z9r,z9w,z9y,za1,za3,za5,za6,za7,za8,zae,zaf,zak,zal,zba,zbt,zbu,zbw,zbx,zby,zbz,zc0,zc3,zc4,zc5,zc6,zc8,zca,zcc,zcd,zce,zcf,zcg,zci,zcj,zcn,zco,zcr,zcs,zct,zcu,zcv,zcy,zcz,zd6,zd7,zdj,zdk,zdl,zdo,zds,zdt,zdu,zdv,ze2,ze3,zfm,zfo,zfp,zfq,zfs,zft,zfv,zfw,zfx,zfz,zg0,zg1, hl, findA_enc]; all_goals tactic => exact rfl))
      · (sym => (simp [z00,z01,z05,z07,z0b,z0c,z0h,z0j,z0l,z0n,z0q,z0v,z0z,z1d,z1e,z22,z23,z26,z2i,z2t,z47,z48,z4a,z4c,z4d,z4l,z4u,z66,z6f,z6p,z7r,z80,z9d,z9e,z9g,z9n,z9p,z9r,z9w,z9y,za1,za3,za5,za6,za7,za8,zae,zaf,zak,zal,zba,zbt,zbu,zbw,zbx,zby,zbz,zc0,zc3,zc4,zc5,zc6,zc8,zca,zcc,zcd,zce,zcf,zcg,zci,zcj,zcn,zco,zcr,zcs,zct,zcu,zcv,zcy,zcz,zd6,zd7,zdj,zdk,zdl,zdo,zds,zdt,zdu,zdv,ze2,ze3,zfm,zfo,zfp,zfq,zfs,zft,zfv,zfw,zfx,zfz,zg0,zg1, itH.eq_1]; all_goals tactic => exact rfl))
      · intro i hi
        have h3 := h1 i hi
        unfold stepH at h3
        cases hx : look es (itH es i x) with
        | none => rw [hx] at h3; simp at h3
        | some y =>
          rw [hx] at h3
          simp only [Option.getD_some] at h3
          have h4 := eq_false h3
          have h5 : itH es (i + 1) x = y := by simp [itH, stepH, hx]
          simp only [h5]
          (sym => (simp [z00,z01,z05,z07,z0b,z0c,z0h,z0j,z0l,z0n,z0q,z0v,z0z,z1d,z1e,z22,z23,z26,z2i,z2t,z47,z48,z4a,z4c,z4d,z4l,z4u,z66,z6f,z6p,z7r,z80,z9d,z9e,z9g,z9n,z9p,z9r,z9w,z9y,za1,za3,za5,za6,za7,za8,zae,zaf,zak,zal,zba,zbt,zbu,zbw,zbx,zby,zbz,zc0,zc3,zc4,zc5,zc6,zc8,zca,zcc,zcd,zce,zcf,zcg,zci,zcj,zcn,zco,zcr,zcs,zct,zcu,zcv,zcy,zcz,zd6,zd7,zdj,zdk,zdl,zdo,zds,zdt,zdu,zdv,ze2,ze3,zfm,zfo,zfp,zfq,zfs,zft,zfv,zfw,zfx,zfz,zg0,zg1, findA_enc, hx, h4]; all_goals tactic => exact rfl))
      · rcases hl with hl | hl <;> (sym => (simp [z00,z01,z05,z07,z0b,z0c,z0h,z0j,z0l,z0n,z0q,z0v,z0z,z1d,z1e,z22,z23,z26,z2i,z2t,z47,z48,z4a,z4c,z4d,z4l,z4u,z66,z6f,z6p,z7r,z80,z9d,z9e,z9g,z9n,z9p,z9r,z9w,z9y,za1,za3,za5,za6,za7,za8,zae,zaf,zak,zal,zba,zbt,zbu,zbw,zbx,zby,zbz,zc0,zc3,zc4,zc5,zc6,zc8,zca,zcc,zcd,zce,zcf,zcg,zci,zcj,zcn,zco,zcr,zcs,zct,zcu,zcv,zcy,zcz,zd6,zd7,zdj,zdk,zdl,zdo,zds,zdt,zdu,zdv,ze2,ze3,zfm,zfo,zfp,zfq,zfs,zft,zfv,zfw,zfx,zfz,zg0,zg1, findA_enc, hl, zch, zci]; all_goals tactic => exact rfl))

def hd (es : List (Int × Int)) (n : Nat) (x r : Int) : Prop := (∀ i, i < n → stepH es (itH es i x) ≠ itH es i x) ∧ stepH es (itH es n x) = itH es n x ∧ itH es n x = r
theorem w57' {es : List (Int × Int)} {x r : Int} {n : Nat} (h : hd es n x r) : runW progX 57 [.mp 0, I x] [mapB es] = some (I r, [mapB es]) := by
  rw [w57 es x n h.1 h.2.1, h.2.2]

def put (es : List (Int × Int)) (k v : Int) : List (Int × Int) := match es with
  | [] => [(k, v)]
  | p :: r => if k = p.1 then (p.1, v) :: r else p :: put r k v
theorem putA_enc (es : List (Int × Int)) (k v : Int) : putA false (I k) (I v) (encM es) = some (encM (put es k v)) := by
  induction es with
  | nil => rfl
  | cons p r ih =>
    simp only [encM, List.map_cons, putA, keyEqA, if_true, put] at ih ⊢
    by_cases h : k = p.1
    · simp [h]
    · simp only [show (k == p.1) = false by simpa using h, if_neg h, ih, Option.map_some, List.map_cons]

theorem w58 {es : List (Int × Int)} {x y a b : Int} {n m : Nat} (h1 : hd es n x a) (h2 : hd es m y b) : runW progX 58 [.mp 0, I x, I y] [mapB es] = some (.tup [], [mapB (put es (if b > a then b else a) (if b < a then b else a))]) := by
  rw [r58 (by simp)]; unfold x58; dsimp only
  have e1 := w57' h1
  have e2 := w57' h2
  (sym => (simp [z00,z01,z02,z05,z06,z07,z09,z0b,z0c,z0n,z1g,z1n,z1r,z1t,z1u,z20,z21,z42,z43,z4l,z4p,z4u,z54,z66,z6a,z6f,z6p,z6t,z6y,z7r,z7v,z80,z9d,z9i,z9l,z9m,z9n,z9r,z9t,z9v,z9y,za0,za1,za2,za3,za5,za6,za7,za8,zaa,zab,zac,zae,zaf,zak,zal,zaq,zas,zat,zau,zba,zbc,zbd,zbe,zbs,zbu,zbw,zbx,zby,zbz,zc1,zc3,zc8,zcj,zcn,zco,zcq,zcr,zcs,zct,zcu,zcv,zcy,zd3,zdj,zdo,zds,zdt,zdu,zdv,zdy,ze2,ze3,zfe,zff,zfo,zft,zg0,zg1, e1, e2, putA_enc]; all_goals tactic => exact rfl))
end Go.Proofs.Ytdbikamciedfdaa
namespace Go.Proofs.Ytdbikamciedfdaa
open Go Go.DL
set_option maxRecDepth 100000
set_option maxHeartbeats 1000000

theorem w75 (lo n hi : Int) : runW progX 75 [I n, .pt 0 0, .pt 1 0] [some (.blk true (.cells true [I lo])), some (.blk true (.cells true [I hi]))] = some (.bool !(btw lo n hi), [some (.blk true (.cells true [I lo])), some (.blk true (.cells true [I hi]))]) := by
  rw [r75 (by simp)]; unfold x75; dsimp only
  (sym => (simp [z00,z01,z05,z06,z07,z09,z0b,z0c,z0n,z0z,z1j,z1r,z1u,z20,z21,z26,z4l,z4m,z66,z67,z6p,z6q,z7r,z7s,z7z,z9d,z9e,z9g,z9m,z9n,z9p,z9y,za2,za3,za5,za6,za7,za8,zaa,zab,zae,zaf,zak,zal,zaq,zas,zat,zba,zbc,zbd,zbe,zbf,zbg,zbk,zbt,zbu,zbw,zbx,zby,zbz,zc0,zc3,zc4,zc5,zc6,zc8,zcj,zcn,zco,zcq,zcr,zcs,zct,zcu,zcv,zdo,zds,zdt,zdu,zdv,ze2,ze3,zf6,zf7,zfb,zfo,zfp,zft,zg0,zg1, w42]; all_goals tactic => exact rfl))
def Ms.within (m : Ms) (lo hi : Int) : Bool := btw lo m.a hi && (btw lo m.b hi && (btw lo m.c hi && btw lo m.d hi))
theorem w80 (a b c d lo hi : Int) : runW progX 80 [.fs [[I a], [I b], [I c], [I d]], .fn (.func 75) [] [.pt 0 0, .pt 1 0]] [some (.blk true (.cells true [I lo])), some (.blk true (.cells true [I hi]))] = some (I (if btw lo a hi then if btw lo b hi then if btw lo c hi then if btw lo d hi then -1 else 3 else 2 else 1 else 0), [some (.blk true (.cells true [I lo])), some (.blk true (.cells true [I hi]))]) := by
  rw [r80 (by simp)]; unfold x80; dsimp only
  unfold x80l0
  cases h1 : btw lo a hi
  · (sym => (simp [z00,z01,z05,z07,z0b,z0c,z0n,z0v,z15,z1f,z1j,z1r,z1u,z20,z21,z2b,z2g,z2h,z2j,z2v,z36,z37,z38,z39,z3g,z3i,z3k,z3m,z3p,z4l,z4q,z4t,z4y,z66,z67,z6b,z6e,z6j,z6p,z7r,z7w,z84,z9d,z9i,z9l,z9m,z9n,z9p,z9r,z9s,z9t,z9v,z9w,z9y,za0,za1,za2,za3,za5,za6,za7,za8,zaa,zab,zac,zae,zaf,zak,zal,zaq,zas,zat,zau,zba,zbt,zbu,zbw,zbx,zby,zbz,zc0,zc3,zc4,zc5,zc6,zc8,zca,zcb,zcc,zcd,zce,zcf,zcg,zcj,zcn,zco,zcp,zcq,zcr,zcs,zct,zcu,zcv,zcy,zd6,zd7,zdd,zdj,zdk,zdl,zdo,zds,zdt,zdu,zdv,ze2,ze3,zf8,zf9,zfb,zfm,zfo,zfp,zfq,zfr,zfs,zft,zfu,zfv,zfw,zfx,zfy,zg0,zg1, execW_loop, w75, h1]; all_goals tactic => exact rfl))
  cases h2 : btw lo b hi
  · (sym => (simp [z00,z01,z05,z07,z0b,z0c,z0n,z0v,z15,z1f,z1j,z1r,z1u,z20,z21,z2b,z2g,z2h,z2j,z2v,z36,z37,z38,z39,z3g,z3i,z3k,z3m,z3p,z4l,z4q,z4t,z4y,z66,z67,z6b,z6e,z6j,z6p,z7r,z7w,z84,z9d,z9i,z9l,z9m,z9n,z9p,z9r,z9s,z9t,z9v,z9w,z9y,za0,za1,za2,za3,za5,za6,za7,za8,zaa,zab,zac,zae,zaf,zak,zal,zaq,zas,zat,zau,zba,zbt,zbu,zbw,zbx,zby,zbz,zc0,zc3,zc4,zc5,zc6,zc8,zca,zcb,zcc,zcd,zce,zcf,zcg,zcj,zcn,zco,zcp,zcq,zcr,zcs,zct,zcu,zcv,zcy,zd6,zd7,zdd,zdj,zdk,zdl,zdo,zds,zdt,zdu,zdv,ze2,ze3,zf8,zf9,zfb,zfm,zfo,zfp,zfq,zfr,zfs,zft,zfu,zfv,zfw,zfx,zfy,zg0,zg1, execW_loop, w75, h1, h2]; all_goals tactic => exact rfl))
  cases h3 : btw lo c hi
  · (sym => (simp [z00,z01,z05,z07,z0b,z0c,z0n,z0v,z15,z1f,z1j,z1r,z1u,z20,z21,z2b,z2g,z2h,z2j,z2v,z36,z37,z38,z39,z3g,z3i,z3k,z3m,z3p,z4l,z4q,z4t,z4y,z66,z67,z6b,z6e,z6j,z6p,z7r,z7w,z84,z9d,z9i,z9l,z9m,z9n,z9p,z9r,z9s,z9t,z9v,z9w,z9y,za0,za1,za2,za3,za5,za6,za7,za8,zaa,zab,zac,zae,zaf,zak,zal,zaq,zas,zat,zau,zba,zbt,zbu,zbw,zbx,zby,zbz,zc0,zc3,zc4,zc5,zc6,zc8,zca,zcb,zcc,zcd,zce,zcf,zcg,zcj,zcn,zco,zcp,zcq,zcr,zcs,zct,zcu,zcv,zcy,zd6,zd7,zdd,zdj,zdk,zdl,zdo,zds,zdt,zdu,zdv,ze2,ze3,zf8,zf9,zfb,zfm,zfo,zfp,zfq,zfr,zfs,zft,zfu,zfv,zfw,zfx,zfy,zg0,zg1, execW_loop, w75, h1, h2, h3]; all_goals tactic => exact rfl))
  cases h4 : btw lo d hi <;> (sym => (simp [z00,z01,z05,z07,z0b,z0c,z0n,z0v,z15,z1f,z1j,z1r,z1u,z20,z21,z2b,z2g,z2h,z2j,z2v,z36,z37,z38,z39,z3g,z3i,z3k,z3m,z3p,z4l,z4q,z4t,z4y,z66,z67,z6b,z6e,z6j,z6p,z7r,z7w,z84,z9d,z9i,z9l,z9m,z9n,z9p,z9r,z9s,z9t,z9v,z9w,z9y,za0,za1,za2,za3,za5,za6,za7,za8,zaa,zab,zac,zae,zaf,zak,zal,zaq,zas,zat,zau,zba,zbt,zbu,zbw,zbx,zby,zbz,zc0,zc3,zc4,zc5,zc6,zc8,zca,zcb,zcc,zcd,zce,zcf,zcg,zcj,zcn,zco,zcp,zcq,zcr,zcs,zct,zcu,zcv,zcy,zd6,zd7,zdd,zdj,zdk,zdl,zdo,zds,zdt,zdu,zdv,ze2,ze3,zf8,zf9,zfb,zfm,zfo,zfp,zfq,zfr,zfs,zft,zfu,zfv,zfw,zfx,zfy,zg0,zg1, execW_loop, w75, h1, h2, h3, h4]; all_goals tactic => exact rfl))
end Go.Proofs.Ytdbikamciedfdaa
namespace Go.Proofs.Ytdbikamciedfdaa
open Go Go.DL
set_option maxRecDepth 100000
set_option maxHeartbeats 1000000

theorem w74 (a b c d lo hi : Int) : runW progX 74 [.sl 0 0 1 4, .fn (.func 75) [] [.pt 1 0, .pt 2 0]] [some (.blk true (.cells true [I a, I b, I c, I d])), some (.blk true (.cells true [I lo])), some (.blk true (.cells true [I hi]))] = some (.bool !(Ms.within ⟨a, b, c, d⟩ lo hi), [none, some (.blk true (.cells true [I lo])), some (.blk true (.cells true [I hi]))]) := by
  rw [r74 (by simp)]; unfold x74; dsimp only
  unfold Ms.within
  cases h1 : btw lo a hi
  · (sym => (simp [z00,z01,z05,z06,z07,z09,z0b,z0c,z0n,z0v,z1r,z1u,z20,z21,z2y,z4m,z4q,z4t,z4y,z66,z67,z6b,z6e,z6j,z6q,z6w,z72,z7f,z7g,z7l,z7s,z7y,z84,z9d,z9i,z9j,z9k,z9l,z9m,z9n,z9r,z9s,z9t,z9v,z9y,za0,za1,za2,za3,za5,za6,za7,za8,zaa,zab,zac,zad,zae,zaf,zaj,zak,zal,zaq,zas,zat,zau,zb4,zb5,zb9,zba,zbb,zbc,zbd,zbe,zbm,zbp,zbt,zbu,zbw,zbx,zby,zbz,zc0,zc3,zc4,zc5,zc6,zc8,zcj,zcn,zco,zcp,zcq,zcr,zcs,zct,zcu,zcv,zcy,zd3,zd4,zd5,zd6,zd7,zdd,zdj,zdk,zdl,zdo,zds,zdt,zdu,zdv,ze0,ze1,ze2,ze3,zfm,zfo,zfp,zft,zg0,zg1,zhy,zhz,zi0,zi1,zi2, w80, h1]; all_goals tactic => exact rfl))
  cases h2 : btw lo b hi
  · (sym => (simp [z00,z01,z05,z06,z07,z09,z0b,z0c,z0n,z0v,z1r,z1u,z20,z21,z2y,z4m,z4q,z4t,z4y,z66,z67,z6b,z6e,z6j,z6q,z6w,z72,z7f,z7g,z7l,z7s,z7y,z84,z9d,z9i,z9j,z9k,z9l,z9m,z9n,z9r,z9s,z9t,z9v,z9y,za0,za1,za2,za3,za5,za6,za7,za8,zaa,zab,zac,zad,zae,zaf,zaj,zak,zal,zaq,zas,zat,zau,zb4,zb5,zb9,zba,zbb,zbc,zbd,zbe,zbm,zbp,zbt,zbu,zbw,zbx,zby,zbz,zc0,zc3,zc4,zc5,zc6,zc8,zcj,zcn,zco,zcp,zcq,zcr,zcs,zct,zcu,zcv,zcy,zd3,zd4,zd5,zd6,zd7,zdd,zdj,zdk,zdl,zdo,zds,zdt,zdu,zdv,ze0,ze1,ze2,ze3,zfm,zfo,zfp,zft,zg0,zg1,zhy,zhz,zi0,zi1,zi2, w80, h1, h2]; all_goals tactic => exact rfl))
  cases h3 : btw lo c hi
  · (sym => (simp [z00,z01,z05,z06,z07,z09,z0b,z0c,z0n,z0v,z1r,z1u,z20,z21,z2y,z4m,z4q,z4t,z4y,z66,z67,z6b,z6e,z6j,z6q,z6w,z72,z7f,z7g,z7l,z7s,z7y,z84,z9d,z9i,z9j,z9k,z9l,z9m,z9n,z9r,z9s,z9t,z9v,z9y,za0,za1,za2,za3,za5,za6,za7,za8,zaa,zab,zac,zad,zae,zaf,zaj,zak,zal,zaq,zas,zat,zau,zb4,zb5,zb9,zba,zbb,zbc,zbd,zbe,zbm,zbp,zbt,zbu,zbw,zbx,zby,zbz,zc0,zc3,zc4,zc5,zc6,zc8,zcj,zcn,zco,zcp,zcq,zcr,zcs,zct,zcu,zcv,zcy,zd3,zd4,zd5,zd6,zd7,zdd,zdj,zdk,zdl,zdo,zds,zdt,zdu,zdv,ze0,ze1,ze2,ze3,zfm,zfo,zfp,zft,zg0,zg1,zhy,zhz,zi0,zi1,zi2, w80, h1, h2, h3]; all_goals tactic => exact rfl))
  cases h4 : btw lo d hi <;> (sym => (simp [z00,z01,z05,z06,z07,z09,z0b,z0c,z0n,z0v,z1r,z1u,z20,z21,z2y,z4m,z4q,z4t,z4y,z66,z67,z6b,z6e,z6j,z6q,z6w,z72,z7f,z7g,z7l,z7s,z7y,z84,z9d,z9i,z9j,z9k,z9l,z9m,z9n,z9r,z9s,z9t,z9v,z9y,za0,za1,za2,za3,za5,za6,za7,za8,zaa,zab,zac,zad,zae,zaf,zaj,zak,zal,zaq,zas,zat,zau,zb4,zb5,zb9,zba,zbb,zbc,zbd,zbe,zbm,zbp,zbt,zbu,zbw,zbx,zby,zbz,zc0,zc3,zc4,zc5,zc6,zc8,zcj,zcn,zco,zcp,zcq,zcr,zcs,zct,zcu,zcv,zcy,zd3,zd4,zd5,zd6,zd7,zdd,zdj,zdk,zdl,zdo,zds,zdt,zdu,zdv,ze0,ze1,ze2,ze3,zfm,zfo,zfp,zft,zg0,zg1,zhy,zhz,zi0,zi1,zi2, w80, h1, h2, h3, h4]; all_goals tactic => exact rfl))
theorem f_nnb {b : Bool} : (!(!b)) = b := by cases b <;> rfl
theorem w55 (a b c d lo hi : Int) : runW progX 55 [.agg [I a, I b, I c, I d], I lo, I hi] [] = some (.bool (Ms.within ⟨a, b, c, d⟩ lo hi), []) := by
  rw [r55 (by simp)]; unfold x55; dsimp only
  (sym => (simp [z00,z01,z05,z07,z0b,z0c,z0e,z0f,z0n,z0p,z0r,z0z,z19,z1r,z1u,z20,z21,z26,z4m,z4s,z4t,z4y,z54,z57,z67,z6d,z6e,z6j,z6q,z7r,z7s,z7u,z8a,z8d,z9d,z9e,z9g,z9i,z9l,z9m,z9n,z9r,z9s,z9t,z9v,z9y,za0,za1,za2,za3,za5,za6,za7,za8,zaa,zab,zac,zad,zae,zaf,zal,zaq,zas,zat,zau,zba,zbt,zbu,zbw,zbx,zby,zbz,zc0,zc3,zc4,zc5,zc6,zc8,zcj,zcn,zco,zcp,zcq,zcr,zct,zcu,zcv,zcy,zd3,zdd,zdj,zdo,zds,zdt,zdu,zdv,zdw,zdx,ze2,ze3,zej,zeo,zep,zfg,zfo,zfp,zft,zg0,zg1,zgj,zgk,zgl,zgm, w74, f_nnb]; all_goals tactic => exact rfl))
theorem w46 (a b c d lo hi : Int) : runW progX 46 [.agg [I a, I b, I c, I d], I lo, I hi] [] = some (.bool (Ms.within ⟨a, b, c, d⟩ lo hi), []) := by
  rw [r46 (by simp)]; unfold x46; dsimp only
  unfold x46l0 Ms.within
  cases h1 : btw lo a hi
  · (sym => (simp [z00,z01,z05,z06,z07,z09,z0b,z0c,z0f,z0n,z0r,z0v,z0z,z14,z1j,z1r,z1u,z20,z21,z26,z2j,z2v,z36,z37,z38,z39,z3g,z3i,z3k,z3m,z3p,z40,z4l,z4m,z4t,z54,z57,z66,z67,z6e,z6p,z6q,z7r,z7s,z7u,z8d,z9d,z9e,z9g,z9m,z9n,z9p,z9r,z9v,z9w,z9y,za0,za1,za2,za3,za5,za6,za7,za8,za9,zaa,zab,zae,zaf,zal,zaq,zas,zat,zba,zbc,zbd,zbe,zbt,zbu,zbw,zbx,zby,zbz,zc0,zc3,zc4,zc5,zc6,zc8,zca,zcb,zcc,zcd,zce,zcf,zcg,zcj,zcn,zco,zcq,zcr,zct,zcu,zcv,zcy,zd3,zd4,zd5,zd6,zd7,zdd,zdj,zdk,zdl,zdo,zds,zdt,zdu,zdv,zdw,zdx,ze2,ze3,zeo,zep,zf6,zf7,zfb,zfg,zfm,zfo,zfp,zfq,zfr,zfs,zft,zfu,zfv,zfw,zfx,zfy,zg0,zg1,zhf, execW_loop, w45, h1]; all_goals tactic => exact rfl))
  cases h2 : btw lo b hi
  · (sym => (simp [z00,z01,z05,z06,z07,z09,z0b,z0c,z0f,z0n,z0r,z0v,z0z,z14,z1j,z1r,z1u,z20,z21,z26,z2j,z2v,z36,z37,z38,z39,z3g,z3i,z3k,z3m,z3p,z40,z4l,z4m,z4t,z54,z57,z66,z67,z6e,z6p,z6q,z7r,z7s,z7u,z8d,z9d,z9e,z9g,z9m,z9n,z9p,z9r,z9v,z9w,z9y,za0,za1,za2,za3,za5,za6,za7,za8,za9,zaa,zab,zae,zaf,zal,zaq,zas,zat,zba,zbc,zbd,zbe,zbt,zbu,zbw,zbx,zby,zbz,zc0,zc3,zc4,zc5,zc6,zc8,zca,zcb,zcc,zcd,zce,zcf,zcg,zcj,zcn,zco,zcq,zcr,zct,zcu,zcv,zcy,zd3,zd4,zd5,zd6,zd7,zdd,zdj,zdk,zdl,zdo,zds,zdt,zdu,zdv,zdw,zdx,ze2,ze3,zeo,zep,zf6,zf7,zfb,zfg,zfm,zfo,zfp,zfq,zfr,zfs,zft,zfu,zfv,zfw,zfx,zfy,zg0,zg1,zhf, execW_loop, w45, h1, h2]; all_goals tactic => exact rfl))
  cases h3 : btw lo c hi
  · (sym => (simp [z00,z01,z05,z06,z07,z09,z0b,z0c,z0f,z0n,z0r,z0v,z0z,z14,z1j,z1r,z1u,z20,z21,z26,z2j,z2v,z36,z37,z38,z39,z3g,z3i,z3k,z3m,z3p,z40,z4l,z4m,z4t,z54,z57,z66,z67,z6e,z6p,z6q,z7r,z7s,z7u,z8d,z9d,z9e,z9g,z9m,z9n,z9p,z9r,z9v,z9w,z9y,za0,za1,za2,za3,za5,za6,za7,za8,za9,zaa,zab,zae,zaf,zal,zaq,zas,zat,zba,zbc,zbd,zbe,zbt,zbu,zbw,zbx,zby,zbz,zc0,zc3,zc4,zc5,zc6,zc8,zca,zcb,zcc,zcd,zce,zcf,zcg,zcj,zcn,zco,zcq,zcr,zct,zcu,zcv,zcy,zd3,zd4,zd5,zd6,zd7,zdd,zdj,zdk,zdl,zdo,zds,zdt,zdu,zdv,zdw,zdx,ze2,ze3,zeo,zep,zf6,zf7,zfb,zfg,zfm,zfo,zfp,zfq,zfr,zfs,zft,zfu,zfv,zfw,zfx,zfy,zg0,zg1,zhf, execW_loop, w45, h1, h2, h3]; all_goals tactic => exact rfl))
  cases h4 : btw lo d hi <;> (sym => (simp [z00,z01,z05,z06,z07,z09,z0b,z0c,z0f,z0n,z0r,z0v,z0z,z14,z1j,z1r,z1u,z20,z21,z26,z2j,z2v,z36,z37,z38,z39,z3g,z3i,z3k,z3m,z3p,z40,z4l,z4m,z4t,z54,z57,z66,z67,z6e,z6p,z6q,z7r,z7s,z7u,z8d,z9d,z9e,z9g,z9m,z9n,z9p,z9r,z9v,z9w,z9y,za0,za1,za2,za3,za5,za6,za7,za8,za9,zaa,zab,zae,zaf,zal,zaq,zas,zat,zba,zbc,zbd,zbe,zbt,zbu,zbw,zbx,zby,zbz,zc0,zc3,zc4,zc5,zc6,zc8,zca,zcb,zcc,zcd,zce,zcf,zcg,zcj,zcn,zco,zcq,zcr,zct,zcu,zcv,zcy,zd3,zd4,zd5,zd6,zd7,zdd,zdj,zdk,zdl,zdo,zds,zdt,zdu,zdv,zdw,zdx,ze2,ze3,zeo,zep,zf6,zf7,zfb,zfg,zfm,zfo,zfp,zfq,zfr,zfs,zft,zfu,zfv,zfw,zfx,zfy,zg0,zg1,zhf, execW_loop, w45, h1, h2, h3, h4]; all_goals tactic => exact rfl))

/-- A flow. -/
structure Fl where
  fr : Int
  to : Int
  me : Bool
  m : Ms
deriving DecidableEq
abbrev Fl.row (x : Fl) : List AV := [I x.fr, I x.to, .bool x.me, I x.m.a, I x.m.b, I x.m.c, I x.m.d]
theorem etaM (m : Ms) : (⟨m.a, m.b, m.c, m.d⟩ : Ms) = m := rfl
theorem etaF (x : Fl) : (⟨x.fr, x.to, x.me, x.m⟩ : Fl) = x := rfl
abbrev plA (u : Int) (l : List Fl) : AV := .agg [I u, .fs (l.map Fl.row)]
def Ms.zero : Ms := ⟨0, 0, 0, 0⟩

def exStep (f : Int → Bool) (wo : Int) (i : Nat) (x : Fl) (s : Ms) : Ms :=
  if !x.me || (decide ((i : Int) = wo) || f x.to == f x.fr) then s else if f x.to then s.plus 1 x.m else s.plus (-1) x.m
def exI (f : Int → Bool) (wo : Int) (l : List Fl) : Nat → Ms
  | 0 => Ms.zero
  | i + 1 => match l[i]? with
    | some x => exStep f wo i x (exI f wo l i)
    | none => exI f wo l i

theorem w39 (u : Int) (l : List Fl) (wo : Int) (g : Nat) (cap : List AV) (f : Int → Bool) (hn : l.length < 1000000) (c1 : nmL cap = []) (c2 : ∀ s, rnL s cap = cap) (hf : ∀ u, runW progX g (I u :: cap) [] = some (.bool (f u), [])) :
    runW progX 39 [plA u l, I wo, .fn (.func g) [] cap] [] = some (.agg [I (exI f wo l l.length).a, I (exI f wo l l.length).b, I (exI f wo l l.length).c, I (exI f wo l l.length).d], []) := by
  rw [r39 (by simp)]; unfold x39; dsimp only
  sym =>
    simp [z00,z01,z02,z04,z05,z06,z07,z09,z0a,z0b,z0c,z0f,z0h,z0j,z0l,z0n,z0o,z0q,z0r,z0v,z0w,z0z,z12,z15,z1f,z1j,z1k,z1m,z1n,z1o,z1p,z1r,z1u,z1v,z1w,z20,z21,z22,z23,z24,z26,z29,z2b,z2g,z2h,z2j,z2t,z2v,z33,z34,z3h,z4l,z4o,z4q,z4t,z4y,z54,z55,z57,z59,z66,z67,z69,z6b,z6e,z6j,z6p,z6s,z7r,z7u,z7w,z84,z8d,z9d,z9e,z9g,z9i,z9j,z9k,z9l,z9m,z9n,z9p,z9r,z9s,z9v,z9w,z9y,za0,za1,za2,za3,za5,za6,za7,za8,za9,zaa,zab,zae,zaf,zal,zaq,zas,zat,zav,zaw,zax,zaz,zb1,zb2,zb3,zba,zbc,zbd,zbf,zbg,zbk,zbt,zbu,zbw,zbx,zby,zbz,zc0,zc3,zc4,zc5,zc7,zc8,zca,zcc,zcd,zce,zcf,zcg,zch,zcj,zcn,zco,zcp,zcq,zcr,zct,zcu,zcv,zcw,zcx,zcy,zd3,zd6,zd7,zd8,zd9,zdb,zdd,zdj,zdk,zdl,zdm,zdn,zdo,zds,zdt,zdu,zdv,zdw,zdx,zdy,zdz,ze2,ze3,ze9,zeo,zep,zf5,zf6,zf7,zf8,zf9,zfa,zfb,zfc,zfd,zfg,zfm,zfo,zfp,zfq,zfr,zfs,zft,zfu,zfw,zfy,zfz,zg0,zg1,zhf, c1, c2]
    tactic =>
      unfold x39l0
      rw [loop_rule l.length (fun i => [I wo, .fn (.func g) [] cap, .pt 0 0, .pt 1 0, .fs (l.map Fl.row), I l.length, I (i : Nat)]) (fun i => [some (.blk true (.cells true [I 0, I 0, I 0, I 0])), some (.blk true (.cells true [I (exI f wo l i).a, I (exI f wo l i).b, I (exI f wo l i).c, I (exI f wo l i).d]))])]
      · (sym => (simp [z00,z01,z02,z04,z05,z06,z07,z09,z0a,z0b,z0c,z0f,z0h,z0j,z0l,z0n,z0o,z0q,z0r,z0v,z0w,z0z,z12,z15,z1f,z1j,z1k,z1m,z1n,z1o,z1p,z1r,z1u,z1v,z1w,z20,z21,z22,z23,z24,z26,z29,z2b,z2g,z2h,z2j,z2t,z2v,z33,z34,z3h,z4l,z4o,z4q,z4t,z4y,z54,z55,z57,z59,z66,z67,z69,z6b,z6e,z6j,z6p,z6s,z7r,z7u,z7w,z84,z8d,z9d,z9e,z9g,z9i,z9j,z9k,z9l,z9m,z9n,z9p,z9r,z9s,z9v,z9w,z9y,za0,za1,za2,za3,za5,za6,za7,za8,za9,zaa,zab,zae,zaf,zal,zaq,zas,zat,zav,zaw,zax,zaz,zb1,zb2,zb3,zba,zbc,zbd,zbf,zbg,zbk,zbt,zbu,zbw,zbx,zby,zbz,zc0,zc3,zc4,zc5,zc7,zc8,zca,zcc,zcd,zce,zcf,zcg,zch,zcj,zcn,zco,zcp,zcq,zcr,zct,zcu,zcv,zcw,zcx,zcy,zd3,zd6,zd7,zd8,zd9,zdb,zdd,zdj,zdk,zdl,zdm,zdn,zdo,zds,zdt,zdu,zdv,zdw,zdx,zdy,zdz,ze2,ze3,ze9,zeo,zep,zf5,zf6,zf7,zf8,zf9,zfa,zfb,zfc,zfd,zfg,zfm,zfo,zfp,zfq,zfr,zfs,zft,zfu,zfw,zfy,zfz,zg0,zg1,zhf, c1, c2]; all_goals tactic => exact rfl))
      · (sym => (simp [z00,z01,z02,z04,z05,z06,z07,z09,z0a,z0b,z0c,z0f,z0h,z0j,z0l,z0n,z0o,z0q,z0r,z0v,z0w,z0z,z12,z15,z1f,z1j,z1k,z1m,z1n,z1o,z1p,z1r,z1u,z1v,z1w,z20,z21,z22,z23,z24,z26,z29,z2b,z2g,z2h,z2j,z2t,z2v,z33,z34,z3h,z4l,z4o,z4q,z4t,z4y,z54,z55,z57,z59,z66,z67,z69,z6b,z6e,z6j,z6p,z6s,z7r,z7u,z7w,z84,z8d,z9d,z9e,z9g,z9i,z9j,z9k,z9l,z9m,z9n,z9p,z9r,z9s,z9v,z9w,z9y,za0,za1,za2,za3,za5,za6,za7,za8,za9,zaa,zab,zae,zaf,zal,zaq,zas,zat,zav,zaw,zax,zaz,zb1,zb2,zb3,zba,zbc,zbd,zbf,zbg,zbk,zbt,zbu,zbw,zbx,zby,zbz,zc0,zc3,zc4,zc5,zc7,zc8,zca,zcc,zcd,zce,zcf,zcg,zch,zcj,zcn,zco,zcp,zcq,zcr,zct,zcu,zcv,zcw,zcx,zcy,zd3,zd6,zd7,zd8,zd9,zdb,zdd,zdj,zdk,zdl,zdm,zdn,zdo,zds,zdt,zdu,zdv,zdw,zdx,zdy,zdz,ze2,ze3,ze9,zeo,zep,zf5,zf6,zf7,zf8,zf9,zfa,zfb,zfc,zfd,zfg,zfm,zfo,zfp,zfq,zfr,zfs,zft,zfu,zfw,zfy,zfz,zg0,zg1,zhf, c1, c2]; all_goals tactic => exact rfl))
      · intro i hi
        obtain ⟨x, hx⟩ := at_ix hi
        have e1 := up_ix hi (by omega)
        have e2 := lt_ix hi
        have e3 : exI f wo l (i + 1) = exStep f wo i x (exI f wo l i) := by simp [exI, hx]
        simp only [e3, exStep]
        cases h1 : x.me
        · (sym => (simp [z00,z01,z02,z04,z05,z06,z07,z09,z0a,z0b,z0c,z0f,z0h,z0j,z0l,z0n,z0o,z0q,z0r,z0v,z0w,z0z,z12,z15,z1f,z1j,z1k,z1m,z1n,z1o,z1p,z1r,z1u,z1v,z1w,z20,z21,z22,z23,z24,z26,z29,z2b,z2g,z2h,z2j,z2t,z2v,z33,z34,z3h,z4l,z4o,z4q,z4t,z4y,z54,z55,z57,z59,z66,z67,z69,z6b,z6e,z6j,z6p,z6s,z7r,z7u,z7w,z84,z8d,z9d,z9e,z9g,z9i,z9j,z9k,z9l,z9m,z9n,z9p,z9r,z9s,z9v,z9w,z9y,za0,za1,za2,za3,za5,za6,za7,za8,za9,zaa,zab,zae,zaf,zal,zaq,zas,zat,zav,zaw,zax,zaz,zb1,zb2,zb3,zba,zbc,zbd,zbf,zbg,zbk,zbt,zbu,zbw,zbx,zby,zbz,zc0,zc3,zc4,zc5,zc7,zc8,zca,zcc,zcd,zce,zcf,zcg,zch,zcj,zcn,zco,zcp,zcq,zcr,zct,zcu,zcv,zcw,zcx,zcy,zd3,zd6,zd7,zd8,zd9,zdb,zdd,zdj,zdk,zdl,zdm,zdn,zdo,zds,zdt,zdu,zdv,zdw,zdx,zdy,zdz,ze2,ze3,ze9,zeo,zep,zf5,zf6,zf7,zf8,zf9,zfa,zfb,zfc,zfd,zfg,zfm,zfo,zfp,zfq,zfr,zfs,zft,zfu,zfw,zfy,zfz,zg0,zg1,zhf, c1, c2, hx, e1, e2, h1, hf]; all_goals tactic => exact rfl))
          done
        by_cases h2 : (i : Int) = wo
        · have h3 := eq_true h2
          (sym => (simp [z00,z01,z02,z04,z05,z06,z07,z09,z0a,z0b,z0c,z0f,z0h,z0j,z0l,z0n,z0o,z0q,z0r,z0v,z0w,z0z,z12,z15,z1f,z1j,z1k,z1m,z1n,z1o,z1p,z1r,z1u,z1v,z1w,z20,z21,z22,z23,z24,z26,z29,z2b,z2g,z2h,z2j,z2t,z2v,z33,z34,z3h,z4l,z4o,z4q,z4t,z4y,z54,z55,z57,z59,z66,z67,z69,z6b,z6e,z6j,z6p,z6s,z7r,z7u,z7w,z84,z8d,z9d,z9e,z9g,z9i,z9j,z9k,z9l,z9m,z9n,z9p,z9r,z9s,z9v,z9w,z9y,za0,za1,za2,za3,za5,za6,za7,za8,za9,zaa,zab,zae,zaf,zal,zaq,zas,zat,zav,zaw,zax,zaz,zb1,zb2,zb3,zba,zbc,zbd,zbf,zbg,zbk,zbt,zbu,zbw,zbx,zby,zbz,zc0,zc3,zc4,zc5,zc7,zc8,zca,zcc,zcd,zce,zcf,zcg,zch,zcj,zcn,zco,zcp,zcq,zcr,zct,zcu,zcv,zcw,zcx,zcy,zd3,zd6,zd7,zd8,zd9,zdb,zdd,zdj,zdk,zdl,zdm,zdn,zdo,zds,zdt,zdu,zdv,zdw,zdx,zdy,zdz,ze2,ze3,ze9,zeo,zep,zf5,zf6,zf7,zf8,zf9,zfa,zfb,zfc,zfd,zfg,zfm,zfo,zfp,zfq,zfr,zfs,zft,zfu,zfw,zfy,zfz,zg0,zg1,zhf, c1, c2, hx, e1, e2, h1, hf, h3]; all_goals tactic => exact rfl))
        have h3 := eq_false h2
        cases h4 : f x.to <;> cases h5 : f x.fr <;> (sym => (simp [z00,z01,z02,z04,z05,z06,z07,z09,z0a,z0b,z0c,z0f,z0h,z0j,z0l,z0n,z0o,z0q,z0r,z0v,z0w,z0z,z12,z15,z1f,z1j,z1k,z1m,z1n,z1o,z1p,z1r,z1u,z1v,z1w,z20,z21,z22,z23,z24,z26,z29,z2b,z2g,z2h,z2j,z2t,z2v,z33,z34,z3h,z4l,z4o,z4q,z4t,z4y,z54,z55,z57,z59,z66,z67,z69,z6b,z6e,z6j,z6p,z6s,z7r,z7u,z7w,z84,z8d,z9d,z9e,z9g,z9i,z9j,z9k,z9l,z9m,z9n,z9p,z9r,z9s,z9v,z9w,z9y,za0,za1,za2,za3,za5,za6,za7,za8,za9,zaa,zab,zae,zaf,zal,zaq,zas,zat,zav,zaw,zax,zaz,zb1,zb2,zb3,zba,zbc,zbd,zbf,zbg,zbk,zbt,zbu,zbw,zbx,zby,zbz,zc0,zc3,zc4,zc5,zc7,zc8,zca,zcc,zcd,zce,zcf,zcg,zch,zcj,zcn,zco,zcp,zcq,zcr,zct,zcu,zcv,zcw,zcx,zcy,zd3,zd6,zd7,zd8,zd9,zdb,zdd,zdj,zdk,zdl,zdm,zdn,zdo,zds,zdt,zdu,zdv,zdw,zdx,zdy,zdz,ze2,ze3,ze9,zeo,zep,zf5,zf6,zf7,zf8,zf9,zfa,zfb,zfc,zfd,zfg,zfm,zfo,zfp,zfq,zfr,zfs,zft,zfu,zfw,zfy,zfz,zg0,zg1,zhf, c1, c2, hx, e1, e2, h1, hf, h3, h4, h5, w61]; all_goals tactic => exact rfl))
      · (sym => (simp [z00,z01,z02,z04,z05,z06,z07,z09,z0a,z0b,z0c,z0f,z0h,z0j,z0l,z0n,z0o,z0q,z0r,z0v,z0w,z0z,z12,z15,z1f,z1j,z1k,z1m,z1n,z1o,z1p,z1r,z1u,z1v,z1w,z20,z21,z22,z23,z24,z26,z29,z2b,z2g,z2h,z2j,z2t,z2v,z33,z34,z3h,z4l,z4o,z4q,z4t,z4y,z54,z55,z57,z59,z66,z67,z69,z6b,z6e,z6j,z6p,z6s,z7r,z7u,z7w,z84,z8d,z9d,z9e,z9g,z9i,z9j,z9k,z9l,z9m,z9n,z9p,z9r,z9s,z9v,z9w,z9y,za0,za1,za2,za3,za5,za6,za7,za8,za9,zaa,zab,zae,zaf,zal,zaq,zas,zat,zav,zaw,zax,zaz,zb1,zb2,zb3,zba,zbc,zbd,zbf,zbg,zbk,zbt,zbu,zbw,zbx,zby,zbz,zc0,zc3,zc4,zc5,zc7,zc8,zca,zcc,zcd,zce,zcf,zcg,zch,zcj,zcn,zco,zcp,zcq,zcr,zct,zcu,zcv,zcw,zcx,zcy,zd3,zd6,zd7,zd8,zd9,zdb,zdd,zdj,zdk,zdl,zdm,zdn,zdo,zds,zdt,zdu,zdv,zdw,zdx,zdy,zdz,ze2,ze3,ze9,zeo,zep,zf5,zf6,zf7,zf8,zf9,zfa,zfb,zfc,zfd,zfg,zfm,zfo,zfp,zfq,zfr,zfs,zft,zfu,zfw,zfy,zfz,zg0,zg1,zhf, c1, c2]; all_goals tactic => exact rfl))
end Go.Proofs.Ytdbikamciedfdaa
namespace Go.Proofs.Ytdbikamciedfdaa
open Go Go.DL
set_option maxRecDepth 100000
set_option maxHeartbeats 1000000

/-- The error of a flow. -/
def chkF (u : Int) (x : Fl) : Int := if btw (-1) x.fr (wr (u - 1)) && btw (-1) x.to (wr (u - 1)) then if x.fr = x.to then 22 else if x.me && !(x.m.within 0 1000000000) then 2 else 0 else 17
theorem w44 (u fr to a b c d : Int) (me : Bool) (l : List Fl) : runW progX 44 [plA u l, .agg [I fr, I to, .bool me, I a, I b, I c, I d]] [] = some (I (chkF u ⟨fr, to, me, ⟨a, b, c, d⟩⟩), []) := by
  rw [r44 (by simp)]; unfold x44; dsimp only
  unfold chkF
  dsimp only
  cases h1 : btw (-1) fr (wr (u - 1))
  · (sym => (simp [etaM, etaF, z00,z01,z05,z06,z07,z09,z0b,z0c,z0f,z0h,z0i,z0j,z0k,z0l,z0n,z0q,z0r,z0v,z0z,z12,z1j,z1r,z1u,z20,z21,z22,z23,z26,z29,z2k,z2t,z4l,z4o,z54,z55,z57,z59,z66,z67,z69,z6p,z7r,z7s,z7u,z7w,z8d,z9d,z9e,z9g,z9j,z9k,z9l,z9m,z9n,z9p,z9y,za2,za3,za5,za6,za7,za8,zaa,zab,zaq,zas,zat,zba,zbc,zbd,zbf,zbg,zbk,zbt,zbu,zbw,zbx,zby,zbz,zc0,zc3,zc4,zc5,zc6,zc8,zce,zcf,zcg,zcj,zcn,zco,zcp,zcq,zcr,zct,zcu,zcv,zd3,zd4,zd5,zd6,zd7,zdk,zdl,zdo,zds,zdt,zdu,zdv,zdw,zdx,ze2,ze3,zeo,zep,zf6,zf7,zfa,zfb,zfg,zfm,zfo,zfp,zfq,zfs,zft,zfv,zfw,zfx,zg0,zg1, w42, h1]; all_goals tactic => exact rfl))
  cases h2 : btw (-1) to (wr (u - 1))
  · (sym => (simp [etaM, etaF, z00,z01,z05,z06,z07,z09,z0b,z0c,z0f,z0h,z0i,z0j,z0k,z0l,z0n,z0q,z0r,z0v,z0z,z12,z1j,z1r,z1u,z20,z21,z22,z23,z26,z29,z2k,z2t,z4l,z4o,z54,z55,z57,z59,z66,z67,z69,z6p,z7r,z7s,z7u,z7w,z8d,z9d,z9e,z9g,z9j,z9k,z9l,z9m,z9n,z9p,z9y,za2,za3,za5,za6,za7,za8,zaa,zab,zaq,zas,zat,zba,zbc,zbd,zbf,zbg,zbk,zbt,zbu,zbw,zbx,zby,zbz,zc0,zc3,zc4,zc5,zc6,zc8,zce,zcf,zcg,zcj,zcn,zco,zcp,zcq,zcr,zct,zcu,zcv,zd3,zd4,zd5,zd6,zd7,zdk,zdl,zdo,zds,zdt,zdu,zdv,zdw,zdx,ze2,ze3,zeo,zep,zf6,zf7,zfa,zfb,zfg,zfm,zfo,zfp,zfq,zfs,zft,zfv,zfw,zfx,zg0,zg1, w42, h1, h2]; all_goals tactic => exact rfl))
  by_cases h3 : fr = to
  · have h4 := eq_true h3
    (sym => (simp [etaM, etaF, z00,z01,z05,z06,z07,z09,z0b,z0c,z0f,z0h,z0i,z0j,z0k,z0l,z0n,z0q,z0r,z0v,z0z,z12,z1j,z1r,z1u,z20,z21,z22,z23,z26,z29,z2k,z2t,z4l,z4o,z54,z55,z57,z59,z66,z67,z69,z6p,z7r,z7s,z7u,z7w,z8d,z9d,z9e,z9g,z9j,z9k,z9l,z9m,z9n,z9p,z9y,za2,za3,za5,za6,za7,za8,zaa,zab,zaq,zas,zat,zba,zbc,zbd,zbf,zbg,zbk,zbt,zbu,zbw,zbx,zby,zbz,zc0,zc3,zc4,zc5,zc6,zc8,zce,zcf,zcg,zcj,zcn,zco,zcp,zcq,zcr,zct,zcu,zcv,zd3,zd4,zd5,zd6,zd7,zdk,zdl,zdo,zds,zdt,zdu,zdv,zdw,zdx,ze2,ze3,zeo,zep,zf6,zf7,zfa,zfb,zfg,zfm,zfo,zfp,zfq,zfs,zft,zfv,zfw,zfx,zg0,zg1, w42, h1, h2, h4]; all_goals tactic => exact rfl))
  have h4 := eq_false h3
  cases me
  · (sym => (simp [etaM, etaF, z00,z01,z05,z06,z07,z09,z0b,z0c,z0f,z0h,z0i,z0j,z0k,z0l,z0n,z0q,z0r,z0v,z0z,z12,z1j,z1r,z1u,z20,z21,z22,z23,z26,z29,z2k,z2t,z4l,z4o,z54,z55,z57,z59,z66,z67,z69,z6p,z7r,z7s,z7u,z7w,z8d,z9d,z9e,z9g,z9j,z9k,z9l,z9m,z9n,z9p,z9y,za2,za3,za5,za6,za7,za8,zaa,zab,zaq,zas,zat,zba,zbc,zbd,zbf,zbg,zbk,zbt,zbu,zbw,zbx,zby,zbz,zc0,zc3,zc4,zc5,zc6,zc8,zce,zcf,zcg,zcj,zcn,zco,zcp,zcq,zcr,zct,zcu,zcv,zd3,zd4,zd5,zd6,zd7,zdk,zdl,zdo,zds,zdt,zdu,zdv,zdw,zdx,ze2,ze3,zeo,zep,zf6,zf7,zfa,zfb,zfg,zfm,zfo,zfp,zfq,zfs,zft,zfv,zfw,zfx,zg0,zg1, w42, h1, h2, h4]; all_goals tactic => exact rfl))
  cases h5 : Ms.within ⟨a, b, c, d⟩ 0 1000000000 <;> (sym => (simp [etaM, etaF, z00,z01,z05,z06,z07,z09,z0b,z0c,z0f,z0h,z0i,z0j,z0k,z0l,z0n,z0q,z0r,z0v,z0z,z12,z1j,z1r,z1u,z20,z21,z22,z23,z26,z29,z2k,z2t,z4l,z4o,z54,z55,z57,z59,z66,z67,z69,z6p,z7r,z7s,z7u,z7w,z8d,z9d,z9e,z9g,z9j,z9k,z9l,z9m,z9n,z9p,z9y,za2,za3,za5,za6,za7,za8,zaa,zab,zaq,zas,zat,zba,zbc,zbd,zbf,zbg,zbk,zbt,zbu,zbw,zbx,zby,zbz,zc0,zc3,zc4,zc5,zc6,zc8,zce,zcf,zcg,zcj,zcn,zco,zcp,zcq,zcr,zct,zcu,zcv,zd3,zd4,zd5,zd6,zd7,zdk,zdl,zdo,zds,zdt,zdu,zdv,zdw,zdx,ze2,ze3,zeo,zep,zf6,zf7,zfa,zfb,zfg,zfm,zfo,zfp,zfq,zfs,zft,zfv,zfw,zfx,zg0,zg1, w42, w55, h1, h2, h4, h5]; all_goals tactic => exact rfl))

def firstE (u : Int) : List Fl → Int
  | [] => 0
  | x :: r => if chkF u x = 0 then firstE u r else chkF u x
theorem firstE_0 {u : Int} : ∀ {l : List Fl}, (∀ i, i < l.length → ∃ x, l[i]? = some x ∧ decide (chkF u x ≠ 0) = false) → firstE u l = 0
  | [], _ => rfl
  | x :: r, h => by
    obtain ⟨y, h1, h2⟩ := h 0 (by simp)
    simp only [List.getElem?_cons_zero, Option.some.injEq] at h1
    subst h1
    simp only [decide_eq_false_iff_not, ne_eq, Decidable.not_not] at h2
    rw [firstE, if_pos h2]
    exact firstE_0 fun i hi => by simpa using h (i + 1) (by simpa using hi)
theorem firstE_1 {u : Int} : ∀ {l : List Fl} {n : Nat} {x : Fl}, (∀ i, i < n → ∃ x, l[i]? = some x ∧ decide (chkF u x ≠ 0) = false) → l[n]? = some x → chkF u x ≠ 0 → firstE u l = chkF u x
  | [], n, x, _, h, _ => by simp at h
  | y :: r, 0, x, _, h, h3 => by
    simp only [List.getElem?_cons_zero, Option.some.injEq] at h
    subst h
    rw [firstE, if_neg h3]
  | y :: r, n + 1, x, h1, h, h3 => by
    obtain ⟨z, h4, h5⟩ := h1 0 (by omega)
    simp only [List.getElem?_cons_zero, Option.some.injEq] at h4
    subst h4
    simp only [decide_eq_false_iff_not, ne_eq, Decidable.not_not] at h5
    rw [firstE, if_pos h5]
    exact firstE_1 (n := n) (fun i hi => by simpa using h1 (i + 1) (by omega)) (by simpa using h) h3

theorem w43 (u : Int) (l l' : List Fl) (hn : l.length < 1000000) : runW progX 43 [.fs (l.map Fl.row), .fn (.func 44) [plA u l'] []] [] = some (I (firstE u l), []) := by
  rw [r43 (by simp)]; unfold x43; dsimp only
  obtain ⟨n, h1, h2, h3⟩ := first_ix (fun x => decide (chkF u x ≠ 0)) l
  sym =>
    simp [etaM, etaF, z00,z01,z02,z05,z06,z07,z09,z0b,z0c,z0n,z0o,z0v,z15,z1f,z1j,z1n,z1o,z1r,z1u,z20,z21,z2b,z2g,z2h,z2j,z2u,z2v,z33,z34,z3h,z4l,z4m,z4o,z4q,z4y,z54,z55,z66,z67,z69,z6b,z6j,z6p,z7r,z7w,z84,z8d,z9d,z9e,z9g,z9i,z9j,z9k,z9l,z9m,z9n,z9y,za2,za3,za5,za6,za7,za8,zaa,zab,zaq,zas,zat,zba,zbc,zbd,zbf,zbg,zbk,zbt,zbu,zbw,zbx,zby,zbz,zc0,zc3,zc4,zc5,zc6,zc8,zca,zcc,zcd,zce,zcf,zcg,zch,zci,zcj,zcn,zco,zcp,zcq,zcr,zct,zcu,zcv,zcw,zcx,zcy,zd3,zd6,zd7,zdd,zdk,zdl,zdo,zds,zdt,zdu,zdv,zdw,zdx,ze2,ze3,ze9,zf5,zf6,zf7,zf8,zf9,zfa,zfc,zfd,zfm,zfo,zfp,zfq,zfr,zfs,zft,zfu,zfv,zfw,zfx,zfy,zfz,zg0,zg1]
    tactic =>
      unfold x43l0
      rw [loop_rule n (fun i => [.fn (.func 44) [plA u l'] [], .fs (l.map Fl.row), I l.length, I (i : Nat)]) (fun i => [])]
      · rcases h3 with h3 | ⟨x, h3, h4, h5⟩
        · subst h3
          rw [firstE_0 h2]
          (sym => (simp [etaM, etaF, z00,z01,z02,z05,z06,z07,z09,z0b,z0c,z0n,z0o,z0v,z15,z1f,z1j,z1n,z1o,z1r,z1u,z20,z21,z2b,z2g,z2h,z2j,z2u,z2v,z33,z34,z3h,z4l,z4m,z4o,z4q,z4y,z54,z55,z66,z67,z69,z6b,z6j,z6p,z7r,z7w,z84,z8d,z9d,z9e,z9g,z9i,z9j,z9k,z9l,z9m,z9n,z9y,za2,za3,za5,za6,za7,za8,zaa,zab,zaq,zas,zat,zba,zbc,zbd,zbf,zbg,zbk,zbt,zbu,zbw,zbx,zby,zbz,zc0,zc3,zc4,zc5,zc6,zc8,zca,zcc,zcd,zce,zcf,zcg,zch,zci,zcj,zcn,zco,zcp,zcq,zcr,zct,zcu,zcv,zcw,zcx,zcy,zd3,zd6,zd7,zdd,zdk,zdl,zdo,zds,zdt,zdu,zdv,zdw,zdx,ze2,ze3,ze9,zf5,zf6,zf7,zf8,zf9,zfa,zfc,zfd,zfm,zfo,zfp,zfq,zfr,zfs,zft,zfu,zfv,zfw,zfx,zfy,zfz,zg0,zg1, w44]; all_goals tactic => exact rfl))
        · have e2 := lt_ix h3
          have e3 := eq_false (of_decide_eq_true h5)
          rw [firstE_1 h2 h4 (of_decide_eq_true h5)]
          (sym => (simp [etaM, etaF, z00,z01,z02,z05,z06,z07,z09,z0b,z0c,z0n,z0o,z0v,z15,z1f,z1j,z1n,z1o,z1r,z1u,z20,z21,z2b,z2g,z2h,z2j,z2u,z2v,z33,z34,z3h,z4l,z4m,z4o,z4q,z4y,z54,z55,z66,z67,z69,z6b,z6j,z6p,z7r,z7w,z84,z8d,z9d,z9e,z9g,z9i,z9j,z9k,z9l,z9m,z9n,z9y,za2,za3,za5,za6,za7,za8,zaa,zab,zaq,zas,zat,zba,zbc,zbd,zbf,zbg,zbk,zbt,zbu,zbw,zbx,zby,zbz,zc0,zc3,zc4,zc5,zc6,zc8,zca,zcc,zcd,zce,zcf,zcg,zch,zci,zcj,zcn,zco,zcp,zcq,zcr,zct,zcu,zcv,zcw,zcx,zcy,zd3,zd6,zd7,zdd,zdk,zdl,zdo,zds,zdt,zdu,zdv,zdw,zdx,ze2,ze3,ze9,zf5,zf6,zf7,zf8,zf9,zfa,zfc,zfd,zfm,zfo,zfp,zfq,zfr,zfs,zft,zfu,zfv,zfw,zfx,zfy,zfz,zg0,zg1, w44, e2, h4, e3]; all_goals tactic => exact rfl))
      · (sym => (simp [etaM, etaF, z00,z01,z02,z05,z06,z07,z09,z0b,z0c,z0n,z0o,z0v,z15,z1f,z1j,z1n,z1o,z1r,z1u,z20,z21,z2b,z2g,z2h,z2j,z2u,z2v,z33,z34,z3h,z4l,z4m,z4o,z4q,z4y,z54,z55,z66,z67,z69,z6b,z6j,z6p,z7r,z7w,z84,z8d,z9d,z9e,z9g,z9i,z9j,z9k,z9l,z9m,z9n,z9y,za2,za3,za5,za6,za7,za8,zaa,zab,zaq,zas,zat,zba,zbc,zbd,zbf,zbg,zbk,zbt,zbu,zbw,zbx,zby,zbz,zc0,zc3,zc4,zc5,zc6,zc8,zca,zcc,zcd,zce,zcf,zcg,zch,zci,zcj,zcn,zco,zcp,zcq,zcr,zct,zcu,zcv,zcw,zcx,zcy,zd3,zd6,zd7,zdd,zdk,zdl,zdo,zds,zdt,zdu,zdv,zdw,zdx,ze2,ze3,ze9,zf5,zf6,zf7,zf8,zf9,zfa,zfc,zfd,zfm,zfo,zfp,zfq,zfr,zfs,zft,zfu,zfv,zfw,zfx,zfy,zfz,zg0,zg1, w44]; all_goals tactic => exact rfl))
      · intro i hi
        obtain ⟨x, hx, h4⟩ := h2 i hi
        have e1 := up_ix hi (by omega)
        have e2 := lt_ix (l := l) (i := i) (by omega)
        have e3 : (chkF u x = 0) = True := by simpa using h4
        (sym => (simp [etaM, etaF, z00,z01,z02,z05,z06,z07,z09,z0b,z0c,z0n,z0o,z0v,z15,z1f,z1j,z1n,z1o,z1r,z1u,z20,z21,z2b,z2g,z2h,z2j,z2u,z2v,z33,z34,z3h,z4l,z4m,z4o,z4q,z4y,z54,z55,z66,z67,z69,z6b,z6j,z6p,z7r,z7w,z84,z8d,z9d,z9e,z9g,z9i,z9j,z9k,z9l,z9m,z9n,z9y,za2,za3,za5,za6,za7,za8,zaa,zab,zaq,zas,zat,zba,zbc,zbd,zbf,zbg,zbk,zbt,zbu,zbw,zbx,zby,zbz,zc0,zc3,zc4,zc5,zc6,zc8,zca,zcc,zcd,zce,zcf,zcg,zch,zci,zcj,zcn,zco,zcp,zcq,zcr,zct,zcu,zcv,zcw,zcx,zcy,zd3,zd6,zd7,zdd,zdk,zdl,zdo,zds,zdt,zdu,zdv,zdw,zdx,ze2,ze3,ze9,zf5,zf6,zf7,zf8,zf9,zfa,zfc,zfd,zfm,zfo,zfp,zfq,zfr,zfs,zft,zfu,zfv,zfw,zfx,zfy,zfz,zg0,zg1, w44, e1, e2, hx, e3]; all_goals tactic => exact rfl))
      · rcases h3 with h3 | ⟨x, h3, h4, h5⟩
        · subst h3
          (sym => (simp [etaM, etaF, z00,z01,z02,z05,z06,z07,z09,z0b,z0c,z0n,z0o,z0v,z15,z1f,z1j,z1n,z1o,z1r,z1u,z20,z21,z2b,z2g,z2h,z2j,z2u,z2v,z33,z34,z3h,z4l,z4m,z4o,z4q,z4y,z54,z55,z66,z67,z69,z6b,z6j,z6p,z7r,z7w,z84,z8d,z9d,z9e,z9g,z9i,z9j,z9k,z9l,z9m,z9n,z9y,za2,za3,za5,za6,za7,za8,zaa,zab,zaq,zas,zat,zba,zbc,zbd,zbf,zbg,zbk,zbt,zbu,zbw,zbx,zby,zbz,zc0,zc3,zc4,zc5,zc6,zc8,zca,zcc,zcd,zce,zcf,zcg,zch,zci,zcj,zcn,zco,zcp,zcq,zcr,zct,zcu,zcv,zcw,zcx,zcy,zd3,zd6,zd7,zdd,zdk,zdl,zdo,zds,zdt,zdu,zdv,zdw,zdx,ze2,ze3,ze9,zf5,zf6,zf7,zf8,zf9,zfa,zfc,zfd,zfm,zfo,zfp,zfq,zfr,zfs,zft,zfu,zfv,zfw,zfx,zfy,zfz,zg0,zg1, w44]; all_goals tactic => exact rfl))
        · have e2 := lt_ix h3
          have e3 := eq_false (of_decide_eq_true h5)
          (sym => (simp [etaM, etaF, z00,z01,z02,z05,z06,z07,z09,z0b,z0c,z0n,z0o,z0v,z15,z1f,z1j,z1n,z1o,z1r,z1u,z20,z21,z2b,z2g,z2h,z2j,z2u,z2v,z33,z34,z3h,z4l,z4m,z4o,z4q,z4y,z54,z55,z66,z67,z69,z6b,z6j,z6p,z7r,z7w,z84,z8d,z9d,z9e,z9g,z9i,z9j,z9k,z9l,z9m,z9n,z9y,za2,za3,za5,za6,za7,za8,zaa,zab,zaq,zas,zat,zba,zbc,zbd,zbf,zbg,zbk,zbt,zbu,zbw,zbx,zby,zbz,zc0,zc3,zc4,zc5,zc6,zc8,zca,zcc,zcd,zce,zcf,zcg,zch,zci,zcj,zcn,zco,zcp,zcq,zcr,zct,zcu,zcv,zcw,zcx,zcy,zd3,zd6,zd7,zdd,zdk,zdl,zdo,zds,zdt,zdu,zdv,zdw,zdx,ze2,ze3,ze9,zf5,zf6,zf7,zf8,zf9,zfa,zfc,zfd,zfm,zfo,zfp,zfq,zfr,zfs,zft,zfu,zfv,zfw,zfx,zfy,zfz,zg0,zg1, w44, e2, h4, e3]; all_goals tactic => exact rfl))
def checkP (u : Int) (l : List Fl) : Int := if btw 1 u 8 then if l.length > 20 then 1 else firstE u l else 2
theorem w20 (u : Int) (l : List Fl) (hn : l.length < 1000000) : runW progX 20 [plA u l] [] = some (I (checkP u l), []) := by
  rw [r20 (by simp)]; unfold x20; dsimp only
  unfold checkP
  have e := w43 u l l hn
  cases h1 : btw 1 u 8
  · (sym => (simp [etaM, etaF, z00,z01,z05,z06,z07,z09,z0b,z0c,z0f,z0n,z0p,z0r,z0v,z0z,z12,z1f,z1j,z1r,z1u,z20,z21,z26,z29,z2b,z2x,z4l,z4o,z4q,z4y,z54,z57,z59,z66,z67,z69,z6b,z6j,z6p,z7r,z7u,z7w,z8d,z9d,z9e,z9g,z9j,z9k,z9l,z9m,z9n,z9p,z9y,za2,za3,za5,za6,za7,za8,zaa,zab,zaq,zas,zat,zba,zbc,zbd,zbf,zbg,zbk,zbt,zbu,zbw,zbx,zby,zbz,zc0,zc3,zc4,zc5,zc6,zc8,zce,zcf,zcg,zcj,zcn,zco,zcq,zcr,zct,zcu,zcv,zcw,zd3,zd6,zd7,zdk,zdl,zdo,zds,zdt,zdu,zdv,zdw,zdx,ze2,ze3,zeo,zep,zf6,zf7,zfa,zfb,zfg,zfm,zfo,zfp,zfq,zfs,zft,zfv,zfw,zfx,zg0,zg1, w42, h1]; all_goals tactic => exact rfl))
  by_cases h2 : l.length > 20
  · have h3 : ((20 : Int) < (l.length : Int)) = True := eq_true (by omega)
    rw [if_pos h2]
    (sym => (simp [etaM, etaF, z00,z01,z05,z06,z07,z09,z0b,z0c,z0f,z0n,z0p,z0r,z0v,z0z,z12,z1f,z1j,z1r,z1u,z20,z21,z26,z29,z2b,z2x,z4l,z4o,z4q,z4y,z54,z57,z59,z66,z67,z69,z6b,z6j,z6p,z7r,z7u,z7w,z8d,z9d,z9e,z9g,z9j,z9k,z9l,z9m,z9n,z9p,z9y,za2,za3,za5,za6,za7,za8,zaa,zab,zaq,zas,zat,zba,zbc,zbd,zbf,zbg,zbk,zbt,zbu,zbw,zbx,zby,zbz,zc0,zc3,zc4,zc5,zc6,zc8,zce,zcf,zcg,zcj,zcn,zco,zcq,zcr,zct,zcu,zcv,zcw,zd3,zd6,zd7,zdk,zdl,zdo,zds,zdt,zdu,zdv,zdw,zdx,ze2,ze3,zeo,zep,zf6,zf7,zfa,zfb,zfg,zfm,zfo,zfp,zfq,zfs,zft,zfv,zfw,zfx,zg0,zg1, w42, h1, h3]; all_goals tactic => exact rfl))
  · have h3 : ((20 : Int) < (l.length : Int)) = False := eq_false (by omega)
    rw [if_neg h2]
    (sym => (simp [etaM, etaF, z00,z01,z05,z06,z07,z09,z0b,z0c,z0f,z0n,z0p,z0r,z0v,z0z,z12,z1f,z1j,z1r,z1u,z20,z21,z26,z29,z2b,z2x,z4l,z4o,z4q,z4y,z54,z57,z59,z66,z67,z69,z6b,z6j,z6p,z7r,z7u,z7w,z8d,z9d,z9e,z9g,z9j,z9k,z9l,z9m,z9n,z9p,z9y,za2,za3,za5,za6,za7,za8,zaa,zab,zaq,zas,zat,zba,zbc,zbd,zbf,zbg,zbk,zbt,zbu,zbw,zbx,zby,zbz,zc0,zc3,zc4,zc5,zc6,zc8,zce,zcf,zcg,zcj,zcn,zco,zcq,zcr,zct,zcu,zcv,zcw,zd3,zd6,zd7,zdk,zdl,zdo,zds,zdt,zdu,zdv,zdw,zdx,ze2,ze3,zeo,zep,zf6,zf7,zfa,zfb,zfg,zfm,zfo,zfp,zfq,zfs,zft,zfv,zfw,zfx,zg0,zg1, w42, h1, h3, e]; all_goals tactic => exact rfl))
end Go.Proofs.Ytdbikamciedfdaa
namespace Go.Proofs.Ytdbikamciedfdaa
open Go Go.DL
set_option maxRecDepth 100000
set_option maxHeartbeats 1000000

theorem w21 (u : Int) (l : List Fl) (hn : l.length < 1000000) : runW progX 21 [plA u l] [] = some (I (checkP u l), []) := by
  rw [r21 (by simp)]; unfold x21; dsimp only
  unfold checkP
  cases h1 : btw 1 u 8
  · (sym => (simp [etaM, etaF, z00,z01,z02,z05,z06,z07,z09,z0b,z0c,z0f,z0h,z0i,z0j,z0k,z0l,z0n,z0o,z0q,z0r,z0v,z0z,z12,z15,z1f,z1j,z1n,z1o,z1r,z1u,z20,z21,z22,z23,z26,z29,z2b,z2g,z2h,z2j,z2k,z2t,z2v,z2x,z33,z34,z3h,z4l,z4o,z4t,z54,z55,z57,z59,z66,z67,z69,z6e,z6p,z7r,z7u,z7w,z8d,z9d,z9e,z9g,z9i,z9j,z9k,z9l,z9m,z9n,z9p,z9r,z9v,z9w,z9y,za0,za1,za2,za3,za5,za6,za7,za8,za9,zaa,zab,zae,zaf,zal,zaq,zas,zat,zba,zbc,zbd,zbf,zbg,zbk,zbt,zbu,zbw,zbx,zby,zbz,zc0,zc3,zc4,zc5,zc6,zc8,zca,zcc,zcd,zce,zcf,zcg,zch,zci,zcj,zcn,zco,zcp,zcq,zcr,zct,zcu,zcv,zcw,zcx,zcy,zd3,zd4,zd5,zd6,zd7,zdd,zdj,zdk,zdl,zdo,zds,zdt,zdu,zdv,zdw,zdx,ze2,ze3,ze9,zeo,zep,zf5,zf6,zf7,zf8,zf9,zfa,zfb,zfc,zfd,zfg,zfm,zfo,zfp,zfq,zfr,zfs,zft,zfu,zfv,zfw,zfx,zfy,zfz,zg0,zg1,zhf, w45, h1]; all_goals tactic => exact rfl))
  by_cases h2 : l.length > 20
  · have h3 : ((20 : Int) < (l.length : Int)) = True := eq_true (by omega)
    rw [if_pos h2]
    (sym => (simp [etaM, etaF, z00,z01,z02,z05,z06,z07,z09,z0b,z0c,z0f,z0h,z0i,z0j,z0k,z0l,z0n,z0o,z0q,z0r,z0v,z0z,z12,z15,z1f,z1j,z1n,z1o,z1r,z1u,z20,z21,z22,z23,z26,z29,z2b,z2g,z2h,z2j,z2k,z2t,z2v,z2x,z33,z34,z3h,z4l,z4o,z4t,z54,z55,z57,z59,z66,z67,z69,z6e,z6p,z7r,z7u,z7w,z8d,z9d,z9e,z9g,z9i,z9j,z9k,z9l,z9m,z9n,z9p,z9r,z9v,z9w,z9y,za0,za1,za2,za3,za5,za6,za7,za8,za9,zaa,zab,zae,zaf,zal,zaq,zas,zat,zba,zbc,zbd,zbf,zbg,zbk,zbt,zbu,zbw,zbx,zby,zbz,zc0,zc3,zc4,zc5,zc6,zc8,zca,zcc,zcd,zce,zcf,zcg,zch,zci,zcj,zcn,zco,zcp,zcq,zcr,zct,zcu,zcv,zcw,zcx,zcy,zd3,zd4,zd5,zd6,zd7,zdd,zdj,zdk,zdl,zdo,zds,zdt,zdu,zdv,zdw,zdx,ze2,ze3,ze9,zeo,zep,zf5,zf6,zf7,zf8,zf9,zfa,zfb,zfc,zfd,zfg,zfm,zfo,zfp,zfq,zfr,zfs,zft,zfu,zfv,zfw,zfx,zfy,zfz,zg0,zg1,zhf, w45, h1, h3]; all_goals tactic => exact rfl))
  · have h3 : ((20 : Int) < (l.length : Int)) = False := eq_false (by omega)
    rw [if_neg h2]
    obtain ⟨n, hn1, hn2, hn3⟩ := first_ix (fun x => decide (chkF u x ≠ 0)) l
    sym =>
      simp [etaM, etaF, z00,z01,z02,z05,z06,z07,z09,z0b,z0c,z0f,z0h,z0i,z0j,z0k,z0l,z0n,z0o,z0q,z0r,z0v,z0z,z12,z15,z1f,z1j,z1n,z1o,z1r,z1u,z20,z21,z22,z23,z26,z29,z2b,z2g,z2h,z2j,z2k,z2t,z2v,z2x,z33,z34,z3h,z4l,z4o,z4t,z54,z55,z57,z59,z66,z67,z69,z6e,z6p,z7r,z7u,z7w,z8d,z9d,z9e,z9g,z9i,z9j,z9k,z9l,z9m,z9n,z9p,z9r,z9v,z9w,z9y,za0,za1,za2,za3,za5,za6,za7,za8,za9,zaa,zab,zae,zaf,zal,zaq,zas,zat,zba,zbc,zbd,zbf,zbg,zbk,zbt,zbu,zbw,zbx,zby,zbz,zc0,zc3,zc4,zc5,zc6,zc8,zca,zcc,zcd,zce,zcf,zcg,zch,zci,zcj,zcn,zco,zcp,zcq,zcr,zct,zcu,zcv,zcw,zcx,zcy,zd3,zd4,zd5,zd6,zd7,zdd,zdj,zdk,zdl,zdo,zds,zdt,zdu,zdv,zdw,zdx,ze2,ze3,ze9,zeo,zep,zf5,zf6,zf7,zf8,zf9,zfa,zfb,zfc,zfd,zfg,zfm,zfo,zfp,zfq,zfr,zfs,zft,zfu,zfv,zfw,zfx,zfy,zfz,zg0,zg1,zhf, w45, h1, h3]
      tactic =>
        unfold x21l0
        rw [loop_rule n (fun i => [.pt 0 0, I (i : Nat)]) (fun i => [some (.blk true (.cells true [I u, .fs (l.map Fl.row)]))])]
        · rcases hn3 with h3 | ⟨x, h3, h4, h5⟩
          · subst h3
            rw [firstE_0 hn2]
            (sym => (simp [etaM, etaF, z00,z01,z02,z05,z06,z07,z09,z0b,z0c,z0f,z0h,z0i,z0j,z0k,z0l,z0n,z0o,z0q,z0r,z0v,z0z,z12,z15,z1f,z1j,z1n,z1o,z1r,z1u,z20,z21,z22,z23,z26,z29,z2b,z2g,z2h,z2j,z2k,z2t,z2v,z2x,z33,z34,z3h,z4l,z4o,z4t,z54,z55,z57,z59,z66,z67,z69,z6e,z6p,z7r,z7u,z7w,z8d,z9d,z9e,z9g,z9i,z9j,z9k,z9l,z9m,z9n,z9p,z9r,z9v,z9w,z9y,za0,za1,za2,za3,za5,za6,za7,za8,za9,zaa,zab,zae,zaf,zal,zaq,zas,zat,zba,zbc,zbd,zbf,zbg,zbk,zbt,zbu,zbw,zbx,zby,zbz,zc0,zc3,zc4,zc5,zc6,zc8,zca,zcc,zcd,zce,zcf,zcg,zch,zci,zcj,zcn,zco,zcp,zcq,zcr,zct,zcu,zcv,zcw,zcx,zcy,zd3,zd4,zd5,zd6,zd7,zdd,zdj,zdk,zdl,zdo,zds,zdt,zdu,zdv,zdw,zdx,ze2,ze3,ze9,zeo,zep,zf5,zf6,zf7,zf8,zf9,zfa,zfb,zfc,zfd,zfg,zfm,zfo,zfp,zfq,zfr,zfs,zft,zfu,zfv,zfw,zfx,zfy,zfz,zg0,zg1,zhf, w45]; all_goals tactic => exact rfl))
          · have e2 := lt_ix h3
            have h5 := of_decide_eq_true h5
            rw [firstE_1 hn2 h4 h5]
            unfold chkF at h5 ⊢
            cases g1 : btw (-1) x.fr (wr (u - 1))
            · (sym => (simp [etaM, etaF, z00,z01,z02,z05,z06,z07,z09,z0b,z0c,z0f,z0h,z0i,z0j,z0k,z0l,z0n,z0o,z0q,z0r,z0v,z0z,z12,z15,z1f,z1j,z1n,z1o,z1r,z1u,z20,z21,z22,z23,z26,z29,z2b,z2g,z2h,z2j,z2k,z2t,z2v,z2x,z33,z34,z3h,z4l,z4o,z4t,z54,z55,z57,z59,z66,z67,z69,z6e,z6p,z7r,z7u,z7w,z8d,z9d,z9e,z9g,z9i,z9j,z9k,z9l,z9m,z9n,z9p,z9r,z9v,z9w,z9y,za0,za1,za2,za3,za5,za6,za7,za8,za9,zaa,zab,zae,zaf,zal,zaq,zas,zat,zba,zbc,zbd,zbf,zbg,zbk,zbt,zbu,zbw,zbx,zby,zbz,zc0,zc3,zc4,zc5,zc6,zc8,zca,zcc,zcd,zce,zcf,zcg,zch,zci,zcj,zcn,zco,zcp,zcq,zcr,zct,zcu,zcv,zcw,zcx,zcy,zd3,zd4,zd5,zd6,zd7,zdd,zdj,zdk,zdl,zdo,zds,zdt,zdu,zdv,zdw,zdx,ze2,ze3,ze9,zeo,zep,zf5,zf6,zf7,zf8,zf9,zfa,zfb,zfc,zfd,zfg,zfm,zfo,zfp,zfq,zfr,zfs,zft,zfu,zfv,zfw,zfx,zfy,zfz,zg0,zg1,zhf, w45, e2, h4, g1]; all_goals tactic => exact rfl))
            cases g2 : btw (-1) x.to (wr (u - 1))
            · (sym => (simp [etaM, etaF, z00,z01,z02,z05,z06,z07,z09,z0b,z0c,z0f,z0h,z0i,z0j,z0k,z0l,z0n,z0o,z0q,z0r,z0v,z0z,z12,z15,z1f,z1j,z1n,z1o,z1r,z1u,z20,z21,z22,z23,z26,z29,z2b,z2g,z2h,z2j,z2k,z2t,z2v,z2x,z33,z34,z3h,z4l,z4o,z4t,z54,z55,z57,z59,z66,z67,z69,z6e,z6p,z7r,z7u,z7w,z8d,z9d,z9e,z9g,z9i,z9j,z9k,z9l,z9m,z9n,z9p,z9r,z9v,z9w,z9y,za0,za1,za2,za3,za5,za6,za7,za8,za9,zaa,zab,zae,zaf,zal,zaq,zas,zat,zba,zbc,zbd,zbf,zbg,zbk,zbt,zbu,zbw,zbx,zby,zbz,zc0,zc3,zc4,zc5,zc6,zc8,zca,zcc,zcd,zce,zcf,zcg,zch,zci,zcj,zcn,zco,zcp,zcq,zcr,zct,zcu,zcv,zcw,zcx,zcy,zd3,zd4,zd5,zd6,zd7,zdd,zdj,zdk,zdl,zdo,zds,zdt,zdu,zdv,zdw,zdx,ze2,ze3,ze9,zeo,zep,zf5,zf6,zf7,zf8,zf9,zfa,zfb,zfc,zfd,zfg,zfm,zfo,zfp,zfq,zfr,zfs,zft,zfu,zfv,zfw,zfx,zfy,zfz,zg0,zg1,zhf, w45, e2, h4, g1, g2]; all_goals tactic => exact rfl))
            by_cases g3 : x.fr = x.to
            · have g4 := eq_true g3
              (sym => (simp [etaM, etaF, z00,z01,z02,z05,z06,z07,z09,z0b,z0c,z0f,z0h,z0i,z0j,z0k,z0l,z0n,z0o,z0q,z0r,z0v,z0z,z12,z15,z1f,z1j,z1n,z1o,z1r,z1u,z20,z21,z22,z23,z26,z29,z2b,z2g,z2h,z2j,z2k,z2t,z2v,z2x,z33,z34,z3h,z4l,z4o,z4t,z54,z55,z57,z59,z66,z67,z69,z6e,z6p,z7r,z7u,z7w,z8d,z9d,z9e,z9g,z9i,z9j,z9k,z9l,z9m,z9n,z9p,z9r,z9v,z9w,z9y,za0,za1,za2,za3,za5,za6,za7,za8,za9,zaa,zab,zae,zaf,zal,zaq,zas,zat,zba,zbc,zbd,zbf,zbg,zbk,zbt,zbu,zbw,zbx,zby,zbz,zc0,zc3,zc4,zc5,zc6,zc8,zca,zcc,zcd,zce,zcf,zcg,zch,zci,zcj,zcn,zco,zcp,zcq,zcr,zct,zcu,zcv,zcw,zcx,zcy,zd3,zd4,zd5,zd6,zd7,zdd,zdj,zdk,zdl,zdo,zds,zdt,zdu,zdv,zdw,zdx,ze2,ze3,ze9,zeo,zep,zf5,zf6,zf7,zf8,zf9,zfa,zfb,zfc,zfd,zfg,zfm,zfo,zfp,zfq,zfr,zfs,zft,zfu,zfv,zfw,zfx,zfy,zfz,zg0,zg1,zhf, w45, e2, h4, g1, g2, g4]; all_goals tactic => exact rfl))
            have g4 := eq_false g3
            cases g5 : x.me
            · simp [g1, g2, g4, g5] at h5
            cases g6 : Ms.within x.m 0 1000000000
            · (sym => (simp [etaM, etaF, z00,z01,z02,z05,z06,z07,z09,z0b,z0c,z0f,z0h,z0i,z0j,z0k,z0l,z0n,z0o,z0q,z0r,z0v,z0z,z12,z15,z1f,z1j,z1n,z1o,z1r,z1u,z20,z21,z22,z23,z26,z29,z2b,z2g,z2h,z2j,z2k,z2t,z2v,z2x,z33,z34,z3h,z4l,z4o,z4t,z54,z55,z57,z59,z66,z67,z69,z6e,z6p,z7r,z7u,z7w,z8d,z9d,z9e,z9g,z9i,z9j,z9k,z9l,z9m,z9n,z9p,z9r,z9v,z9w,z9y,za0,za1,za2,za3,za5,za6,za7,za8,za9,zaa,zab,zae,zaf,zal,zaq,zas,zat,zba,zbc,zbd,zbf,zbg,zbk,zbt,zbu,zbw,zbx,zby,zbz,zc0,zc3,zc4,zc5,zc6,zc8,zca,zcc,zcd,zce,zcf,zcg,zch,zci,zcj,zcn,zco,zcp,zcq,zcr,zct,zcu,zcv,zcw,zcx,zcy,zd3,zd4,zd5,zd6,zd7,zdd,zdj,zdk,zdl,zdo,zds,zdt,zdu,zdv,zdw,zdx,ze2,ze3,ze9,zeo,zep,zf5,zf6,zf7,zf8,zf9,zfa,zfb,zfc,zfd,zfg,zfm,zfo,zfp,zfq,zfr,zfs,zft,zfu,zfv,zfw,zfx,zfy,zfz,zg0,zg1,zhf, w45, w46, e2, h4, g1, g2, g4, g5, g6]; all_goals tactic => exact rfl))
            · simp [g1, g2, g4, g5, g6] at h5
        · (sym => (simp [etaM, etaF, z00,z01,z02,z05,z06,z07,z09,z0b,z0c,z0f,z0h,z0i,z0j,z0k,z0l,z0n,z0o,z0q,z0r,z0v,z0z,z12,z15,z1f,z1j,z1n,z1o,z1r,z1u,z20,z21,z22,z23,z26,z29,z2b,z2g,z2h,z2j,z2k,z2t,z2v,z2x,z33,z34,z3h,z4l,z4o,z4t,z54,z55,z57,z59,z66,z67,z69,z6e,z6p,z7r,z7u,z7w,z8d,z9d,z9e,z9g,z9i,z9j,z9k,z9l,z9m,z9n,z9p,z9r,z9v,z9w,z9y,za0,za1,za2,za3,za5,za6,za7,za8,za9,zaa,zab,zae,zaf,zal,zaq,zas,zat,zba,zbc,zbd,zbf,zbg,zbk,zbt,zbu,zbw,zbx,zby,zbz,zc0,zc3,zc4,zc5,zc6,zc8,zca,zcc,zcd,zce,zcf,zcg,zch,zci,zcj,zcn,zco,zcp,zcq,zcr,zct,zcu,zcv,zcw,zcx,zcy,zd3,zd4,zd5,zd6,zd7,zdd,zdj,zdk,zdl,zdo,zds,zdt,zdu,zdv,zdw,zdx,ze2,ze3,ze9,zeo,zep,zf5,zf6,zf7,zf8,zf9,zfa,zfb,zfc,zfd,zfg,zfm,zfo,zfp,zfq,zfr,zfs,zft,zfu,zfv,zfw,zfx,zfy,zfz,zg0,zg1,zhf, w45]; all_goals tactic => exact rfl))
        · intro i hi
          obtain ⟨x, hx, h4⟩ := hn2 i hi
          have e1 := up_ix hi (by omega)
          have e2 := lt_ix (l := l) (i := i) (by omega)
          have h5 : chkF u x = 0 := by simpa using h4
          unfold chkF at h5
          cases g1 : btw (-1) x.fr (wr (u - 1))
          · simp [g1] at h5
          cases g2 : btw (-1) x.to (wr (u - 1))
          · simp [g1, g2] at h5
          by_cases g3 : x.fr = x.to
          · simp [g1, g2, g3] at h5
          have g4 := eq_false g3
          cases g5 : x.me
          · (sym => (simp [etaM, etaF, z00,z01,z02,z05,z06,z07,z09,z0b,z0c,z0f,z0h,z0i,z0j,z0k,z0l,z0n,z0o,z0q,z0r,z0v,z0z,z12,z15,z1f,z1j,z1n,z1o,z1r,z1u,z20,z21,z22,z23,z26,z29,z2b,z2g,z2h,z2j,z2k,z2t,z2v,z2x,z33,z34,z3h,z4l,z4o,z4t,z54,z55,z57,z59,z66,z67,z69,z6e,z6p,z7r,z7u,z7w,z8d,z9d,z9e,z9g,z9i,z9j,z9k,z9l,z9m,z9n,z9p,z9r,z9v,z9w,z9y,za0,za1,za2,za3,za5,za6,za7,za8,za9,zaa,zab,zae,zaf,zal,zaq,zas,zat,zba,zbc,zbd,zbf,zbg,zbk,zbt,zbu,zbw,zbx,zby,zbz,zc0,zc3,zc4,zc5,zc6,zc8,zca,zcc,zcd,zce,zcf,zcg,zch,zci,zcj,zcn,zco,zcp,zcq,zcr,zct,zcu,zcv,zcw,zcx,zcy,zd3,zd4,zd5,zd6,zd7,zdd,zdj,zdk,zdl,zdo,zds,zdt,zdu,zdv,zdw,zdx,ze2,ze3,ze9,zeo,zep,zf5,zf6,zf7,zf8,zf9,zfa,zfb,zfc,zfd,zfg,zfm,zfo,zfp,zfq,zfr,zfs,zft,zfu,zfv,zfw,zfx,zfy,zfz,zg0,zg1,zhf, w45, w46, e1, e2, hx, g1, g2, g4, g5]; all_goals tactic => exact rfl))
          cases g6 : Ms.within x.m 0 1000000000
          · simp [g1, g2, g4, g5, g6] at h5
          · (sym => (simp [etaM, etaF, z00,z01,z02,z05,z06,z07,z09,z0b,z0c,z0f,z0h,z0i,z0j,z0k,z0l,z0n,z0o,z0q,z0r,z0v,z0z,z12,z15,z1f,z1j,z1n,z1o,z1r,z1u,z20,z21,z22,z23,z26,z29,z2b,z2g,z2h,z2j,z2k,z2t,z2v,z2x,z33,z34,z3h,z4l,z4o,z4t,z54,z55,z57,z59,z66,z67,z69,z6e,z6p,z7r,z7u,z7w,z8d,z9d,z9e,z9g,z9i,z9j,z9k,z9l,z9m,z9n,z9p,z9r,z9v,z9w,z9y,za0,za1,za2,za3,za5,za6,za7,za8,za9,zaa,zab,zae,zaf,zal,zaq,zas,zat,zba,zbc,zbd,zbf,zbg,zbk,zbt,zbu,zbw,zbx,zby,zbz,zc0,zc3,zc4,zc5,zc6,zc8,zca,zcc,zcd,zce,zcf,zcg,zch,zci,zcj,zcn,zco,zcp,zcq,zcr,zct,zcu,zcv,zcw,zcx,zcy,zd3,zd4,zd5,zd6,zd7,zdd,zdj,zdk,zdl,zdo,zds,zdt,zdu,zdv,zdw,zdx,ze2,ze3,ze9,zeo,zep,zf5,zf6,zf7,zf8,zf9,zfa,zfb,zfc,zfd,zfg,zfm,zfo,zfp,zfq,zfr,zfs,zft,zfu,zfv,zfw,zfx,zfy,zfz,zg0,zg1,zhf, w45, w46, e1, e2, hx, g1, g2, g4, g5, g6]; all_goals tactic => exact rfl))
        · rcases hn3 with h3 | ⟨x, h3, h4, h5⟩
          · subst h3
            (sym => (simp [etaM, etaF, z00,z01,z02,z05,z06,z07,z09,z0b,z0c,z0f,z0h,z0i,z0j,z0k,z0l,z0n,z0o,z0q,z0r,z0v,z0z,z12,z15,z1f,z1j,z1n,z1o,z1r,z1u,z20,z21,z22,z23,z26,z29,z2b,z2g,z2h,z2j,z2k,z2t,z2v,z2x,z33,z34,z3h,z4l,z4o,z4t,z54,z55,z57,z59,z66,z67,z69,z6e,z6p,z7r,z7u,z7w,z8d,z9d,z9e,z9g,z9i,z9j,z9k,z9l,z9m,z9n,z9p,z9r,z9v,z9w,z9y,za0,za1,za2,za3,za5,za6,za7,za8,za9,zaa,zab,zae,zaf,zal,zaq,zas,zat,zba,zbc,zbd,zbf,zbg,zbk,zbt,zbu,zbw,zbx,zby,zbz,zc0,zc3,zc4,zc5,zc6,zc8,zca,zcc,zcd,zce,zcf,zcg,zch,zci,zcj,zcn,zco,zcp,zcq,zcr,zct,zcu,zcv,zcw,zcx,zcy,zd3,zd4,zd5,zd6,zd7,zdd,zdj,zdk,zdl,zdo,zds,zdt,zdu,zdv,zdw,zdx,ze2,ze3,ze9,zeo,zep,zf5,zf6,zf7,zf8,zf9,zfa,zfb,zfc,zfd,zfg,zfm,zfo,zfp,zfq,zfr,zfs,zft,zfu,zfv,zfw,zfx,zfy,zfz,zg0,zg1,zhf, w45]; all_goals tactic => exact rfl))
          · have e2 := lt_ix h3
            have h5 := of_decide_eq_true h5
            unfold chkF at h5
            cases g1 : btw (-1) x.fr (wr (u - 1))
            · (sym => (simp [etaM, etaF, z00,z01,z02,z05,z06,z07,z09,z0b,z0c,z0f,z0h,z0i,z0j,z0k,z0l,z0n,z0o,z0q,z0r,z0v,z0z,z12,z15,z1f,z1j,z1n,z1o,z1r,z1u,z20,z21,z22,z23,z26,z29,z2b,z2g,z2h,z2j,z2k,z2t,z2v,z2x,z33,z34,z3h,z4l,z4o,z4t,z54,z55,z57,z59,z66,z67,z69,z6e,z6p,z7r,z7u,z7w,z8d,z9d,z9e,z9g,z9i,z9j,z9k,z9l,z9m,z9n,z9p,z9r,z9v,z9w,z9y,za0,za1,za2,za3,za5,za6,za7,za8,za9,zaa,zab,zae,zaf,zal,zaq,zas,zat,zba,zbc,zbd,zbf,zbg,zbk,zbt,zbu,zbw,zbx,zby,zbz,zc0,zc3,zc4,zc5,zc6,zc8,zca,zcc,zcd,zce,zcf,zcg,zch,zci,zcj,zcn,zco,zcp,zcq,zcr,zct,zcu,zcv,zcw,zcx,zcy,zd3,zd4,zd5,zd6,zd7,zdd,zdj,zdk,zdl,zdo,zds,zdt,zdu,zdv,zdw,zdx,ze2,ze3,ze9,zeo,zep,zf5,zf6,zf7,zf8,zf9,zfa,zfb,zfc,zfd,zfg,zfm,zfo,zfp,zfq,zfr,zfs,zft,zfu,zfv,zfw,zfx,zfy,zfz,zg0,zg1,zhf, w45, e2, h4, g1]; all_goals tactic => exact rfl))
            cases g2 : btw (-1) x.to (wr (u - 1))
            · (sym => (simp [etaM, etaF, z00,z01,z02,z05,z06,z07,z09,z0b,z0c,z0f,z0h,z0i,z0j,z0k,z0l,z0n,z0o,z0q,z0r,z0v,z0z,z12,z15,z1f,z1j,z1n,z1o,z1r,z1u,z20,z21,z22,z23,z26,z29,z2b,z2g,z2h,z2j,z2k,z2t,z2v,z2x,z33,z34,z3h,z4l,z4o,z4t,z54,z55,z57,z59,z66,z67,z69,z6e,z6p,z7r,z7u,z7w,z8d,z9d,z9e,z9g,z9i,z9j,z9k,z9l,z9m,z9n,z9p,z9r,z9v,z9w,z9y,za0,za1,za2,za3,za5,za6,za7,za8,za9,zaa,zab,zae,zaf,zal,zaq,zas,zat,zba,zbc,zbd,zbf,zbg,zbk,zbt,zbu,zbw,zbx,zby,zbz,zc0,zc3,zc4,zc5,zc6,zc8,zca,zcc,zcd,zce,zcf,zcg,zch,zci,zcj,zcn,zco,zcp,zcq,zcr,zct,zcu,zcv,zcw,zcx,zcy,zd3,zd4,zd5,zd6,zd7,zdd,zdj,zdk,zdl,zdo,zds,zdt,zdu,zdv,zdw,zdx,ze2,ze3,ze9,zeo,zep,zf5,zf6,zf7,zf8,zf9,zfa,zfb,zfc,zfd,zfg,zfm,zfo,zfp,zfq,zfr,zfs,zft,zfu,zfv,zfw,zfx,zfy,zfz,zg0,zg1,zhf, w45, e2, h4, g1, g2]; all_goals tactic => exact rfl))
            by_cases g3 : x.fr = x.to
            · have g4 := eq_true g3
              (sym => (simp [etaM, etaF, z00,z01,z02,z05,z06,z07,z09,z0b,z0c,z0f,z0h,z0i,z0j,z0k,z0l,z0n,z0o,z0q,z0r,z0v,z0z,z12,z15,z1f,z1j,z1n,z1o,z1r,z1u,z20,z21,z22,z23,z26,z29,z2b,z2g,z2h,z2j,z2k,z2t,z2v,z2x,z33,z34,z3h,z4l,z4o,z4t,z54,z55,z57,z59,z66,z67,z69,z6e,z6p,z7r,z7u,z7w,z8d,z9d,z9e,z9g,z9i,z9j,z9k,z9l,z9m,z9n,z9p,z9r,z9v,z9w,z9y,za0,za1,za2,za3,za5,za6,za7,za8,za9,zaa,zab,zae,zaf,zal,zaq,zas,zat,zba,zbc,zbd,zbf,zbg,zbk,zbt,zbu,zbw,zbx,zby,zbz,zc0,zc3,zc4,zc5,zc6,zc8,zca,zcc,zcd,zce,zcf,zcg,zch,zci,zcj,zcn,zco,zcp,zcq,zcr,zct,zcu,zcv,zcw,zcx,zcy,zd3,zd4,zd5,zd6,zd7,zdd,zdj,zdk,zdl,zdo,zds,zdt,zdu,zdv,zdw,zdx,ze2,ze3,ze9,zeo,zep,zf5,zf6,zf7,zf8,zf9,zfa,zfb,zfc,zfd,zfg,zfm,zfo,zfp,zfq,zfr,zfs,zft,zfu,zfv,zfw,zfx,zfy,zfz,zg0,zg1,zhf, w45, e2, h4, g1, g2, g4]; all_goals tactic => exact rfl))
            have g4 := eq_false g3
            cases g5 : x.me
            · simp [g1, g2, g4, g5] at h5
            cases g6 : Ms.within x.m 0 1000000000
            · (sym => (simp [etaM, etaF, z00,z01,z02,z05,z06,z07,z09,z0b,z0c,z0f,z0h,z0i,z0j,z0k,z0l,z0n,z0o,z0q,z0r,z0v,z0z,z12,z15,z1f,z1j,z1n,z1o,z1r,z1u,z20,z21,z22,z23,z26,z29,z2b,z2g,z2h,z2j,z2k,z2t,z2v,z2x,z33,z34,z3h,z4l,z4o,z4t,z54,z55,z57,z59,z66,z67,z69,z6e,z6p,z7r,z7u,z7w,z8d,z9d,z9e,z9g,z9i,z9j,z9k,z9l,z9m,z9n,z9p,z9r,z9v,z9w,z9y,za0,za1,za2,za3,za5,za6,za7,za8,za9,zaa,zab,zae,zaf,zal,zaq,zas,zat,zba,zbc,zbd,zbf,zbg,zbk,zbt,zbu,zbw,zbx,zby,zbz,zc0,zc3,zc4,zc5,zc6,zc8,zca,zcc,zcd,zce,zcf,zcg,zch,zci,zcj,zcn,zco,zcp,zcq,zcr,zct,zcu,zcv,zcw,zcx,zcy,zd3,zd4,zd5,zd6,zd7,zdd,zdj,zdk,zdl,zdo,zds,zdt,zdu,zdv,zdw,zdx,ze2,ze3,ze9,zeo,zep,zf5,zf6,zf7,zf8,zf9,zfa,zfb,zfc,zfd,zfg,zfm,zfo,zfp,zfq,zfr,zfs,zft,zfu,zfv,zfw,zfx,zfy,zfz,zg0,zg1,zhf, w45, w46, e2, h4, g1, g2, g4, g5, g6]; all_goals tactic => exact rfl))
            · simp [g1, g2, g4, g5, g6] at h5
end Go.Proofs.Ytdbikamciedfdaa
namespace Go.Proofs.Ytdbikamciedfdaa
open Go Go.DL
set_option maxRecDepth 100000
set_option maxHeartbeats 1000000

def ixR (n m : Nat) : Int := if n = m then -1 else n
theorem w79 (us : List Int) (u : Int) (hn : us.length < 1000000) : ∃ r : Int, runW progX 79 [rI us, I u] [] = some (I r, []) ∧ decide (0 ≤ r) = decide (u ∈ us) := by
  obtain ⟨n, h1, h2, h3⟩ := first_ix (fun x => decide (u = x)) us
  refine ⟨ixR n us.length, ?_, ?_⟩
  · rw [r79 (by simp)]; unfold x79; dsimp only
    have ex : (((n : Int) < (us.length : Int)) = False ∧ (0 : Nat) = 0 ∧ (0 : Nat) = 0 ∧ ixR n us.length = -1) ∨ (∃ x, ((n : Int) < (us.length : Int)) = True ∧ us[n]? = some x ∧ (u = x) = True ∧ ixR n us.length = n) := by
      rcases h3 with h3 | ⟨x, h3, h4, h5⟩
      · exact .inl ⟨eq_false (by omega), rfl, rfl, if_pos h3⟩
      · exact .inr ⟨x, lt_ix h3, h4, eq_true (of_decide_eq_true h5), if_neg (by omega)⟩
    have g0 := pad
    sym =>
      simp [etaM, etaF, z00,z01,z05,z07,z0b,z0c,z0n,z0v,z15,z1f,z1j,z2b,z2g,z2h,z2j,z2t,z2v,z33,z34,z3h,z4l,z4q,z66,z6b,z6p,z7r,z7w,z9n,z9p,z9y,za3,za5,za7,za8,zba,zbt,zbu,zbw,zbx,zby,zbz,zc0,zc3,zc4,zc5,zc6,zc8,zca,zcc,zcd,zce,zcf,zcg,zch,zci,zcj,zcn,zco,zcr,zct,zcu,zcv,zcw,zcx,zcy,zdd,zdk,zdl,zdo,zds,zdt,zdu,zdv,ze2,ze3,zf8,zf9,zfb,zfm,zfo,zfp,zfq,zfr,zfs,zft,zfu,zfv,zfw,zfx,zfy,zfz,zg0,zg1]
      tactic =>
        unfold x79l0
        rw [loop_rule n (fun i => [rI us, I u, I us.length, I (i : Nat)]) (fun i => [])]
        rcases ex with ⟨g1, g2, g3, g4⟩ | ⟨x, g1, g2, g3, g4⟩
        case' hs =>
          intro i hi
          obtain ⟨x, g2, h4⟩ := h2 i hi
          have g0 := up_ix hi (by omega)
          have g1 := lt_ix (l := us) (i := i) (by omega)
          have g3 : (u = x) = False := by simpa using h4
          have g4 := pad
        case' h0 =>
          have g1 := pad
          have g2 := pad
          have g3 := pad
          have g4 := pad
        case' hl => rcases ex with ⟨g1, g2, g3, g4⟩ | ⟨x, g1, g2, g3, g4⟩
        all_goals (sym => (simp [etaM, etaF, z00,z01,z05,z07,z0b,z0c,z0n,z0v,z15,z1f,z1j,z2b,z2g,z2h,z2j,z2t,z2v,z33,z34,z3h,z4l,z4q,z66,z6b,z6p,z7r,z7w,z9n,z9p,z9y,za3,za5,za7,za8,zba,zbt,zbu,zbw,zbx,zby,zbz,zc0,zc3,zc4,zc5,zc6,zc8,zca,zcc,zcd,zce,zcf,zcg,zch,zci,zcj,zcn,zco,zcr,zct,zcu,zcv,zcw,zcx,zcy,zdd,zdk,zdl,zdo,zds,zdt,zdu,zdv,ze2,ze3,zf8,zf9,zfb,zfm,zfo,zfp,zfq,zfr,zfs,zft,zfu,zfv,zfw,zfx,zfy,zfz,zg0,zg1, g0, g1, g2, g3, g4]; all_goals tactic => exact rfl))
  · rcases h3 with h3 | ⟨x, h3, h4, h5⟩
    · have : u ∉ us := by
        intro hc
        obtain ⟨i, hi, he⟩ := List.mem_iff_getElem.1 hc
        obtain ⟨x, hx, h4⟩ := h2 i (by omega)
        rw [List.getElem?_eq_getElem hi] at hx
        simp only [Option.some.injEq] at hx
        rw [← hx, he] at h4
        simp at h4
      simp [ixR, h3, this]
    · have h5 := of_decide_eq_true h5
      subst h5
      have : u ∈ us := List.mem_of_getElem? h4
      rw [ixR, if_neg (by omega)]
      simp [this]
theorem w69 (us : List Int) (u : Int) (hn : us.length < 1000000) : runW progX 69 [rI us, I u] [] = some (.bool (decide (u ∈ us)), []) := by
  rw [r69 (by simp)]; unfold x69; dsimp only
  obtain ⟨r, h1, h2⟩ := w79 us u hn
  (sym => (simp [etaM, etaF, z00,z01,z05,z06,z07,z09,z0b,z0c,z0n,z0v,z1r,z1u,z20,z21,z2y,z4l,z4m,z4q,z66,z67,z6b,z6p,z6q,z6u,z7r,z7s,z7w,z9m,z9n,z9y,za2,za3,za5,za7,za8,zaa,zab,zaq,zas,zat,zba,zbc,zbd,zbe,zbt,zbu,zbw,zbx,zby,zbz,zc0,zc3,zc4,zc5,zc6,zc8,zcj,zcn,zco,zcq,zcr,zct,zcv,zdo,zds,zdt,zdu,zdv,ze2,ze3,zfm,zfo,zfp,zft,zg0,zg1, h1, h2]; all_goals tactic => exact rfl))
theorem w68 (us : List Int) (u : Int) (hn : us.length < 1000000) : runW progX 68 [I u, .pt 0 0] [some (.blk true (.cells true [rI us]))] = some (.bool (decide (u ∈ us)), [some (.blk true (.cells true [rI us]))]) := by
  rw [r68 (by simp)]; unfold x68; dsimp only
  have h1 := w69 us u hn
  (sym => (simp [etaM, etaF, z00,z01,z05,z06,z07,z09,z0b,z0c,z0n,z1j,z1r,z1u,z20,z21,z4l,z4m,z4q,z66,z67,z6b,z6p,z6q,z7r,z7s,z7z,z9d,z9e,z9g,z9m,z9n,z9p,z9y,za2,za3,za5,za6,za7,za8,zaa,zab,zae,zaf,zak,zal,zaq,zas,zat,zba,zbc,zbd,zbe,zbf,zbg,zbk,zbt,zbu,zbw,zbx,zby,zbz,zc0,zc3,zc4,zc5,zc6,zc8,zcj,zcn,zco,zcq,zcr,zcs,zct,zcu,zcv,zdo,zds,zdt,zdu,zdv,ze2,ze3,zf6,zf7,zfb,zfo,zfp,zft,zg0,zg1, h1]; all_goals tactic => exact rfl))
theorem w70 (us : List Int) (u : Int) (hn : us.length < 1000000) : runW progX 70 [I u, .pt 0 0] [some (.blk true (.cells true [rI us]))] = some (.bool (decide (u ∈ us)), [some (.blk true (.cells true [rI us]))]) := by
  rw [r70 (by simp)]; unfold x70; dsimp only
  have h1 := w69 us u hn
  (sym => (simp [etaM, etaF, z00,z01,z05,z06,z07,z09,z0b,z0c,z0n,z1j,z1r,z1u,z20,z21,z4l,z4m,z4q,z66,z67,z6b,z6p,z6q,z7r,z7s,z7z,z9d,z9e,z9g,z9m,z9n,z9p,z9y,za2,za3,za5,za6,za7,za8,zaa,zab,zae,zaf,zak,zal,zaq,zas,zat,zba,zbc,zbd,zbe,zbf,zbg,zbk,zbt,zbu,zbw,zbx,zby,zbz,zc0,zc3,zc4,zc5,zc6,zc8,zcj,zcn,zco,zcq,zcr,zcs,zct,zcu,zcv,zdo,zds,zdt,zdu,zdv,ze2,ze3,zf6,zf7,zfb,zfo,zfp,zft,zg0,zg1, h1]; all_goals tactic => exact rfl))

theorem w39A (u : Int) (l : List Fl) (wo : Int) (g : Nat) (rows : List (List AV)) (f : Int → Bool) (hn : l.length < 1000000) (hf : ∀ u, runW progX g (I u :: [.pt 0 0]) [some (.blk true (.cells true [.fs rows]))] = some (.bool (f u), [some (.blk true (.cells true [.fs rows]))])) :
    runW progX 39 [plA u l, I wo, .fn (.func g) [] [.pt 0 0]] [some (.blk true (.cells true [.fs rows]))] = some (.agg [I (exI f wo l l.length).a, I (exI f wo l l.length).b, I (exI f wo l l.length).c, I (exI f wo l l.length).d], [some (.blk true (.cells true [.fs rows]))]) := by
  rw [r39 (by simp)]; unfold x39; dsimp only
  have g0 := pad
  have g1 := pad
  have g2 := pad
  have g3 := pad
  have g4 := pad
  have g5 := pad
  have g6 := pad
  sym =>
    simp [etaM, etaF, z00,z01,z02,z03,z04,z05,z06,z07,z09,z0a,z0b,z0c,z0f,z0h,z0j,z0l,z0n,z0o,z0q,z0r,z0v,z0w,z0z,z12,z15,z1f,z1j,z1k,z1m,z1n,z1o,z1p,z1r,z1u,z1v,z1w,z20,z21,z22,z23,z24,z26,z29,z2b,z2g,z2h,z2j,z2t,z2v,z33,z34,z3h,z4l,z4o,z4q,z4t,z4y,z54,z55,z57,z59,z66,z67,z69,z6b,z6e,z6j,z6p,z6s,z7r,z7u,z7w,z84,z8d,z9d,z9e,z9g,z9i,z9j,z9k,z9l,z9m,z9n,z9p,z9r,z9s,z9t,z9v,z9w,z9y,za0,za1,za2,za3,za5,za6,za7,za8,za9,zaa,zab,zac,zae,zaf,zak,zal,zaq,zas,zat,zau,zav,zaw,zax,zaz,zb1,zb2,zb3,zba,zbc,zbd,zbf,zbg,zbk,zbt,zbu,zbw,zbx,zby,zbz,zc0,zc3,zc4,zc5,zc7,zc8,zca,zcc,zcd,zce,zcf,zcg,zch,zcj,zcn,zco,zcp,zcq,zcr,zcs,zct,zcu,zcv,zcw,zcx,zcy,zd3,zd6,zd7,zd8,zd9,zdb,zdd,zdj,zdk,zdl,zdm,zdn,zdo,zds,zdt,zdu,zdv,zdw,zdx,zdy,zdz,ze2,ze3,ze9,zeo,zep,zf5,zf6,zf7,zf8,zf9,zfa,zfb,zfc,zfd,zfg,zfm,zfo,zfp,zfq,zfr,zfs,zft,zfu,zfw,zfy,zfz,zg0,zg1]
    tactic =>
      unfold x39l0
      rw [loop_rule l.length (fun i => [I wo, .fn (.func g) [] [.pt 0 0], .pt 1 0, .pt 2 0, .fs (l.map Fl.row), I l.length, I (i : Nat)]) (fun i => [some (.blk true (.cells true [.fs rows]))] ++ [some (.blk true (.cells true [I 0, I 0, I 0, I 0])), some (.blk true (.cells true [I (exI f wo l i).a, I (exI f wo l i).b, I (exI f wo l i).c, I (exI f wo l i).d]))])]
      case' hs =>
        intro i hi
        obtain ⟨x, g0⟩ := at_ix hi
        have g1 := up_ix hi (by omega)
        have g2 := lt_ix hi
        have e3 : exI f wo l (i + 1) = exStep f wo i x (exI f wo l i) := by simp [exI, g0]
        simp only [e3, exStep]
        rcases ptf ((i : Int) = wo) with g3 | g3 <;> cases g4 : x.me <;> cases g5 : f x.to <;> cases g6 : f x.fr
      all_goals (sym => (simp [etaM, etaF, z00,z01,z02,z03,z04,z05,z06,z07,z09,z0a,z0b,z0c,z0f,z0h,z0j,z0l,z0n,z0o,z0q,z0r,z0v,z0w,z0z,z12,z15,z1f,z1j,z1k,z1m,z1n,z1o,z1p,z1r,z1u,z1v,z1w,z20,z21,z22,z23,z24,z26,z29,z2b,z2g,z2h,z2j,z2t,z2v,z33,z34,z3h,z4l,z4o,z4q,z4t,z4y,z54,z55,z57,z59,z66,z67,z69,z6b,z6e,z6j,z6p,z6s,z7r,z7u,z7w,z84,z8d,z9d,z9e,z9g,z9i,z9j,z9k,z9l,z9m,z9n,z9p,z9r,z9s,z9t,z9v,z9w,z9y,za0,za1,za2,za3,za5,za6,za7,za8,za9,zaa,zab,zac,zae,zaf,zak,zal,zaq,zas,zat,zau,zav,zaw,zax,zaz,zb1,zb2,zb3,zba,zbc,zbd,zbf,zbg,zbk,zbt,zbu,zbw,zbx,zby,zbz,zc0,zc3,zc4,zc5,zc7,zc8,zca,zcc,zcd,zce,zcf,zcg,zch,zcj,zcn,zco,zcp,zcq,zcr,zcs,zct,zcu,zcv,zcw,zcx,zcy,zd3,zd6,zd7,zd8,zd9,zdb,zdd,zdj,zdk,zdl,zdm,zdn,zdo,zds,zdt,zdu,zdv,zdw,zdx,zdy,zdz,ze2,ze3,ze9,zeo,zep,zf5,zf6,zf7,zf8,zf9,zfa,zfb,zfc,zfd,zfg,zfm,zfo,zfp,zfq,zfr,zfs,zft,zfu,zfw,zfy,zfz,zg0,zg1, hf, g0, g1, g2, g3, g4, g5, g6, w61]; all_goals tactic => exact rfl))

theorem w39B (u : Int) (l : List Fl) (wo : Int) (g : Nat) (es : List (Int × Int)) (k : Int) (f : Int → Bool) (hn : l.length < 1000000) (hf : ∀ u, runW progX g (I u :: [.pt 0 0, .pt 2 0]) [some (.blk false (.cells true [.mp 1])), mapB es, some (.blk true (.cells true [I k]))] = some (.bool (f u), [some (.blk false (.cells true [.mp 1])), mapB es, some (.blk true (.cells true [I k]))])) :
    runW progX 39 [plA u l, I wo, .fn (.func g) [] [.pt 0 0, .pt 2 0]] [some (.blk false (.cells true [.mp 1])), mapB es, some (.blk true (.cells true [I k]))] = some (.agg [I (exI f wo l l.length).a, I (exI f wo l l.length).b, I (exI f wo l l.length).c, I (exI f wo l l.length).d], [some (.blk false (.cells true [.mp 1])), mapB es, some (.blk true (.cells true [I k]))]) := by
  rw [r39 (by simp)]; unfold x39; dsimp only
  have g0 := pad
  have g1 := pad
  have g2 := pad
  have g3 := pad
  have g4 := pad
  have g5 := pad
  have g6 := pad
  sym =>
    simp [etaM, etaF, z00,z01,z02,z03,z04,z05,z06,z07,z09,z0a,z0b,z0c,z0f,z0h,z0j,z0l,z0n,z0o,z0q,z0r,z0v,z0w,z0z,z12,z15,z1f,z1j,z1k,z1m,z1n,z1o,z1p,z1r,z1u,z1v,z1w,z20,z21,z22,z23,z24,z26,z29,z2b,z2g,z2h,z2j,z2t,z2v,z33,z34,z3h,z4l,z4o,z4q,z4t,z4u,z4y,z54,z55,z57,z59,z66,z67,z69,z6b,z6e,z6f,z6j,z6p,z6s,z7r,z7u,z7w,z84,z8d,z9d,z9e,z9g,z9i,z9j,z9k,z9l,z9m,z9n,z9p,z9r,z9s,z9t,z9v,z9w,z9x,z9y,za0,za1,za2,za3,za5,za6,za7,za8,za9,zaa,zab,zac,zae,zaf,zag,zak,zal,zam,zaq,zas,zat,zau,zav,zaw,zax,zaz,zb1,zb2,zb3,zba,zbc,zbd,zbf,zbg,zbk,zbt,zbu,zbw,zbx,zby,zbz,zc0,zc3,zc4,zc5,zc7,zc8,zca,zcc,zcd,zce,zcf,zcg,zch,zcj,zcn,zco,zcp,zcq,zcr,zcs,zct,zcu,zcv,zcw,zcx,zcy,zd3,zd6,zd7,zd8,zd9,zdb,zdd,zdj,zdk,zdl,zdm,zdn,zdo,zds,zdt,zdu,zdv,zdw,zdx,zdy,zdz,ze2,ze3,ze9,zeo,zep,zf5,zf6,zf7,zf8,zf9,zfa,zfb,zfc,zfd,zfg,zfm,zfo,zfp,zfq,zfr,zfs,zft,zfu,zfw,zfy,zfz,zg0,zg1]
    tactic =>
      unfold x39l0
      rw [loop_rule l.length (fun i => [I wo, .fn (.func g) [] [.pt 0 0, .pt 2 0], .pt 3 0, .pt 4 0, .fs (l.map Fl.row), I l.length, I (i : Nat)]) (fun i => [some (.blk false (.cells true [.mp 1])), mapB es, some (.blk true (.cells true [I k]))] ++ [some (.blk true (.cells true [I 0, I 0, I 0, I 0])), some (.blk true (.cells true [I (exI f wo l i).a, I (exI f wo l i).b, I (exI f wo l i).c, I (exI f wo l i).d]))])]
      case' hs =>
        intro i hi
        obtain ⟨x, g0⟩ := at_ix hi
        have g1 := up_ix hi (by omega)
        have g2 := lt_ix hi
        have e3 : exI f wo l (i + 1) = exStep f wo i x (exI f wo l i) := by simp [exI, g0]
        simp only [e3, exStep]
        rcases ptf ((i : Int) = wo) with g3 | g3 <;> cases g4 : x.me <;> cases g5 : f x.to <;> cases g6 : f x.fr
      all_goals (sym => (simp [etaM, etaF, z00,z01,z02,z03,z04,z05,z06,z07,z09,z0a,z0b,z0c,z0f,z0h,z0j,z0l,z0n,z0o,z0q,z0r,z0v,z0w,z0z,z12,z15,z1f,z1j,z1k,z1m,z1n,z1o,z1p,z1r,z1u,z1v,z1w,z20,z21,z22,z23,z24,z26,z29,z2b,z2g,z2h,z2j,z2t,z2v,z33,z34,z3h,z4l,z4o,z4q,z4t,z4u,z4y,z54,z55,z57,z59,z66,z67,z69,z6b,z6e,z6f,z6j,z6p,z6s,z7r,z7u,z7w,z84,z8d,z9d,z9e,z9g,z9i,z9j,z9k,z9l,z9m,z9n,z9p,z9r,z9s,z9t,z9v,z9w,z9x,z9y,za0,za1,za2,za3,za5,za6,za7,za8,za9,zaa,zab,zac,zae,zaf,zag,zak,zal,zam,zaq,zas,zat,zau,zav,zaw,zax,zaz,zb1,zb2,zb3,zba,zbc,zbd,zbf,zbg,zbk,zbt,zbu,zbw,zbx,zby,zbz,zc0,zc3,zc4,zc5,zc7,zc8,zca,zcc,zcd,zce,zcf,zcg,zch,zcj,zcn,zco,zcp,zcq,zcr,zcs,zct,zcu,zcv,zcw,zcx,zcy,zd3,zd6,zd7,zd8,zd9,zdb,zdd,zdj,zdk,zdl,zdm,zdn,zdo,zds,zdt,zdu,zdv,zdw,zdx,zdy,zdz,ze2,ze3,ze9,zeo,zep,zf5,zf6,zf7,zf8,zf9,zfa,zfb,zfc,zfd,zfg,zfm,zfo,zfp,zfq,zfr,zfs,zft,zfu,zfw,zfy,zfz,zg0,zg1, hf, g0, g1, g2, g3, g4, g5, g6, w61]; all_goals tactic => exact rfl))
end Go.Proofs.Ytdbikamciedfdaa
namespace Go.Proofs.Ytdbikamciedfdaa
open Go Go.DL
set_option maxRecDepth 100000
set_option maxHeartbeats 1000000

def mx (a b : Int) : Int := if b > a then b else a
def mn (a b : Int) : Int := if b < a then b else a
/-- The least thing that each is joined with, after so many flows. -/
def gI (wo : Int) (l : List Fl) : Nat → Int → Int
  | 0, x => x
  | i + 1, x => match l[i]? with
    | some f => if f.me || decide ((i : Int) = wo) then gI wo l i x else if gI wo l i x = mx (gI wo l i f.fr) (gI wo l i f.to) then mn (gI wo l i f.fr) (gI wo l i f.to) else gI wo l i x
    | none => gI wo l i x
/-- The program's heads say it. -/
def InvG (U : Int) (es : List (Int × Int)) (g : Int → Int) : Prop := ∀ x, -1 ≤ x → x < U → -1 ≤ g x ∧ g x ≤ x ∧ g (g x) = g x ∧ (look es x = none → g x = x) ∧ (∀ y, look es x = some y → -1 ≤ y ∧ y ≤ x ∧ g y = g x ∧ (y = x → g x = x))

theorem look_put (es : List (Int × Int)) (k v x : Int) : look (put es k v) x = if x = k then some v else look es x := by
  induction es with
  | nil =>
    by_cases h : x = k
    · simp [put, look, h]
    · simp [put, look, h, Ne.symm h]
  | cons p r ih =>
    by_cases h : k = p.1
    · by_cases h2 : x = k
      · simp [put, look, ← h, h2]
      · simp [put, look, ← h, h2, Ne.symm h2]
    · by_cases h2 : x = k
      · subst h2
        simp [put, look, h, Ne.symm h, ih]
      · by_cases h3 : p.1 = x
        · subst h3
          simp [put, look, h, h2]
        · simp [put, look, h, h3, h2, ih]
theorem itH_succ (es : List (Int × Int)) (n : Nat) (x : Int) : itH es (n + 1) x = itH es n (stepH es x) := by
  induction n with
  | zero => rfl
  | succ n ih => rw [itH, ih]; rfl
theorem InvG.hd {U : Int} {es : List (Int × Int)} {g : Int → Int} (hi : InvG U es g) : ∀ (m : Nat) (x : Int), x < m → -1 ≤ x → x < U → ∃ n, hd es n x (g x) := by
  intro m
  induction m with
  | zero =>
    intro x h1 h2 h3
    obtain ⟨a1, a2, a3, a4, a5⟩ := hi x h2 h3
    refine ⟨0, fun i hi => by omega, ?_, by rw [itH]; omega⟩
    rw [itH]
    unfold stepH
    cases hl : look es x with
    | none => rfl
    | some y => have := a5 y hl; simp only [Option.getD_some]; omega
  | succ m ih =>
    intro x h1 h2 h3
    obtain ⟨a1, a2, a3, a4, a5⟩ := hi x h2 h3
    cases hl : look es x with
    | none =>
      refine ⟨0, fun i hi => by omega, ?_, by rw [itH]; exact (a4 hl).symm⟩
      rw [itH, stepH, hl]; rfl
    | some y =>
      obtain ⟨b1, b2, b3, b4⟩ := a5 y hl
      by_cases hy : y = x
      · refine ⟨0, fun i hi => by omega, ?_, by rw [itH]; exact (b4 hy).symm⟩
        rw [itH, stepH, hl]; exact hy
      · obtain ⟨n, c1, c2, c3⟩ := ih y (by omega) b1 (by omega)
        have hs : stepH es x = y := by rw [stepH, hl]; rfl
        refine ⟨n + 1, fun i hi => ?_, ?_, ?_⟩
        · cases i with
          | zero => rw [itH, hs]; exact hy
          | succ i => rw [itH_succ, hs]; exact c1 i (by omega)
        · rw [itH_succ, hs]; exact c2
        · rw [itH_succ, hs, c3, b3]
theorem InvG.start (U : Int) : InvG U [] fun x => x := fun x h1 _ => ⟨h1, Int.le_refl _, rfl, fun _ => rfl, fun y h => by simp [look] at h⟩
theorem InvG.join {U : Int} {es : List (Int × Int)} {g : Int → Int} (hi : InvG U es g) {p q : Int} (h1 : -1 ≤ p) (h2 : p < U) (h3 : -1 ≤ q) (h4 : q < U) :
    InvG U (put es (mx (g p) (g q)) (mn (g p) (g q))) fun x => if g x = mx (g p) (g q) then mn (g p) (g q) else g x := by
  obtain ⟨a1, a2, a3, _, _⟩ := hi p h1 h2
  obtain ⟨b1, b2, b3, _, _⟩ := hi q h3 h4
  have hM : g (mx (g p) (g q)) = mx (g p) (g q) := by unfold mx; split <;> assumption
  have hm : g (mn (g p) (g q)) = mn (g p) (g q) := by unfold mn; split <;> assumption
  have hle : mn (g p) (g q) ≤ mx (g p) (g q) := by unfold mn mx; split <;> split <;> omega
  have hml : -1 ≤ mn (g p) (g q) := by unfold mn; split <;> omega
  have hMu : mx (g p) (g q) < U := by unfold mx; split <;> omega
  generalize mx (g p) (g q) = M at *
  generalize mn (g p) (g q) = m at *
  intro x hx1 hx2
  obtain ⟨c1, c2, c3, c4, c5⟩ := hi x hx1 hx2
  refine ⟨?_, ?_, ?_, ?_, ?_⟩
  · dsimp only; split <;> omega
  · dsimp only; split <;> omega
  · dsimp only
    by_cases hg : g x = M
    · rw [if_pos hg, hm]; split <;> rfl
    · rw [if_neg hg, c3, if_neg hg]
  · intro hl
    rw [look_put] at hl
    by_cases hxM : x = M
    · simp [hxM] at hl
    · rw [if_neg hxM] at hl
      dsimp only
      rw [if_neg (by rw [c4 hl]; exact hxM), c4 hl]
  · intro y hl
    rw [look_put] at hl
    by_cases hxM : x = M
    · rw [if_pos hxM] at hl
      simp only [Option.some.injEq] at hl
      subst hl
      subst hxM
      dsimp only
      rw [hM, if_pos rfl, hm]
      refine ⟨hml, hle, by split <;> rfl, fun h => h⟩
    · rw [if_neg hxM] at hl
      obtain ⟨d1, d2, d3, d4⟩ := c5 y hl
      refine ⟨d1, d2, by dsimp only; rw [d3], fun h => ?_⟩
      dsimp only
      rw [if_neg (by rw [d4 h]; exact hxM), d4 h]

/-- Flows within a plant's units. -/
def rngL (U : Int) (l : List Fl) : Prop := ∀ x ∈ l, -1 ≤ x.fr ∧ x.fr < U ∧ -1 ≤ x.to ∧ x.to < U
def esI (wo : Int) (l : List Fl) : Nat → List (Int × Int)
  | 0 => []
  | i + 1 => match l[i]? with
    | some f => if f.me || decide ((i : Int) = wo) then esI wo l i else put (esI wo l i) (mx (gI wo l i f.fr) (gI wo l i f.to)) (mn (gI wo l i f.fr) (gI wo l i f.to))
    | none => esI wo l i
theorem esI_inv {U wo : Int} {l : List Fl} (hr : rngL U l) : ∀ i, InvG U (esI wo l i) (gI wo l i)
  | 0 => InvG.start U
  | i + 1 => by
    have ih := esI_inv hr (wo := wo) i
    cases hx : l[i]? with
    | none =>
      have e1 : gI wo l (i + 1) = gI wo l i := by funext x; simp [gI, hx]
      have e2 : esI wo l (i + 1) = esI wo l i := by simp [esI, hx]
      rw [e1, e2]; exact ih
    | some f =>
      obtain ⟨r1, r2, r3, r4⟩ := hr f (List.mem_of_getElem? hx)
      cases hc : f.me || decide ((i : Int) = wo) with
      | true =>
        have e1 : gI wo l (i + 1) = gI wo l i := by funext x; simp only [gI, hx, hc, if_true]
        have e2 : esI wo l (i + 1) = esI wo l i := by simp only [esI, hx, hc, if_true]
        rw [e1, e2]; exact ih
      | false =>
        have e1 : gI wo l (i + 1) = fun x => if gI wo l i x = mx (gI wo l i f.fr) (gI wo l i f.to) then mn (gI wo l i f.fr) (gI wo l i f.to) else gI wo l i x := by funext x; simp only [gI, hx, hc]; rfl
        have e2 : esI wo l (i + 1) = put (esI wo l i) (mx (gI wo l i f.fr) (gI wo l i f.to)) (mn (gI wo l i f.fr) (gI wo l i f.to)) := by simp only [esI, hx, hc]; rfl
        rw [e1, e2]; exact ih.join r1 r2 r3 r4

theorem w58' {U : Int} {es : List (Int × Int)} {g : Int → Int} (hi : InvG U es g) {x y : Int} (h1 : -1 ≤ x) (h2 : x < U) (h3 : -1 ≤ y) (h4 : y < U) : runW progX 58 [.mp 0, I x, I y] [mapB es] = some (.tup [], [mapB (put es (mx (g x) (g y)) (mn (g x) (g y)))]) := by
  obtain ⟨n, e1⟩ := hi.hd (x.toNat + 1) x (by omega) h1 h2
  obtain ⟨m, e2⟩ := hi.hd (y.toNat + 1) y (by omega) h3 h4
  exact w58 e1 e2
theorem w57h {U : Int} {es : List (Int × Int)} {g : Int → Int} (hi : InvG U es g) {x : Int} (h1 : -1 ≤ x) (h2 : x < U) : runW progX 57 [.mp 0, I x] [mapB es] = some (I (g x), [mapB es]) := by
  obtain ⟨n, e1⟩ := hi.hd (x.toNat + 1) x (by omega) h1 h2
  exact w57' e1

theorem w67 (U : Int) (l : List Fl) (wo : Int) (hn : l.length < 1000000) (hr : rngL U l) :
    runW progX 67 [plA U l, I wo] [] = some (.mp 0, [mapB (esI wo l l.length)]) := by
  rw [r67 (by simp)]; unfold x67; dsimp only
  have g0 := pad
  have g1 := pad
  have g2 := pad
  have g3 := pad
  have g4 := pad
  have g5 := pad
  have g6 := pad
  sym =>
    simp [etaM, etaF, z00,z01,z02,z05,z06,z07,z09,z0b,z0c,z0f,z0h,z0i,z0k,z0n,z0o,z0q,z0r,z0v,z0z,z12,z15,z1c,z1f,z1j,z1n,z1o,z1r,z1u,z20,z21,z22,z23,z26,z29,z2b,z2g,z2h,z2j,z2u,z2v,z33,z34,z3h,z4l,z4q,z4u,z54,z55,z57,z59,z66,z6a,z6b,z6f,z6y,z7r,z7u,z7w,z80,z8d,z9d,z9e,z9g,z9i,z9j,z9k,z9l,z9m,z9n,z9p,z9r,z9t,z9v,z9w,z9y,za0,za1,za2,za3,za5,za6,za7,za8,za9,zaa,zab,zac,zae,zaf,zal,zaq,zas,zat,zau,zba,zbc,zbd,zbe,zbf,zbg,zbk,zbt,zbu,zbw,zbx,zby,zbz,zc0,zc3,zc4,zc5,zc6,zc8,zca,zcc,zcd,zce,zcf,zcg,zch,zcj,zcn,zco,zcp,zcq,zcr,zct,zcu,zcv,zcw,zcx,zcy,zd3,zd6,zd7,zd9,zdb,zdd,zdj,zdk,zdl,zdo,zds,zdt,zdu,zdv,zdw,zdx,ze2,ze3,ze9,zeo,zep,zeu,zf5,zf6,zf7,zf8,zf9,zfa,zfb,zfc,zfd,zfg,zfm,zfo,zfp,zfq,zfr,zfs,zft,zfu,zfw,zfy,zfz,zg0,zg1,zhf]
    tactic =>
      unfold x67l0
      rw [loop_rule l.length (fun i => [I wo, .mp 0, .fs (l.map Fl.row), I l.length, I (i : Nat)]) (fun i => [mapB (esI wo l i)])]
      case' hs =>
        intro i hi
        obtain ⟨x, g0⟩ := at_ix hi
        have g1 := up_ix hi (by omega)
        have g2 := lt_ix hi
        obtain ⟨r1, r2, r3, r4⟩ := hr x (List.mem_of_getElem? g0)
        have g5 := w58' (esI_inv hr (wo := wo) i) r1 r2 r3 r4
        have e3 : esI wo l (i + 1) = if x.me || decide ((i : Int) = wo) then esI wo l i else put (esI wo l i) (mx (gI wo l i x.fr) (gI wo l i x.to)) (mn (gI wo l i x.fr) (gI wo l i x.to)) := by simp only [esI, g0]
        simp only [e3]
        rcases ptf ((i : Int) = wo) with g3 | g3 <;> cases g4 : x.me
      all_goals (sym => (simp [etaM, etaF, z00,z01,z02,z05,z06,z07,z09,z0b,z0c,z0f,z0h,z0i,z0k,z0n,z0o,z0q,z0r,z0v,z0z,z12,z15,z1c,z1f,z1j,z1n,z1o,z1r,z1u,z20,z21,z22,z23,z26,z29,z2b,z2g,z2h,z2j,z2u,z2v,z33,z34,z3h,z4l,z4q,z4u,z54,z55,z57,z59,z66,z6a,z6b,z6f,z6y,z7r,z7u,z7w,z80,z8d,z9d,z9e,z9g,z9i,z9j,z9k,z9l,z9m,z9n,z9p,z9r,z9t,z9v,z9w,z9y,za0,za1,za2,za3,za5,za6,za7,za8,za9,zaa,zab,zac,zae,zaf,zal,zaq,zas,zat,zau,zba,zbc,zbd,zbe,zbf,zbg,zbk,zbt,zbu,zbw,zbx,zby,zbz,zc0,zc3,zc4,zc5,zc6,zc8,zca,zcc,zcd,zce,zcf,zcg,zch,zcj,zcn,zco,zcp,zcq,zcr,zct,zcu,zcv,zcw,zcx,zcy,zd3,zd6,zd7,zd9,zdb,zdd,zdj,zdk,zdl,zdo,zds,zdt,zdu,zdv,zdw,zdx,ze2,ze3,ze9,zeo,zep,zeu,zf5,zf6,zf7,zf8,zf9,zfa,zfb,zfc,zfd,zfg,zfm,zfo,zfp,zfq,zfr,zfs,zft,zfu,zfw,zfy,zfz,zg0,zg1,zhf, g0, g1, g2, g3, g4, g5, zg7]; all_goals tactic => exact rfl))
end Go.Proofs.Ytdbikamciedfdaa
namespace Go.Proofs.Ytdbikamciedfdaa
open Go Go.DL
set_option maxRecDepth 100000
set_option maxHeartbeats 1000000

/-- Numbers from 0, and heads as a list: of -1 first. -/
def hsR (n : Nat) : List Int := (List.range n).map fun (j : Nat) => (j : Int)
def hsL (U : Nat) (g : Int → Int) : List Int := (List.range (U + 1)).map fun (j : Nat) => g ((j : Int) - 1) + 1
theorem hsR_len (n : Nat) : (hsR n).length = n := by simp [hsR]
theorem hsL_len (U : Nat) (g : Int → Int) : (hsL U g).length = U + 1 := by simp [hsL]
theorem hsR_succ (n : Nat) : hsR (n + 1) = hsR n ++ [(n : Int)] := by simp [hsR, List.range_succ]
theorem hsL_id (U : Nat) : hsL U (fun x => x) = hsR (U + 1) := by
  unfold hsL hsR
  apply List.map_congr_left
  intro j _
  show (j : Int) - 1 + 1 = j
  omega
theorem hsL_get {U : Nat} {g : Int → Int} {x : Int} (h1 : -1 ≤ x) (h2 : x < U) : (hsL U g)[(x + 1).toNat]? = some (g x + 1) := by
  unfold hsL
  rw [List.getElem?_map, List.getElem?_range (by omega)]
  simp only [Option.map_some, Option.some.injEq]
  rw [show (((x + 1).toNat : Nat) : Int) - 1 = x by omega]
/-- Heads, of which the first are changed. -/
def mgK (U : Nat) (g : Int → Int) (a b : Int) (k : Nat) : List Int := (List.range (U + 1)).map fun (j : Nat) => if j < k ∧ g ((j : Int) - 1) + 1 = mx a b then mn a b else g ((j : Int) - 1) + 1
theorem mgK_len (U : Nat) (g : Int → Int) (a b : Int) (k : Nat) : (mgK U g a b k).length = U + 1 := by simp [mgK]
theorem mgK_zero (U : Nat) (g : Int → Int) (a b : Int) : mgK U g a b 0 = hsL U g := by simp [mgK, hsL]
theorem mgK_get {U : Nat} {g : Int → Int} {a b : Int} {k : Nat} (h : k < U + 1) : (mgK U g a b k)[k]? = some (g ((k : Int) - 1) + 1) := by
  unfold mgK
  rw [List.getElem?_map, List.getElem?_range h]
  simp
theorem mgK_keep {U : Nat} {g : Int → Int} {a b : Int} {k : Nat} (h : g ((k : Int) - 1) + 1 ≠ mx a b) : mgK U g a b (k + 1) = mgK U g a b k := by
  unfold mgK
  apply List.map_congr_left
  intro j _
  by_cases hj : j = k
  · subst hj; simp [h]
  · have : j < k + 1 ↔ j < k := by omega
    simp [this]
theorem mgK_set {U : Nat} {g : Int → Int} {a b : Int} {k : Nat} (hk : k < U + 1) (h : g ((k : Int) - 1) + 1 = mx a b) : mgK U g a b (k + 1) = setX (mgK U g a b k) k (mn a b) := by
  rw [setX_set (by rw [mgK_len]; exact hk)]
  apply List.ext_getElem?
  intro j
  rw [List.getElem?_set]
  unfold mgK
  rw [List.getElem?_map, List.getElem?_map]
  by_cases hj : k = j
  · subst hj
    rw [if_pos rfl, List.getElem?_range hk]
    simp [h, hk]
  · rw [if_neg hj]
    by_cases hl : j < U + 1
    · rw [List.getElem?_range hl]
      have : j < k + 1 ↔ j < k := by omega
      simp [this]
    · rw [List.getElem?_eq_none (by simp; omega)]
      rfl
theorem mgK_all {U : Nat} {g : Int → Int} {p q : Int} : mgK U g (g p + 1) (g q + 1) (U + 1) = hsL U fun x => if g x = mx (g p) (g q) then mn (g p) (g q) else g x := by
  unfold mgK hsL
  apply List.map_congr_left
  intro j hj
  have hj : j < U + 1 := by simpa using hj
  have e1 : mx (g p + 1) (g q + 1) = mx (g p) (g q) + 1 := by unfold mx; split <;> split <;> omega
  have e2 : mn (g p + 1) (g q + 1) = mn (g p) (g q) + 1 := by unfold mn; split <;> split <;> omega
  rw [e1, e2]
  simp only [hj, true_and]
  by_cases h : g ((j : Int) - 1) = mx (g p) (g q)
  · rw [if_pos (by omega), if_pos h]
  · rw [if_neg (by omega), if_neg h]

theorem w37 (U : Nat) (l : List Fl) (wo : Int) (hn : l.length < 1000000) (hU : U < 1000000) (hr : rngL U l) :
    runW progX 37 [plA U l, I wo] [] = some (rI (hsL U (gI wo l l.length)), []) := by
  have rd : ∀ x ∈ l, IntKind.i64.wrap (x.fr + 1) = x.fr + 1 ∧ IntKind.i64.wrap (x.to + 1) = x.to + 1 ∧ (0 ≤ x.fr + 1) = True ∧ (0 ≤ x.to + 1) = True ∧ (x.fr + 1 < ((U + 1 : Nat) : Int)) = True ∧ (x.to + 1 < ((U + 1 : Nat) : Int)) = True ∧ -1 ≤ x.fr ∧ x.fr < U ∧ -1 ≤ x.to ∧ x.to < U := by
    intro x hx
    obtain ⟨r1, r2, r3, r4⟩ := hr x hx
    exact ⟨wrap_ok (by omega) (by omega), wrap_ok (by omega) (by omega), eq_true (by omega), eq_true (by omega), eq_true (by omega), eq_true (by omega), r1, r2, r3, r4⟩
  have rk : ∀ (g : Int → Int) (a b : Int) (k : Nat), k < U + 1 → IntKind.i64.wrap ((k : Int) + 1) = (k : Int) + 1 ∧ ((k : Int) < ((U + 1 : Nat) : Int)) = True ∧ (mgK U g a b k)[k]? = some (g ((k : Int) - 1) + 1) ∧ (k + 1 ≤ (mgK U g a b k).length) = True ∧
      (((a < b) = True ∧ (b < a) = False ∧ (((g ((k : Int) - 1) + 1 = b) = True ∧ mgK U g a b (k + 1) = setX (mgK U g a b k) k a) ∨ ((g ((k : Int) - 1) + 1 = b) = False ∧ mgK U g a b (k + 1) = mgK U g a b k))) ∨
       ((a < b) = False ∧ (((b < a) = True ∧ (((g ((k : Int) - 1) + 1 = a) = True ∧ mgK U g a b (k + 1) = setX (mgK U g a b k) k b) ∨ ((g ((k : Int) - 1) + 1 = a) = False ∧ mgK U g a b (k + 1) = mgK U g a b k))) ∨
        ((b < a) = False ∧ (((g ((k : Int) - 1) + 1 = a) = True ∧ mgK U g a b (k + 1) = setX (mgK U g a b k) k a) ∨ ((g ((k : Int) - 1) + 1 = a) = False ∧ mgK U g a b (k + 1) = mgK U g a b k)))))) := by
    intro g a b k hk
    refine ⟨up_ix hk (by omega), eq_true (by omega), mgK_get hk, eq_true (by rw [mgK_len]; omega), ?_⟩
    by_cases hab : a < b
    · have e1 : mx a b = b := by unfold mx; simp [hab]
      have e2 : mn a b = a := by unfold mn; rw [if_neg (by omega)]
      refine .inl ⟨eq_true hab, eq_false (by omega), ?_⟩
      by_cases hh : g ((k : Int) - 1) + 1 = b
      · exact .inl ⟨eq_true hh, by rw [mgK_set hk (by rw [e1, hh]), e2]⟩
      · exact .inr ⟨eq_false hh, mgK_keep (by rw [e1]; exact hh)⟩
    · have e1 : mx a b = a := by unfold mx; rw [if_neg (by omega)]
      refine .inr ⟨eq_false hab, ?_⟩
      by_cases hba : b < a
      · have e2 : mn a b = b := by unfold mn; rw [if_pos hba]
        refine .inl ⟨eq_true hba, ?_⟩
        by_cases hh : g ((k : Int) - 1) + 1 = a
        · exact .inl ⟨eq_true hh, by rw [mgK_set hk (by rw [e1, hh]), e2]⟩
        · exact .inr ⟨eq_false hh, mgK_keep (by rw [e1]; exact hh)⟩
      · have e2 : mn a b = a := by unfold mn; rw [if_neg hba]
        refine .inr ⟨eq_false hba, ?_⟩
        by_cases hh : g ((k : Int) - 1) + 1 = a
        · exact .inl ⟨eq_true hh, by rw [mgK_set hk (by rw [e1, hh]), e2]⟩
        · exact .inr ⟨eq_false hh, mgK_keep (by rw [e1]; exact hh)⟩
  rw [r37 (by simp)]; unfold x37; dsimp only
  have g0 := pad
  have g1 := pad
  have g2 := pad
  have g3 := pad
  have g4 := pad
  have g5 := pad
  have g6 := pad
  have g7 := pad
  have q0 : hsR 0 = [] := rfl
  sym =>
    simp [etaM, etaF, z00,z01,z02,z03,z04,z05,z07,z08,z0b,z0c,z0f,z0h,z0j,z0l,z0n,z0q,z0r,z0t,z0v,z12,z15,z1f,z1g,z1j,z1k,z1l,z1m,z1n,z1o,z1z,z22,z23,z29,z2a,z2b,z2c,z2f,z2g,z2h,z2j,z2t,z2v,z2w,z33,z34,z36,z3h,z3j,z42,z43,z4l,z4q,z4s,z4t,z4v,z54,z57,z59,z66,z6b,z6d,z6e,z6g,z6w,z7f,z7r,z7u,z7w,z8a,z8d,z9d,z9e,z9g,z9i,z9j,z9k,z9l,z9m,z9n,z9p,z9r,z9s,z9v,z9w,z9y,za0,za1,za3,za6,za7,za8,za9,zae,zaf,zal,zb4,zb5,zb9,zba,zbb,zbm,zbp,zbt,zbu,zbw,zbx,zby,zbz,zc0,zc3,zc4,zc5,zc6,zc8,zca,zcc,zcd,zce,zcf,zcg,zch,zcj,zcn,zco,zcp,zcq,zcr,zct,zcu,zcv,zcw,zcx,zcy,zd3,zdd,zdj,zdk,zdl,zdm,zdn,zds,zdt,zdu,zdv,zdw,zdx,ze2,ze3,ze9,zea,zeb,zec,zeo,zep,zeq,zer,zes,zet,zez,zf0,zf1,zf2,zf3,zf4,zf5,zf6,zf7,zf8,zf9,zfb,zfc,zfd,zfg,zfh,zfi,zfj,zfl,zfm,zfo,zfp,zfq,zfr,zfs,zft,zfu,zfw,zfy,zfz,zg0,zg1,zhb,zhd,zhe,zhf,zhg,zhi,zhk,zhp]
    tactic =>
      unfold x37l0
      rw [loop_rule (U + 1) (fun i => [I wo, .pt 0 0, if i = 0 then .nilsl else .sl 1 0 1 i, I (i : Nat)]) (fun i => if i = 0 then [some (.blk true (.cells true [I U, .fs (l.map Fl.row)]))] else [some (.blk true (.cells true [I U, .fs (l.map Fl.row)])), some (.blk true (.cells true ((hsR i).map I)))])]
      · have g8 := hsL_len U (fun x => x)
        rw [hsL_id] at g8
        have h0 : ((((U + 1 : Nat) : Int) ≤ (U : Int)) = False) := eq_false (by omega)
        simp only [Nat.add_one_ne_zero, if_false]
        sym =>
          simp [etaM, etaF, z00,z01,z02,z03,z04,z05,z07,z08,z0b,z0c,z0f,z0h,z0j,z0l,z0n,z0q,z0r,z0t,z0v,z12,z15,z1f,z1g,z1j,z1k,z1l,z1m,z1n,z1o,z1z,z22,z23,z29,z2a,z2b,z2c,z2f,z2g,z2h,z2j,z2t,z2v,z2w,z33,z34,z36,z3h,z3j,z42,z43,z4l,z4q,z4s,z4t,z4v,z54,z57,z59,z66,z6b,z6d,z6e,z6g,z6w,z7f,z7r,z7u,z7w,z8a,z8d,z9d,z9e,z9g,z9i,z9j,z9k,z9l,z9m,z9n,z9p,z9r,z9s,z9v,z9w,z9y,za0,za1,za3,za6,za7,za8,za9,zae,zaf,zal,zb4,zb5,zb9,zba,zbb,zbm,zbp,zbt,zbu,zbw,zbx,zby,zbz,zc0,zc3,zc4,zc5,zc6,zc8,zca,zcc,zcd,zce,zcf,zcg,zch,zcj,zcn,zco,zcp,zcq,zcr,zct,zcu,zcv,zcw,zcx,zcy,zd3,zdd,zdj,zdk,zdl,zdm,zdn,zds,zdt,zdu,zdv,zdw,zdx,ze2,ze3,ze9,zea,zeb,zec,zeo,zep,zeq,zer,zes,zet,zez,zf0,zf1,zf2,zf3,zf4,zf5,zf6,zf7,zf8,zf9,zfb,zfc,zfd,zfg,zfh,zfi,zfj,zfl,zfm,zfo,zfp,zfq,zfr,zfs,zft,zfu,zfw,zfy,zfz,zg0,zg1,zhb,zhd,zhe,zhf,zhg,zhi,zhk,zhp, h0, g8]
          tactic =>
            unfold x37l2
            rw [loop_rule l.length (fun i => [I wo, .pt 0 0, .sl 1 0 1 (U + 1), I (i : Nat)]) (fun i => [some (.blk true (.cells true [I U, .fs (l.map Fl.row)])), some (.blk true (.cells true ((hsL U (gI wo l i)).map I)))])]
            · have g0 := hsL_len U (gI wo l l.length)
              have g1 := zhk (hs := hsL U (gI wo l l.length))
              rw [g0] at g1
              (sym => (simp [etaM, etaF, z00,z01,z02,z03,z04,z05,z07,z08,z0b,z0c,z0f,z0h,z0j,z0l,z0n,z0q,z0r,z0t,z0v,z12,z15,z1f,z1g,z1j,z1k,z1l,z1m,z1n,z1o,z1z,z22,z23,z29,z2a,z2b,z2c,z2f,z2g,z2h,z2j,z2t,z2v,z2w,z33,z34,z36,z3h,z3j,z42,z43,z4l,z4q,z4s,z4t,z4v,z54,z57,z59,z66,z6b,z6d,z6e,z6g,z6w,z7f,z7r,z7u,z7w,z8a,z8d,z9d,z9e,z9g,z9i,z9j,z9k,z9l,z9m,z9n,z9p,z9r,z9s,z9v,z9w,z9y,za0,za1,za3,za6,za7,za8,za9,zae,zaf,zal,zb4,zb5,zb9,zba,zbb,zbm,zbp,zbt,zbu,zbw,zbx,zby,zbz,zc0,zc3,zc4,zc5,zc6,zc8,zca,zcc,zcd,zce,zcf,zcg,zch,zcj,zcn,zco,zcp,zcq,zcr,zct,zcu,zcv,zcw,zcx,zcy,zd3,zdd,zdj,zdk,zdl,zdm,zdn,zds,zdt,zdu,zdv,zdw,zdx,ze2,ze3,ze9,zea,zeb,zec,zeo,zep,zeq,zer,zes,zet,zez,zf0,zf1,zf2,zf3,zf4,zf5,zf6,zf7,zf8,zf9,zfb,zfc,zfd,zfg,zfh,zfi,zfj,zfl,zfm,zfo,zfp,zfq,zfr,zfs,zft,zfu,zfw,zfy,zfz,zg0,zg1,zhb,zhd,zhe,zhf,zhg,zhi,zhk,zhp, g0, g1]; all_goals tactic => exact rfl))
            · have g0 : hsL U (gI wo l 0) = hsR (U + 1) := hsL_id U
              (sym => (simp [etaM, etaF, z00,z01,z02,z03,z04,z05,z07,z08,z0b,z0c,z0f,z0h,z0j,z0l,z0n,z0q,z0r,z0t,z0v,z12,z15,z1f,z1g,z1j,z1k,z1l,z1m,z1n,z1o,z1z,z22,z23,z29,z2a,z2b,z2c,z2f,z2g,z2h,z2j,z2t,z2v,z2w,z33,z34,z36,z3h,z3j,z42,z43,z4l,z4q,z4s,z4t,z4v,z54,z57,z59,z66,z6b,z6d,z6e,z6g,z6w,z7f,z7r,z7u,z7w,z8a,z8d,z9d,z9e,z9g,z9i,z9j,z9k,z9l,z9m,z9n,z9p,z9r,z9s,z9v,z9w,z9y,za0,za1,za3,za6,za7,za8,za9,zae,zaf,zal,zb4,zb5,zb9,zba,zbb,zbm,zbp,zbt,zbu,zbw,zbx,zby,zbz,zc0,zc3,zc4,zc5,zc6,zc8,zca,zcc,zcd,zce,zcf,zcg,zch,zcj,zcn,zco,zcp,zcq,zcr,zct,zcu,zcv,zcw,zcx,zcy,zd3,zdd,zdj,zdk,zdl,zdm,zdn,zds,zdt,zdu,zdv,zdw,zdx,ze2,ze3,ze9,zea,zeb,zec,zeo,zep,zeq,zer,zes,zet,zez,zf0,zf1,zf2,zf3,zf4,zf5,zf6,zf7,zf8,zf9,zfb,zfc,zfd,zfg,zfh,zfi,zfj,zfl,zfm,zfo,zfp,zfq,zfr,zfs,zft,zfu,zfw,zfy,zfz,zg0,zg1,zhb,zhd,zhe,zhf,zhg,zhi,zhk,zhp, g0]; all_goals tactic => exact rfl))
            · intro i hi
              obtain ⟨x, k0⟩ := at_ix hi
              have k1 := up_ix hi (by omega)
              have k2 := lt_ix hi
              obtain ⟨k3, k4, k5, k6, k7, k8, r1, r2, r3, r4⟩ := rd x (List.mem_of_getElem? k0)
              have k9 := hsL_get (g := gI wo l i) r1 r2
              have k10 := hsL_get (g := gI wo l i) r3 r4
              cases hc : x.me || decide ((i : Int) = wo) with
              | true =>
                have e1 : gI wo l (i + 1) = gI wo l i := by funext x; simp only [gI, k0, hc, if_true]
                rw [e1]
                rcases ptf ((i : Int) = wo) with g3 | g3 <;> cases g4 : x.me <;> first | (simp [g3, g4] at hc; done) | (sym => (simp [etaM, etaF, z00,z01,z02,z03,z04,z05,z07,z08,z0b,z0c,z0f,z0h,z0j,z0l,z0n,z0q,z0r,z0t,z0v,z12,z15,z1f,z1g,z1j,z1k,z1l,z1m,z1n,z1o,z1z,z22,z23,z29,z2a,z2b,z2c,z2f,z2g,z2h,z2j,z2t,z2v,z2w,z33,z34,z36,z3h,z3j,z42,z43,z4l,z4q,z4s,z4t,z4v,z54,z57,z59,z66,z6b,z6d,z6e,z6g,z6w,z7f,z7r,z7u,z7w,z8a,z8d,z9d,z9e,z9g,z9i,z9j,z9k,z9l,z9m,z9n,z9p,z9r,z9s,z9v,z9w,z9y,za0,za1,za3,za6,za7,za8,za9,zae,zaf,zal,zb4,zb5,zb9,zba,zbb,zbm,zbp,zbt,zbu,zbw,zbx,zby,zbz,zc0,zc3,zc4,zc5,zc6,zc8,zca,zcc,zcd,zce,zcf,zcg,zch,zcj,zcn,zco,zcp,zcq,zcr,zct,zcu,zcv,zcw,zcx,zcy,zd3,zdd,zdj,zdk,zdl,zdm,zdn,zds,zdt,zdu,zdv,zdw,zdx,ze2,ze3,ze9,zea,zeb,zec,zeo,zep,zeq,zer,zes,zet,zez,zf0,zf1,zf2,zf3,zf4,zf5,zf6,zf7,zf8,zf9,zfb,zfc,zfd,zfg,zfh,zfi,zfj,zfl,zfm,zfo,zfp,zfq,zfr,zfs,zft,zfu,zfw,zfy,zfz,zg0,zg1,zhb,zhd,zhe,zhf,zhg,zhi,zhk,zhp, k0, k1, k2, k3, k4, k5, k6, k7, k8, k9, k10, g3, g4]; all_goals tactic => exact rfl))
              | false =>
                have e1 : gI wo l (i + 1) = fun y => if gI wo l i y = mx (gI wo l i x.fr) (gI wo l i x.to) then mn (gI wo l i x.fr) (gI wo l i x.to) else gI wo l i y := by funext x; simp only [gI, k0, hc]; rfl
                rw [e1, ← mgK_all]
                have g4 : x.me = false := by simpa using (Bool.or_eq_false_iff.1 hc).1
                have g3 : ((i : Int) = wo) = False := by simpa using (Bool.or_eq_false_iff.1 hc).2
                generalize gI wo l i = g at *
                sym =>
                  simp [etaM, etaF, z00,z01,z02,z03,z04,z05,z07,z08,z0b,z0c,z0f,z0h,z0j,z0l,z0n,z0q,z0r,z0t,z0v,z12,z15,z1f,z1g,z1j,z1k,z1l,z1m,z1n,z1o,z1z,z22,z23,z29,z2a,z2b,z2c,z2f,z2g,z2h,z2j,z2t,z2v,z2w,z33,z34,z36,z3h,z3j,z42,z43,z4l,z4q,z4s,z4t,z4v,z54,z57,z59,z66,z6b,z6d,z6e,z6g,z6w,z7f,z7r,z7u,z7w,z8a,z8d,z9d,z9e,z9g,z9i,z9j,z9k,z9l,z9m,z9n,z9p,z9r,z9s,z9v,z9w,z9y,za0,za1,za3,za6,za7,za8,za9,zae,zaf,zal,zb4,zb5,zb9,zba,zbb,zbm,zbp,zbt,zbu,zbw,zbx,zby,zbz,zc0,zc3,zc4,zc5,zc6,zc8,zca,zcc,zcd,zce,zcf,zcg,zch,zcj,zcn,zco,zcp,zcq,zcr,zct,zcu,zcv,zcw,zcx,zcy,zd3,zdd,zdj,zdk,zdl,zdm,zdn,zds,zdt,zdu,zdv,zdw,zdx,ze2,ze3,ze9,zea,zeb,zec,zeo,zep,zeq,zer,zes,zet,zez,zf0,zf1,zf2,zf3,zf4,zf5,zf6,zf7,zf8,zf9,zfb,zfc,zfd,zfg,zfh,zfi,zfj,zfl,zfm,zfo,zfp,zfq,zfr,zfs,zft,zfu,zfw,zfy,zfz,zg0,zg1,zhb,zhd,zhe,zhf,zhg,zhi,zhk,zhp, k0, k1, k2, k3, k4, k5, k6, k7, k8, k9, k10, g3, g4]
                  tactic =>
                    generalize g x.fr + 1 = a at *
                    generalize g x.to + 1 = b at *
                    unfold x37l1
                    rw [loop_rule (U + 1) (fun k => [I wo, .pt 0 0, .sl 1 0 1 (U + 1), I (i : Nat), I a, I b, I (k : Nat)]) (fun k => [some (.blk true (.cells true [I U, .fs (l.map Fl.row)])), some (.blk true (.cells true ((mgK U g a b k).map I)))])]
                    have m0 := zf5 (n := ((U + 1 : Nat) : Int))
                    have m1 := pad
                    have m2 := pad
                    have m4 := pad
                    have m5 := pad
                    have m6 := pad
                    have m7 := pad
                    have m8 := pad
                    case' hs =>
                      intro k hk
                      obtain ⟨m0, m1, m2, m8, m3⟩ := rk g a b k hk
                      rcases m3 with ⟨m4, m5, ⟨m6, m7⟩ | ⟨m6, m7⟩⟩ | ⟨m4, ⟨m5, ⟨m6, m7⟩ | ⟨m6, m7⟩⟩ | ⟨m5, ⟨m6, m7⟩ | ⟨m6, m7⟩⟩⟩
                    case' h0 =>
                      have m0 := mgK_zero U g a b
                      have m1 := pad
                      have m2 := pad
                      have m4 := pad
                      have m5 := pad
                      have m6 := pad
                      have m7 := pad
                      have m8 := pad
                    case' hl =>
                      have m0 := zf5 (n := ((U + 1 : Nat) : Int))
                      have m1 := pad
                      have m2 := pad
                      have m4 := pad
                      have m5 := pad
                      have m6 := pad
                      have m7 := pad
                      have m8 := pad
                    all_goals (sym => (simp [etaM, etaF, z00,z01,z02,z03,z04,z05,z07,z08,z0b,z0c,z0f,z0h,z0j,z0l,z0n,z0q,z0r,z0t,z0v,z12,z15,z1f,z1g,z1j,z1k,z1l,z1m,z1n,z1o,z1z,z22,z23,z29,z2a,z2b,z2c,z2f,z2g,z2h,z2j,z2t,z2v,z2w,z33,z34,z36,z3h,z3j,z42,z43,z4l,z4q,z4s,z4t,z4v,z54,z57,z59,z66,z6b,z6d,z6e,z6g,z6w,z7f,z7r,z7u,z7w,z8a,z8d,z9d,z9e,z9g,z9i,z9j,z9k,z9l,z9m,z9n,z9p,z9r,z9s,z9v,z9w,z9y,za0,za1,za3,za6,za7,za8,za9,zae,zaf,zal,zb4,zb5,zb9,zba,zbb,zbm,zbp,zbt,zbu,zbw,zbx,zby,zbz,zc0,zc3,zc4,zc5,zc6,zc8,zca,zcc,zcd,zce,zcf,zcg,zch,zcj,zcn,zco,zcp,zcq,zcr,zct,zcu,zcv,zcw,zcx,zcy,zd3,zdd,zdj,zdk,zdl,zdm,zdn,zds,zdt,zdu,zdv,zdw,zdx,ze2,ze3,ze9,zea,zeb,zec,zeo,zep,zeq,zer,zes,zet,zez,zf0,zf1,zf2,zf3,zf4,zf5,zf6,zf7,zf8,zf9,zfb,zfc,zfd,zfg,zfh,zfi,zfj,zfl,zfm,zfo,zfp,zfq,zfr,zfs,zft,zfu,zfw,zfy,zfz,zg0,zg1,zhb,zhd,zhe,zhf,zhg,zhi,zhk,zhp, k1, m0, m1, m2, m4, m5, m6, m7, m8]; all_goals tactic => exact rfl))
            · (sym => (simp [etaM, etaF, z00,z01,z02,z03,z04,z05,z07,z08,z0b,z0c,z0f,z0h,z0j,z0l,z0n,z0q,z0r,z0t,z0v,z12,z15,z1f,z1g,z1j,z1k,z1l,z1m,z1n,z1o,z1z,z22,z23,z29,z2a,z2b,z2c,z2f,z2g,z2h,z2j,z2t,z2v,z2w,z33,z34,z36,z3h,z3j,z42,z43,z4l,z4q,z4s,z4t,z4v,z54,z57,z59,z66,z6b,z6d,z6e,z6g,z6w,z7f,z7r,z7u,z7w,z8a,z8d,z9d,z9e,z9g,z9i,z9j,z9k,z9l,z9m,z9n,z9p,z9r,z9s,z9v,z9w,z9y,za0,za1,za3,za6,za7,za8,za9,zae,zaf,zal,zb4,zb5,zb9,zba,zbb,zbm,zbp,zbt,zbu,zbw,zbx,zby,zbz,zc0,zc3,zc4,zc5,zc6,zc8,zca,zcc,zcd,zce,zcf,zcg,zch,zcj,zcn,zco,zcp,zcq,zcr,zct,zcu,zcv,zcw,zcx,zcy,zd3,zdd,zdj,zdk,zdl,zdm,zdn,zds,zdt,zdu,zdv,zdw,zdx,ze2,ze3,ze9,zea,zeb,zec,zeo,zep,zeq,zer,zes,zet,zez,zf0,zf1,zf2,zf3,zf4,zf5,zf6,zf7,zf8,zf9,zfb,zfc,zfd,zfg,zfh,zfi,zfj,zfl,zfm,zfo,zfp,zfq,zfr,zfs,zft,zfu,zfw,zfy,zfz,zg0,zg1,zhb,zhd,zhe,zhf,zhg,zhi,zhk,zhp, g0]; all_goals tactic => exact rfl))
      case' hs =>
        intro i hi
        have g0 : (((i : Int) ≤ (U : Int)) = True) := eq_true (by omega)
        have g1 := up_ix hi (by omega)
        have g2 : (((i + 1) * 8 ≤ 1099511627776) = True) := eq_true (by omega)
        have g3 : ((i + 1 ≤ 1099511627776) = True) := eq_true (by omega)
        have g4 := hsR_len i
        have g5 := hsR_succ i
        have q1 : (i + 1 = 0) = False := by simp
        simp only [q1, if_false]
        rcases Nat.eq_zero_or_pos i with hz | hz
        rotate_left
        have g6 : (i = 0) = False := eq_false (by omega)
        simp only [g6, if_false]
        rotate_left
        subst hz
        simp only [if_true]
      case' h0 => simp only [if_true]
      case' hl =>
        have g0 : ((((U + 1 : Nat) : Int) ≤ (U : Int)) = False) := eq_false (by omega)
        simp only [Nat.add_one_ne_zero, if_false]
      all_goals (sym => (simp [etaM, etaF, z00,z01,z02,z03,z04,z05,z07,z08,z0b,z0c,z0f,z0h,z0j,z0l,z0n,z0q,z0r,z0t,z0v,z12,z15,z1f,z1g,z1j,z1k,z1l,z1m,z1n,z1o,z1z,z22,z23,z29,z2a,z2b,z2c,z2f,z2g,z2h,z2j,z2t,z2v,z2w,z33,z34,z36,z3h,z3j,z42,z43,z4l,z4q,z4s,z4t,z4v,z54,z57,z59,z66,z6b,z6d,z6e,z6g,z6w,z7f,z7r,z7u,z7w,z8a,z8d,z9d,z9e,z9g,z9i,z9j,z9k,z9l,z9m,z9n,z9p,z9r,z9s,z9v,z9w,z9y,za0,za1,za3,za6,za7,za8,za9,zae,zaf,zal,zb4,zb5,zb9,zba,zbb,zbm,zbp,zbt,zbu,zbw,zbx,zby,zbz,zc0,zc3,zc4,zc5,zc6,zc8,zca,zcc,zcd,zce,zcf,zcg,zch,zcj,zcn,zco,zcp,zcq,zcr,zct,zcu,zcv,zcw,zcx,zcy,zd3,zdd,zdj,zdk,zdl,zdm,zdn,zds,zdt,zdu,zdv,zdw,zdx,ze2,ze3,ze9,zea,zeb,zec,zeo,zep,zeq,zer,zes,zet,zez,zf0,zf1,zf2,zf3,zf4,zf5,zf6,zf7,zf8,zf9,zfb,zfc,zfd,zfg,zfh,zfi,zfj,zfl,zfm,zfo,zfp,zfq,zfr,zfs,zft,zfu,zfw,zfy,zfz,zg0,zg1,zhb,zhd,zhe,zhf,zhg,zhi,zhk,zhp, g0, g1, g2, g3, g4, g5, g6, g7, q0]; all_goals tactic => exact rfl))
end Go.Proofs.Ytdbikamciedfdaa
namespace Go.Proofs.Ytdbikamciedfdaa
open Go Go.DL
set_option maxRecDepth 100000
set_option maxHeartbeats 1000000

theorem w50 (hs : List Int) (h : Int) (hn : hs.length < 1000000) : runW progX 50 [rI hs, I h] [] = some (rB (hs.map fun v => decide (v = h)), []) := by
  have ex : ∀ i, i < hs.length → ∃ x, hs[i]? = some x ∧ (hs.map fun v => decide (v = h)).take (i + 1) = (hs.map fun v => decide (v = h)).take i ++ [decide (x = h)] := by
    intro i hi
    refine ⟨hs[i], List.getElem?_eq_getElem hi, ?_⟩
    rw [List.take_add_one, List.getElem?_map, List.getElem?_eq_getElem hi]
    rfl
  have eb : ∀ i, (((hs.map fun v => decide (v = h)).take i).length < 1000001) := by intro i; simp; omega
  have el : (hs.map fun v => decide (v = h)) = (hs.map fun v => decide (v = h)).take hs.length := by rw [List.take_of_length_le (by simp)]
  rw [el]
  generalize hB : (fun i => (hs.map fun v => decide (v = h)).take i) = B at *
  have eB0 : B 0 = [] := by rw [← hB]; rfl
  have ex : ∀ i, i < hs.length → ∃ x, hs[i]? = some x ∧ B (i + 1) = B i ++ [decide (x = h)] := by rw [← hB]; exact ex
  have eb : ∀ i, (B i).length < 1000001 := by rw [← hB]; exact eb
  rw [show (hs.map fun v => decide (v = h)).take hs.length = B hs.length by rw [← hB]]
  rw [r50 (by simp)]; unfold x50; dsimp only
  have g0 := pad
  have g1 := pad
  have g2 := pad
  have g3 := pad
  have g4 := pad
  have g5 := pad
  sym =>
    simp [etaM, etaF, z00,z01,z03,z04,z05,z07,z0b,z0c,z0f,z0n,z0t,z0v,z15,z1f,z1j,z1z,z2b,z2g,z2h,z2j,z2t,z2v,z33,z34,z3h,z4l,z4q,z4s,z4v,z55,z66,z6b,z6d,z6g,z6w,z6z,z7f,z7r,z7w,z81,z8b,z9d,z9e,z9g,z9i,z9j,z9k,z9l,z9m,z9n,z9p,z9r,z9v,z9w,z9y,za0,za1,za3,za5,za6,za7,za8,za9,zae,zaf,zal,zb4,zb5,zb9,zba,zbb,zbm,zbp,zbt,zbu,zbw,zbx,zby,zbz,zc0,zc3,zc4,zc5,zc6,zc8,zca,zcc,zcd,zce,zcf,zcg,zch,zcj,zcn,zco,zcp,zcq,zcr,zct,zcu,zcv,zcw,zcx,zcy,zd3,zdd,zdj,zdk,zdl,zdm,zdn,zdo,zds,zdt,zdu,zdv,zdw,zdx,ze2,ze3,ze9,zea,zeb,zec,zeq,zer,zes,zet,zez,zf0,zf1,zf2,zf3,zf4,zf5,zf8,zf9,zfb,zfg,zfh,zfi,zfj,zfl,zfm,zfo,zfp,zfq,zfr,zfs,zft,zfu,zfw,zfy,zfz,zg0,zg1,zhb,zhc,zhd,zhe,zhf,zhg,zhp,zid,zie,zif,zig,zih]
    tactic =>
      unfold x50l0
      rw [loop_rule hs.length (fun i => [rI hs, I h, oSB 0 (B i), I (i : Nat)]) (fun i => oGB (B i))]
      rcases hb : B hs.length with _ | ⟨a, r⟩
      case' h0 => rw [eB0]
      case' hl => rcases hb : B hs.length with _ | ⟨a, r⟩
      case' hs =>
        intro i hi
        obtain ⟨x, g0, e⟩ := ex i hi
        have g1 := up_ix hi (by omega)
        have g2 := lt_ix hi
        have g5 := eb i
        rw [e]
        rcases hb : B i with _ | ⟨a, r⟩
        rotate_left
        rw [hb] at g5
        have g3 : ((r.length + 1 + 1) * 1 ≤ 1099511627776) = True := eq_true (by simp only [List.length_cons] at g5; omega)
        have g4 : (r.length + 1 + 1 ≤ 1099511627776) = True := eq_true (by simp only [List.length_cons] at g5; omega)
        clear g5
        have g5 := pad
        rotate_right
        clear g5
        have g5 := pad
      all_goals (sym => (simp [etaM, etaF, z00,z01,z03,z04,z05,z07,z0b,z0c,z0f,z0n,z0t,z0v,z15,z1f,z1j,z1z,z2b,z2g,z2h,z2j,z2t,z2v,z33,z34,z3h,z4l,z4q,z4s,z4v,z55,z66,z6b,z6d,z6g,z6w,z6z,z7f,z7r,z7w,z81,z8b,z9d,z9e,z9g,z9i,z9j,z9k,z9l,z9m,z9n,z9p,z9r,z9v,z9w,z9y,za0,za1,za3,za5,za6,za7,za8,za9,zae,zaf,zal,zb4,zb5,zb9,zba,zbb,zbm,zbp,zbt,zbu,zbw,zbx,zby,zbz,zc0,zc3,zc4,zc5,zc6,zc8,zca,zcc,zcd,zce,zcf,zcg,zch,zcj,zcn,zco,zcp,zcq,zcr,zct,zcu,zcv,zcw,zcx,zcy,zd3,zdd,zdj,zdk,zdl,zdm,zdn,zdo,zds,zdt,zdu,zdv,zdw,zdx,ze2,ze3,ze9,zea,zeb,zec,zeq,zer,zes,zet,zez,zf0,zf1,zf2,zf3,zf4,zf5,zf8,zf9,zfb,zfg,zfh,zfi,zfj,zfl,zfm,zfo,zfp,zfq,zfr,zfs,zft,zfu,zfw,zfy,zfz,zg0,zg1,zhb,zhc,zhd,zhe,zhf,zhg,zhp,zid,zie,zif,zig,zih, g0, g1, g2, g3, g4, g5]; all_goals tactic => exact rfl))
end Go.Proofs.Ytdbikamciedfdaa
namespace Go.Proofs.Ytdbikamciedfdaa
open Go Go.DL
set_option maxRecDepth 100000
set_option maxHeartbeats 1000000

/-- A list of bools says of each number from -1 whether it is in a set. -/
def inL (U : Nat) (bs : List Bool) (f : Int → Bool) : Prop := bs.length = U + 1 ∧ ∀ x : Int, -1 ≤ x → x < U → bs[(x + 1).toNat]? = some (f x)

theorem w41 (U : Nat) (l : List Fl) (bs : List Bool) (f : Int → Bool) (hn : l.length < 1000000) (hU : U < 1000000) (hr : rngL U l) (hb : inL U bs f) :
    runW progX 41 [plA U l, rB bs] [] = some (.agg [I (exI f (-1) l l.length).a, I (exI f (-1) l l.length).b, I (exI f (-1) l l.length).c, I (exI f (-1) l l.length).d], []) := by
  have rd : ∀ i, i < l.length → ∃ x, l[i]? = some x ∧ IntKind.i64.wrap (x.fr + 1) = x.fr + 1 ∧ IntKind.i64.wrap (x.to + 1) = x.to + 1 ∧ (0 ≤ x.fr + 1) = True ∧ (0 ≤ x.to + 1) = True ∧ (x.fr + 1 < (bs.length : Int)) = True ∧ (x.to + 1 < (bs.length : Int)) = True ∧ bs[(x.fr + 1).toNat]? = some (f x.fr) ∧ bs[(x.to + 1).toNat]? = some (f x.to) ∧
      IntKind.i64.wrap ((i : Int) + 1) = (i : Int) + 1 ∧ ((i : Int) < (l.length : Int)) = True ∧ exI f (-1) l (i + 1) = if !x.me || f x.to == f x.fr then exI f (-1) l i else if f x.to then (exI f (-1) l i).plus 1 x.m else (exI f (-1) l i).plus (-1) x.m := by
    intro i hi
    obtain ⟨x, hx⟩ := at_ix hi
    have hl := hb.1
    obtain ⟨r1, r2, r3, r4⟩ := hr x (List.mem_of_getElem? hx)
    refine ⟨x, hx, wrap_ok (by omega) (by omega), wrap_ok (by omega) (by omega), eq_true (by omega), eq_true (by omega), eq_true (by omega), eq_true (by omega), hb.2 _ r1 r2, hb.2 _ r3 r4, up_ix hi (by omega), lt_ix hi, ?_⟩
    have : ¬ ((i : Int) = -1) := by omega
    simp [exI, hx, exStep, this]
  rw [r41 (by simp)]; unfold x41; dsimp only
  have g0 := pad
  have g1 := pad
  have g2 := pad
  have g3 := pad
  have g4 := pad
  have g5 := pad
  have g6 := pad
  have g7 := pad
  have g8 := pad
  have g9 := pad
  have k1 := pad
  have k2 := pad
  have k3 := pad
  have k4 := pad
  sym =>
    simp [etaM, etaF, z00,z01,z02,z05,z06,z07,z09,z0b,z0c,z0f,z0h,z0i,z0k,z0n,z0o,z0q,z0r,z0v,z0z,z12,z15,z1f,z1j,z1n,z1o,z1r,z1u,z20,z21,z22,z23,z26,z29,z2b,z2g,z2h,z2j,z2v,z33,z34,z3h,z4l,z4o,z4q,z4t,z54,z55,z57,z59,z66,z69,z6b,z6e,z6p,z6s,z7r,z7u,z7w,z8d,z9d,z9e,z9g,z9i,z9j,z9k,z9l,z9m,z9n,z9p,z9r,z9s,z9v,z9w,z9y,za0,za1,za2,za3,za5,za6,za7,za8,za9,zaa,zab,zae,zaf,zal,zaq,zas,zat,zb1,zb2,zb3,zba,zbc,zbd,zbf,zbg,zbk,zbt,zbu,zbw,zbx,zby,zbz,zc0,zc3,zc4,zc5,zc7,zc8,zca,zcc,zcd,zce,zcf,zcg,zch,zcj,zcn,zco,zcp,zcq,zcr,zct,zcu,zcv,zcw,zcx,zcy,zd3,zd6,zd7,zd9,zdb,zdd,zdj,zdk,zdl,zdo,zds,zdt,zdu,zdv,zdw,zdx,zdy,zdz,ze2,ze3,ze9,zeo,zep,zf5,zf6,zf7,zf8,zf9,zfa,zfb,zfc,zfd,zfg,zfm,zfo,zfp,zfq,zfr,zfs,zft,zfu,zfw,zfy,zfz,zg0,zg1,zhf]
    tactic =>
      unfold x41l0
      rw [loop_rule l.length (fun i => [rB bs, .pt 0 0, .pt 1 0, .pt 2 0, I (i : Nat)]) (fun i => [some (.blk true (.cells true [I U, .fs (l.map Fl.row)])), some (.blk true (.cells true [I 0, I 0, I 0, I 0])), some (.blk true (.cells true [I (exI f (-1) l i).a, I (exI f (-1) l i).b, I (exI f (-1) l i).c, I (exI f (-1) l i).d]))])]
      case' hs =>
        intro i hi
        obtain ⟨x, g0, g1, g2, g3, g4, g5, g6, g7, g8, g9, k1, e⟩ := rd i hi
        rw [e]
        cases k2 : x.me <;> cases k3 : f x.to <;> cases k4 : f x.fr
      all_goals (sym => (simp [etaM, etaF, z00,z01,z02,z05,z06,z07,z09,z0b,z0c,z0f,z0h,z0i,z0k,z0n,z0o,z0q,z0r,z0v,z0z,z12,z15,z1f,z1j,z1n,z1o,z1r,z1u,z20,z21,z22,z23,z26,z29,z2b,z2g,z2h,z2j,z2v,z33,z34,z3h,z4l,z4o,z4q,z4t,z54,z55,z57,z59,z66,z69,z6b,z6e,z6p,z6s,z7r,z7u,z7w,z8d,z9d,z9e,z9g,z9i,z9j,z9k,z9l,z9m,z9n,z9p,z9r,z9s,z9v,z9w,z9y,za0,za1,za2,za3,za5,za6,za7,za8,za9,zaa,zab,zae,zaf,zal,zaq,zas,zat,zb1,zb2,zb3,zba,zbc,zbd,zbf,zbg,zbk,zbt,zbu,zbw,zbx,zby,zbz,zc0,zc3,zc4,zc5,zc7,zc8,zca,zcc,zcd,zce,zcf,zcg,zch,zcj,zcn,zco,zcp,zcq,zcr,zct,zcu,zcv,zcw,zcx,zcy,zd3,zd6,zd7,zd9,zdb,zdd,zdj,zdk,zdl,zdo,zds,zdt,zdu,zdv,zdw,zdx,zdy,zdz,ze2,ze3,ze9,zeo,zep,zf5,zf6,zf7,zf8,zf9,zfa,zfb,zfc,zfd,zfg,zfm,zfo,zfp,zfq,zfr,zfs,zft,zfu,zfw,zfy,zfz,zg0,zg1,zhf, g0, g1, g2, g3, g4, g5, g6, g7, g8, g9, k1, k2, k3, k4, w51]; all_goals tactic => exact rfl))
end Go.Proofs.Ytdbikamciedfdaa
namespace Go.Proofs.Ytdbikamciedfdaa
open Go Go.DL
set_option maxRecDepth 100000
set_option maxHeartbeats 1000000

theorem first_n (P : Nat → Bool) : ∀ m, ∃ n, n ≤ m ∧ (∀ i, i < n → P i = false) ∧ (n = m ∨ (n < m ∧ P n = true))
  | 0 => ⟨0, Nat.le_refl _, fun i hi => absurd hi (by omega), .inl rfl⟩
  | m + 1 => by
    obtain ⟨n, h1, h2, h3⟩ := first_n P m
    rcases h3 with h3 | ⟨h3, h4⟩
    · subst h3
      cases hp : P n with
      | true => exact ⟨n, by omega, h2, .inr ⟨by omega, hp⟩⟩
      | false =>
        refine ⟨n + 1, by omega, fun i hi => ?_, .inl rfl⟩
        by_cases hc : i = n
        · rw [hc, hp]
        · exact h2 i (by omega)
    · exact ⟨n, by omega, h2, .inr ⟨by omega, h4⟩⟩

/-- The error of a list of units. -/
def selE (U : Int) (last : Int) : List Int → Int
  | [] => 0
  | u :: r => if btw 0 u (wr (U - 1)) then if u ≤ last then 7 else selE U u r else 17
def lastI (us : List Int) : Nat → Int
  | 0 => -1
  | i + 1 => us.getD i 0
def chE (U : Int) (l : List Fl) (us : List Int) : Int := if checkP U l = 0 then if us = [] then 4 else selE U (-1) us else checkP U l
def badI (U : Int) (us : List Int) (i : Nat) : Bool := !(btw 0 (us.getD i 0) (wr (U - 1))) || decide (us.getD i 0 ≤ lastI us i)
theorem selE_step {U : Int} {us : List Int} : ∀ i, i ≤ us.length → (∀ j, j < i → badI U us j = false) → selE U (-1) us = selE U (lastI us i) (us.drop i)
  | 0, _, _ => rfl
  | i + 1, hi, h => by
    rw [selE_step i (by omega) (fun j hj => h j (by omega))]
    have hb := h i (by omega)
    simp only [badI, Bool.or_eq_false_iff, Bool.not_eq_false', decide_eq_false_iff_not] at hb
    have hg : us.getD i 0 = us[i] := by simp [List.getD_eq_getElem?_getD, List.getElem?_eq_getElem (show i < us.length by omega)]
    rw [List.drop_eq_getElem_cons (by omega), selE, ← hg, if_pos hb.1, if_neg hb.2]
    rfl
/-- Where the list of units ends, or errs. -/
theorem sel_ix (U : Int) (us : List Int) : ∃ n, n ≤ us.length ∧
    (∀ i, i < n → us[i]? = some (us.getD i 0) ∧ btw 0 (us.getD i 0) (wr (U - 1)) = true ∧ (us.getD i 0 ≤ lastI us i) = False ∧ lastI us (i + 1) = us.getD i 0) ∧
    ((n = us.length ∧ selE U (-1) us = 0) ∨ (n < us.length ∧ us[n]? = some (us.getD n 0) ∧ ((btw 0 (us.getD n 0) (wr (U - 1)) = true ∧ (us.getD n 0 ≤ lastI us n) = True ∧ selE U (-1) us = 7) ∨ (btw 0 (us.getD n 0) (wr (U - 1)) = false ∧ selE U (-1) us = 17)))) := by
  obtain ⟨n, h1, h2, h3⟩ := first_n (badI U us) us.length
  have hg : ∀ i, i < us.length → us[i]? = some (us.getD i 0) := by
    intro i hi
    simp [List.getD_eq_getElem?_getD, List.getElem?_eq_getElem hi]
  have hs := selE_step n h1 h2
  refine ⟨n, h1, fun i hi => ?_, ?_⟩
  · have hb := h2 i hi
    simp only [badI, Bool.or_eq_false_iff, Bool.not_eq_false', decide_eq_false_iff_not] at hb
    exact ⟨hg i (by omega), hb.1, eq_false hb.2, rfl⟩
  · rcases h3 with h3 | ⟨h3, h4⟩
    · refine .inl ⟨h3, ?_⟩
      rw [hs, List.drop_eq_nil_of_le (by omega)]; rfl
    · refine .inr ⟨h3, hg n h3, ?_⟩
      have hgn : us.getD n 0 = us[n] := by simp [List.getD_eq_getElem?_getD, List.getElem?_eq_getElem h3]
      rw [List.drop_eq_getElem_cons h3, selE, ← hgn] at hs
      cases hb : btw 0 (us.getD n 0) (wr (U - 1)) with
      | false => rw [hb] at hs; exact .inr ⟨rfl, hs⟩
      | true =>
        simp only [badI, hb, Bool.not_true, Bool.false_or, decide_eq_true_eq] at h4
        rw [hb, if_pos rfl, if_pos h4] at hs
        exact .inl ⟨rfl, eq_true h4, hs⟩

/-- What the program's function returns. -/
def chR (U : Int) (l : List Fl) (us : List Int) : Option (AV × XH) := if chE U l us = 0 then some (.tup [.fn (.func 68) [] [.pt 0 0], I 0], [some (.blk true (.cells true [rI us]))]) else some (.tup [.nilfn, I (chE U l us)], [])
theorem chR_0 {U : Int} {l : List Fl} {us : List Int} (h : chE U l us = 0) : chR U l us = some (.tup [.fn (.func 68) [] [.pt 0 0], I 0], [some (.blk true (.cells true [rI us]))]) := if_pos h
theorem chR_1 {U : Int} {l : List Fl} {us : List Int} {e : Int} (h : chE U l us = e) (h0 : e ≠ 0) : chR U l us = some (.tup [.nilfn, I e], []) := by rw [chR, if_neg (by rw [h]; exact h0), h]
theorem w38 (U : Int) (l : List Fl) (us : List Int) (hn : l.length < 1000000) (hu : us.length < 1000000) : runW progX 38 [plA U l, rI us] [] = chR U l us := by
  have c := w20 U l hn
  have p0 := pad
  have p1 := pad
  have p2 := pad
  have p3 := pad
  have p4 := pad
  have p5 := pad
  have p6 := pad
  by_cases h0 : checkP U l = 0
  · have g0 := eq_true h0
    cases us with
    | nil =>
      rw [chR_1 (e := 4) (by simp [chE, h0]) (by omega)]
      rw [r38 (by simp)]; unfold x38; dsimp only
      (sym => (simp [etaM, etaF, z00,z01,z05,z06,z07,z09,z0b,z0c,z0f,z0n,z0p,z0r,z0v,z0z,z12,z15,z1f,z1j,z1r,z1u,z20,z21,z26,z29,z2b,z2g,z2h,z2j,z2k,z2t,z2u,z2v,z2w,z33,z34,z3h,z4l,z4o,z4p,z4q,z4t,z4y,z50,z54,z57,z59,z66,z67,z69,z6a,z6b,z6e,z6j,z6l,z6p,z6t,z72,z74,z7r,z7u,z7v,z7w,z84,z86,z8d,z8f,z9d,z9e,z9g,z9j,z9k,z9l,z9m,z9n,z9p,z9r,z9s,z9v,z9w,z9y,za0,za1,za2,za3,za5,za6,za7,za8,za9,zaa,zab,zae,zaf,zal,zaq,zas,zat,zba,zbc,zbd,zbf,zbg,zbk,zbt,zbu,zbw,zbx,zby,zbz,zc2,zc3,zc4,zc5,zc6,zc8,zca,zcc,zcd,zce,zcf,zcg,zch,zci,zcj,zcn,zco,zcp,zcq,zcr,zct,zcu,zcv,zcw,zcx,zcy,zd3,zd6,zd7,zdd,zdj,zdk,zdl,zdo,zds,zdt,zdu,zdv,zdw,zdx,zdy,zdz,ze2,ze3,zeo,zep,zf6,zf7,zf8,zf9,zfa,zfb,zfg,zfm,zfo,zfp,zfq,zfr,zfs,zft,zfu,zfv,zfw,zfx,zfy,zfz,zg0,zg1,zhf, c, g0]; all_goals tactic => exact rfl))
    | cons a r =>
      have hc : chE U l (a :: r) = selE U (-1) (a :: r) := by simp [chE, h0]
      have hl : ((((a :: r).length : Nat) : Int) = 0) = False := eq_false (by simp only [List.length_cons]; omega)
      generalize a :: r = us at *
      obtain ⟨n, h1, h2, h3⟩ := sel_ix U us
      have ex : (((n : Int) < (us.length : Int)) = False ∧ chR U l us = some (.tup [.fn (.func 68) [] [.pt 0 0], I 0], [some (.blk true (.cells true [rI us]))])) ∨
          (∃ u, ((n : Int) < (us.length : Int)) = True ∧ us[n]? = some u ∧ btw 0 u (wr (U - 1)) = true ∧ (u ≤ lastI us n) = True ∧ chR U l us = some (.tup [.nilfn, I 7], [])) ∨
          (∃ u, ((n : Int) < (us.length : Int)) = True ∧ us[n]? = some u ∧ btw 0 u (wr (U - 1)) = false ∧ chR U l us = some (.tup [.nilfn, I 17], [])) := by
        rcases h3 with ⟨h3, h4⟩ | ⟨h3, h4, ⟨h5, h6, h7⟩ | ⟨h5, h7⟩⟩
        · exact .inl ⟨eq_false (by omega), chR_0 (hc.trans h4)⟩
        · exact .inr (.inl ⟨_, lt_ix h3, h4, h5, h6, chR_1 (hc.trans h7) (by omega)⟩)
        · exact .inr (.inr ⟨_, lt_ix h3, h4, h5, chR_1 (hc.trans h7) (by omega)⟩)
      rw [r38 (by simp)]; unfold x38; dsimp only
      sym =>
        simp [etaM, etaF, z00,z01,z05,z06,z07,z09,z0b,z0c,z0f,z0n,z0p,z0r,z0v,z0z,z12,z15,z1f,z1j,z1r,z1u,z20,z21,z26,z29,z2b,z2g,z2h,z2j,z2k,z2t,z2u,z2v,z2w,z33,z34,z3h,z4l,z4o,z4p,z4q,z4t,z4y,z50,z54,z57,z59,z66,z67,z69,z6a,z6b,z6e,z6j,z6l,z6p,z6t,z72,z74,z7r,z7u,z7v,z7w,z84,z86,z8d,z8f,z9d,z9e,z9g,z9j,z9k,z9l,z9m,z9n,z9p,z9r,z9s,z9v,z9w,z9y,za0,za1,za2,za3,za5,za6,za7,za8,za9,zaa,zab,zae,zaf,zal,zaq,zas,zat,zba,zbc,zbd,zbf,zbg,zbk,zbt,zbu,zbw,zbx,zby,zbz,zc2,zc3,zc4,zc5,zc6,zc8,zca,zcc,zcd,zce,zcf,zcg,zch,zci,zcj,zcn,zco,zcp,zcq,zcr,zct,zcu,zcv,zcw,zcx,zcy,zd3,zd6,zd7,zdd,zdj,zdk,zdl,zdo,zds,zdt,zdu,zdv,zdw,zdx,zdy,zdz,ze2,ze3,zeo,zep,zf6,zf7,zf8,zf9,zfa,zfb,zfg,zfm,zfo,zfp,zfq,zfr,zfs,zft,zfu,zfv,zfw,zfx,zfy,zfz,zg0,zg1,zhf, c, g0, hl]
        tactic =>
          unfold x38l0
          rw [loop_rule n (fun i => [.pt 0 0, .pt 1 0, I (lastI us i), rI us, I us.length, I (i : Nat)]) (fun i => [some (.blk true (.cells true [I U, .fs (l.map Fl.row)])), some (.blk true (.cells true [rI us]))])]
          rcases ex with ⟨p0, p4⟩ | ⟨u, p0, p1, p2, p3, p4⟩ | ⟨u, p0, p1, p2, p4⟩
          case' hl => rcases ex with ⟨p0, p4⟩ | ⟨u, p0, p1, p2, p3, p4⟩ | ⟨u, p0, p1, p2, p4⟩
          case' h0 => have p0 : lastI us 0 = -1 := rfl
          case' hs =>
            intro i hi
            obtain ⟨p1, p2, p3, p4⟩ := h2 i hi
            have p0 := lt_ix (l := us) (i := i) (by omega)
            have p5 := up_ix hi (by omega)
          all_goals (sym => (simp [etaM, etaF, z00,z01,z05,z06,z07,z09,z0b,z0c,z0f,z0n,z0p,z0r,z0v,z0z,z12,z15,z1f,z1j,z1r,z1u,z20,z21,z26,z29,z2b,z2g,z2h,z2j,z2k,z2t,z2u,z2v,z2w,z33,z34,z3h,z4l,z4o,z4p,z4q,z4t,z4y,z50,z54,z57,z59,z66,z67,z69,z6a,z6b,z6e,z6j,z6l,z6p,z6t,z72,z74,z7r,z7u,z7v,z7w,z84,z86,z8d,z8f,z9d,z9e,z9g,z9j,z9k,z9l,z9m,z9n,z9p,z9r,z9s,z9v,z9w,z9y,za0,za1,za2,za3,za5,za6,za7,za8,za9,zaa,zab,zae,zaf,zal,zaq,zas,zat,zba,zbc,zbd,zbf,zbg,zbk,zbt,zbu,zbw,zbx,zby,zbz,zc2,zc3,zc4,zc5,zc6,zc8,zca,zcc,zcd,zce,zcf,zcg,zch,zci,zcj,zcn,zco,zcp,zcq,zcr,zct,zcu,zcv,zcw,zcx,zcy,zd3,zd6,zd7,zdd,zdj,zdk,zdl,zdo,zds,zdt,zdu,zdv,zdw,zdx,zdy,zdz,ze2,ze3,zeo,zep,zf6,zf7,zf8,zf9,zfa,zfb,zfg,zfm,zfo,zfp,zfq,zfr,zfs,zft,zfu,zfv,zfw,zfx,zfy,zfz,zg0,zg1,zhf, p0, p1, p2, p3, p4, p5, w42]; all_goals tactic => exact rfl))
  · have g0 := eq_false h0
    rw [chR_1 (e := checkP U l) (by simp [chE, h0]) h0]
    rw [r38 (by simp)]; unfold x38; dsimp only
    (sym => (simp [etaM, etaF, z00,z01,z05,z06,z07,z09,z0b,z0c,z0f,z0n,z0p,z0r,z0v,z0z,z12,z15,z1f,z1j,z1r,z1u,z20,z21,z26,z29,z2b,z2g,z2h,z2j,z2k,z2t,z2u,z2v,z2w,z33,z34,z3h,z4l,z4o,z4p,z4q,z4t,z4y,z50,z54,z57,z59,z66,z67,z69,z6a,z6b,z6e,z6j,z6l,z6p,z6t,z72,z74,z7r,z7u,z7v,z7w,z84,z86,z8d,z8f,z9d,z9e,z9g,z9j,z9k,z9l,z9m,z9n,z9p,z9r,z9s,z9v,z9w,z9y,za0,za1,za2,za3,za5,za6,za7,za8,za9,zaa,zab,zae,zaf,zal,zaq,zas,zat,zba,zbc,zbd,zbf,zbg,zbk,zbt,zbu,zbw,zbx,zby,zbz,zc2,zc3,zc4,zc5,zc6,zc8,zca,zcc,zcd,zce,zcf,zcg,zch,zci,zcj,zcn,zco,zcp,zcq,zcr,zct,zcu,zcv,zcw,zcx,zcy,zd3,zd6,zd7,zdd,zdj,zdk,zdl,zdo,zds,zdt,zdu,zdv,zdw,zdx,zdy,zdz,ze2,ze3,zeo,zep,zf6,zf7,zf8,zf9,zfa,zfb,zfg,zfm,zfo,zfp,zfq,zfr,zfs,zft,zfu,zfv,zfw,zfx,zfy,zfz,zg0,zg1,zhf, c, g0]; all_goals tactic => exact rfl))
end Go.Proofs.Ytdbikamciedfdaa
namespace Go.Proofs.Ytdbikamciedfdaa
open Go Go.DL
set_option maxRecDepth 100000
set_option maxHeartbeats 1000000

def insL (U : Nat) (us : List Int) (i : Nat) : List Bool := (List.range (U + 1)).map fun (j : Nat) => decide (((j : Int) - 1) ∈ us.take i)
theorem insL_len (U : Nat) (us : List Int) (i : Nat) : (insL U us i).length = U + 1 := by simp [insL]
theorem insL_0 (U : Nat) (us : List Int) : insL U us 0 = List.replicate (U + 1) false := by
  apply List.ext_getElem
  · simp [insL]
  · intro k h1 h2; simp [insL]
theorem insL_succ {U : Nat} {us : List Int} {i : Nat} {u : Int} (hu : us[i]? = some u) (h1 : 0 ≤ u) (h2 : u < U) : insL U us (i + 1) = setX (insL U us i) (u + 1).toNat true := by
  rw [setX_set (by rw [insL_len]; omega)]
  apply List.ext_getElem
  · simp [insL]
  · intro k h3 h4
    rw [List.getElem_set]
    simp only [insL, List.getElem_map, List.getElem_range]
    have hk : k < U + 1 := by simpa [insL] using h3
    rw [List.take_add_one, hu]
    by_cases hc : (u + 1).toNat = k
    · rw [if_pos hc]
      have : ((k : Int) - 1) = u := by omega
      simp [this]
    · rw [if_neg hc]
      have : ¬ ((k : Int) - 1) = u := by omega
      simp [this]
theorem insL_in (U : Nat) (us : List Int) : inL U (insL U us us.length) fun x => decide (x ∈ us) := by
  refine ⟨insL_len .., fun x h1 h2 => ?_⟩
  unfold insL
  rw [List.getElem?_map, List.getElem?_range (by omega)]
  simp only [Option.map_some, Option.some.injEq, List.take_length]
  rw [show (((x + 1).toNat : Nat) : Int) - 1 = x by omega]

def seR (U : Nat) (l : List Fl) (us : List Int) : Option (AV × XH) := if chE U l us = 0 then some (.tup [rB (insL U us us.length), I 0], []) else some (.tup [.fs [], I (chE U l us)], [])
theorem seR_0 {U : Nat} {l : List Fl} {us : List Int} (h : chE U l us = 0) : seR U l us = some (.tup [rB (insL U us us.length), I 0], []) := if_pos h
theorem seR_1 {U : Nat} {l : List Fl} {us : List Int} {e : Int} (h : chE U l us = e) (h0 : e ≠ 0) : seR U l us = some (.tup [.fs [], I e], []) := by rw [seR, if_neg (by rw [h]; exact h0), h]
theorem checkP_u {U : Int} {l : List Fl} (h : checkP U l = 0) : 1 ≤ U ∧ U ≤ 8 ∧ l.length ≤ 20 ∧ firstE U l = 0 := by
  unfold checkP at h
  cases hb : btw 1 U 8 with
  | false => simp [hb] at h
  | true =>
    by_cases h2 : l.length > 20
    · simp [hb, h2] at h
    · simp only [btw, Bool.and_eq_true, decide_eq_true_eq] at hb
      simp only [show btw 1 U 8 = true by simp [btw, hb], if_true, h2, if_false] at h
      exact ⟨hb.1, hb.2, by omega, h⟩
theorem btw_u {U u : Int} (h : btw 0 u (wr (U - 1)) = true) (h1 : 1 ≤ U) (h2 : U ≤ 8) : 0 ≤ u ∧ u < U := by
  rw [show wr (U - 1) = U - 1 from wrap_ok (by omega) (by omega)] at h
  simp only [btw, Bool.and_eq_true, decide_eq_true_eq] at h
  omega
theorem w40 (U : Nat) (l : List Fl) (us : List Int) (hn : l.length < 1000000) (hu : us.length < 1000000) : runW progX 40 [plA U l, rI us] [] = seR U l us := by
  have c := w21 U l hn
  have p0 := pad
  have p1 := pad
  have p2 := pad
  have p3 := pad
  have p4 := pad
  have p5 := pad
  have p6 := pad
  have p7 := pad
  have p8 := pad
  have p9 := pad
  have q0 := pad
  have q1 := pad
  have q2 := pad
  have q3 := pad
  have q4 := pad
  by_cases h0 : checkP U l = 0
  · have g0 := eq_true h0
    cases us with
    | nil =>
      rw [seR_1 (e := 4) (by simp [chE, h0]) (by omega)]
      rw [r40 (by simp)]; unfold x40; dsimp only
      (sym => (simp [etaM, etaF, z00,z01,z02,z04,z05,z06,z07,z08,z09,z0b,z0c,z0f,z0h,z0i,z0k,z0n,z0q,z0r,z0v,z0z,z12,z15,z18,z1f,z1j,z1k,z1l,z1m,z1n,z1o,z1p,z1r,z1u,z1v,z1w,z20,z21,z22,z23,z26,z29,z2b,z2f,z2g,z2h,z2j,z2k,z2t,z2u,z2v,z2w,z2x,z33,z34,z3h,z3j,z4l,z4o,z4p,z4q,z4s,z4t,z54,z55,z57,z59,z66,z67,z69,z6a,z6b,z6d,z6e,z6p,z6t,z6w,z6z,z78,z7c,z7f,z7r,z7u,z7v,z7w,z81,z8b,z8d,z9d,z9e,z9g,z9i,z9j,z9k,z9l,z9m,z9n,z9p,z9r,z9s,z9v,z9w,z9y,za0,za1,za2,za3,za5,za6,za7,za8,za9,zaa,zab,zae,zaf,zal,zaq,zas,zat,zav,zax,zaz,zb4,zb5,zb9,zba,zbb,zbc,zbd,zbf,zbg,zbk,zbm,zbp,zbt,zbu,zbw,zbx,zby,zbz,zc2,zc3,zc4,zc5,zc6,zc8,zca,zcc,zcd,zce,zcf,zcg,zch,zci,zcj,zcn,zco,zcp,zcq,zcr,zct,zcu,zcv,zcw,zcx,zcy,zd3,zd6,zd7,zd8,zd9,zdd,zdj,zdk,zdl,zdm,zdn,zdo,zds,zdt,zdu,zdv,zdw,zdx,zdy,zdz,ze0,ze1,ze2,ze3,zeo,zep,zev,zew,zf5,zf6,zf7,zf8,zf9,zfa,zfb,zfc,zfd,zfg,zfm,zfo,zfp,zfq,zfr,zfs,zft,zfu,zfv,zfw,zfx,zfy,zfz,zg0,zg1,zhd,zhe,zhf,zhg,zhj,zhl,zhm, c, g0]; all_goals tactic => exact rfl))
    | cons a r =>
      have hc : chE U l (a :: r) = selE U (-1) (a :: r) := by simp [chE, h0]
      have hl : ((((a :: r).length : Nat) : Int) = 0) = False := eq_false (by simp only [List.length_cons]; omega)
      generalize a :: r = us at *
      obtain ⟨n, h1, h2, h3⟩ := sel_ix U us
      obtain ⟨u1, u2, u3, u4⟩ := checkP_u h0
      -- the element before
      have pv : ∀ i, i < us.length → (i = 0 ∧ (0 < (i : Int)) = False) ∨ ((0 < (i : Int)) = True ∧ IntKind.i64.wrap ((i : Int) - 1) = (i : Int) - 1 ∧ (0 ≤ (i : Int) - 1) = True ∧ ((i : Int) - 1 < (us.length : Int)) = True ∧ ((i : Int) - 1).toNat = i - 1 ∧ us[i - 1]? = some (lastI us i)) := by
        intro i hi
        cases i with
        | zero => exact .inl ⟨rfl, eq_false (by omega)⟩
        | succ i =>
          refine .inr ⟨eq_true (by omega), wrap_ok (by omega) (by omega), eq_true (by omega), eq_true (by omega), by omega, ?_⟩
          simp [lastI, List.getD_eq_getElem?_getD, List.getElem?_eq_getElem (show i < us.length by omega)]
      have g1 : IntKind.i64.wrap ((U : Int) + 1) = (U : Int) + 1 := wrap_ok (by omega) (by omega)
      have g2 : (0 ≤ (U : Int) + 1) = True := eq_true (by omega)
      have g3 : ((U : Int) + 1 ≤ (U : Int) + 1) = True := eq_true (by omega)
      have g4 : (((1 : Nat) : Int) * ((U : Int) + 1) ≤ 281474976710656) = True := eq_true (by omega)
      have g6 : ((1 : Int) * ((U : Int) + 1) ≤ 281474976710656) = True := eq_true (by omega)
      have g5 : ((U : Int) + 1 ≤ 9223372036854775807) = True := eq_true (by omega)
      have g7 : ((U : Int) + 1).toNat = U + 1 := by omega
      have g8 := (insL_0 U us).symm
      have g9 : (insL U us us.length).length = U + 1 := insL_len ..
      have k1 := zhl (hs := insL U us us.length)
      rw [g9] at k1
      have rd : ∀ i u, us[i]? = some u → btw 0 u (wr ((U : Int) - 1)) = true → IntKind.i64.wrap (u + 1) = u + 1 ∧ (0 ≤ u + 1) = True ∧ (u + 1 < ((U + 1 : Nat) : Int)) = True ∧ insL U us (i + 1) = setX (insL U us i) (u + 1).toNat true ∧ ((u + 1).toNat + 1 ≤ (insL U us i).length) = True := by
        intro i u h5 h6
        obtain ⟨v1, v2⟩ := btw_u h6 u1 u2
        exact ⟨wrap_ok (by omega) (by omega), eq_true (by omega), eq_true (by omega), insL_succ h5 v1 v2, eq_true (by rw [insL_len]; omega)⟩
      have ex : (n = us.length ∧ ((n : Int) < (us.length : Int)) = False ∧ seR U l us = some (.tup [rB (insL U us us.length), I 0], [])) ∨
          (∃ u, ((n : Int) < (us.length : Int)) = True ∧ us[n]? = some u ∧ btw 0 u (wr ((U : Int) - 1)) = true ∧ ((0 < (n : Int)) = True ∧ IntKind.i64.wrap ((n : Int) - 1) = (n : Int) - 1 ∧ (0 ≤ (n : Int) - 1) = True ∧ ((n : Int) - 1 < (us.length : Int)) = True ∧ ((n : Int) - 1).toNat = n - 1 ∧ us[n - 1]? = some (lastI us n)) ∧ (u ≤ lastI us n) = True ∧ seR U l us = some (.tup [.fs [], I 7], [])) ∨
          (∃ u, ((n : Int) < (us.length : Int)) = True ∧ us[n]? = some u ∧ btw 0 u (wr ((U : Int) - 1)) = false ∧ seR U l us = some (.tup [.fs [], I 17], [])) := by
        rcases h3 with ⟨h3, h4⟩ | ⟨h3, h4, ⟨h5, h6, h7⟩ | ⟨h5, h7⟩⟩
        · exact .inl ⟨h3, eq_false (by omega), seR_0 (hc.trans h4)⟩
        · refine .inr (.inl ⟨_, lt_ix h3, h4, h5, ?_, h6, seR_1 (hc.trans h7) (by omega)⟩)
          rcases pv n h3 with ⟨e, _⟩ | h
          · obtain ⟨v1, v2⟩ := btw_u h5 u1 u2
            have := of_eq_true h6
            simp only [e, lastI] at this v1
            omega
          · exact h
        · exact .inr (.inr ⟨_, lt_ix h3, h4, h5, seR_1 (hc.trans h7) (by omega)⟩)
      rw [r40 (by simp)]; unfold x40; dsimp only
      sym =>
        simp [etaM, etaF, z00,z01,z02,z04,z05,z06,z07,z08,z09,z0b,z0c,z0f,z0h,z0i,z0k,z0n,z0q,z0r,z0v,z0z,z12,z15,z18,z1f,z1j,z1k,z1l,z1m,z1n,z1o,z1p,z1r,z1u,z1v,z1w,z20,z21,z22,z23,z26,z29,z2b,z2f,z2g,z2h,z2j,z2k,z2t,z2u,z2v,z2w,z2x,z33,z34,z3h,z3j,z4l,z4o,z4p,z4q,z4s,z4t,z54,z55,z57,z59,z66,z67,z69,z6a,z6b,z6d,z6e,z6p,z6t,z6w,z6z,z78,z7c,z7f,z7r,z7u,z7v,z7w,z81,z8b,z8d,z9d,z9e,z9g,z9i,z9j,z9k,z9l,z9m,z9n,z9p,z9r,z9s,z9v,z9w,z9y,za0,za1,za2,za3,za5,za6,za7,za8,za9,zaa,zab,zae,zaf,zal,zaq,zas,zat,zav,zax,zaz,zb4,zb5,zb9,zba,zbb,zbc,zbd,zbf,zbg,zbk,zbm,zbp,zbt,zbu,zbw,zbx,zby,zbz,zc2,zc3,zc4,zc5,zc6,zc8,zca,zcc,zcd,zce,zcf,zcg,zch,zci,zcj,zcn,zco,zcp,zcq,zcr,zct,zcu,zcv,zcw,zcx,zcy,zd3,zd6,zd7,zd8,zd9,zdd,zdj,zdk,zdl,zdm,zdn,zdo,zds,zdt,zdu,zdv,zdw,zdx,zdy,zdz,ze0,ze1,ze2,ze3,zeo,zep,zev,zew,zf5,zf6,zf7,zf8,zf9,zfa,zfb,zfc,zfd,zfg,zfm,zfo,zfp,zfq,zfr,zfs,zft,zfu,zfv,zfw,zfx,zfy,zfz,zg0,zg1,zhd,zhe,zhf,zhg,zhj,zhl,zhm, c, g0, hl, g1, g2, g3, g4, g5, g6, g7, g8]
        tactic =>
          unfold x40l0
          rw [loop_rule n (fun i => [rI us, .pt 0 0, .sl 1 0 1 (U + 1), I (i : Nat)]) (fun i => [some (.blk true (.cells true [I U, .fs (l.map Fl.row)])), some (.blk true (.cells true ((insL U us i).map AV.bool)))])]
          rcases ex with ⟨p9, p0, p4⟩ | ⟨u, p0, p1, p2, ⟨p5, p6, p7, p8, p9, q0⟩, p3, p4⟩ | ⟨u, p0, p1, p2, p4⟩
          case' hl => rcases ex with ⟨p9, p0, p4⟩ | ⟨u, p0, p1, p2, ⟨p5, p6, p7, p8, p9, q0⟩, p3, p4⟩ | ⟨u, p0, p1, p2, p4⟩
          case' hs =>
            intro i hi
            obtain ⟨p1, p2, p3, p4⟩ := h2 i hi
            have p0 := lt_ix (l := us) (i := i) (by omega)
            have q1 := up_ix hi (by omega)
            obtain ⟨q2, q3, q4, k1, g9⟩ := rd i _ p1 p2
            rcases pv i (by omega) with ⟨z4, p5⟩ | ⟨p5, p6, p7, p8, p9, q0⟩
          all_goals (sym => (simp [etaM, etaF, z00,z01,z02,z04,z05,z06,z07,z08,z09,z0b,z0c,z0f,z0h,z0i,z0k,z0n,z0q,z0r,z0v,z0z,z12,z15,z18,z1f,z1j,z1k,z1l,z1m,z1n,z1o,z1p,z1r,z1u,z1v,z1w,z20,z21,z22,z23,z26,z29,z2b,z2f,z2g,z2h,z2j,z2k,z2t,z2u,z2v,z2w,z2x,z33,z34,z3h,z3j,z4l,z4o,z4p,z4q,z4s,z4t,z54,z55,z57,z59,z66,z67,z69,z6a,z6b,z6d,z6e,z6p,z6t,z6w,z6z,z78,z7c,z7f,z7r,z7u,z7v,z7w,z81,z8b,z8d,z9d,z9e,z9g,z9i,z9j,z9k,z9l,z9m,z9n,z9p,z9r,z9s,z9v,z9w,z9y,za0,za1,za2,za3,za5,za6,za7,za8,za9,zaa,zab,zae,zaf,zal,zaq,zas,zat,zav,zax,zaz,zb4,zb5,zb9,zba,zbb,zbc,zbd,zbf,zbg,zbk,zbm,zbp,zbt,zbu,zbw,zbx,zby,zbz,zc2,zc3,zc4,zc5,zc6,zc8,zca,zcc,zcd,zce,zcf,zcg,zch,zci,zcj,zcn,zco,zcp,zcq,zcr,zct,zcu,zcv,zcw,zcx,zcy,zd3,zd6,zd7,zd8,zd9,zdd,zdj,zdk,zdl,zdm,zdn,zdo,zds,zdt,zdu,zdv,zdw,zdx,zdy,zdz,ze0,ze1,ze2,ze3,zeo,zep,zev,zew,zf5,zf6,zf7,zf8,zf9,zfa,zfb,zfc,zfd,zfg,zfm,zfo,zfp,zfq,zfr,zfs,zft,zfu,zfv,zfw,zfx,zfy,zfz,zg0,zg1,zhd,zhe,zhf,zhg,zhj,zhl,zhm, p0, p1, p2, p3, p4, p5, p6, p7, p8, p9, q0, q1, q2, q3, q4, g7, g8, g9, k1, w45]; all_goals tactic => exact rfl))
  · have g0 := eq_false h0
    rw [seR_1 (e := checkP U l) (by simp [chE, h0]) h0]
    rw [r40 (by simp)]; unfold x40; dsimp only
    (sym => (simp [etaM, etaF, z00,z01,z02,z04,z05,z06,z07,z08,z09,z0b,z0c,z0f,z0h,z0i,z0k,z0n,z0q,z0r,z0v,z0z,z12,z15,z18,z1f,z1j,z1k,z1l,z1m,z1n,z1o,z1p,z1r,z1u,z1v,z1w,z20,z21,z22,z23,z26,z29,z2b,z2f,z2g,z2h,z2j,z2k,z2t,z2u,z2v,z2w,z2x,z33,z34,z3h,z3j,z4l,z4o,z4p,z4q,z4s,z4t,z54,z55,z57,z59,z66,z67,z69,z6a,z6b,z6d,z6e,z6p,z6t,z6w,z6z,z78,z7c,z7f,z7r,z7u,z7v,z7w,z81,z8b,z8d,z9d,z9e,z9g,z9i,z9j,z9k,z9l,z9m,z9n,z9p,z9r,z9s,z9v,z9w,z9y,za0,za1,za2,za3,za5,za6,za7,za8,za9,zaa,zab,zae,zaf,zal,zaq,zas,zat,zav,zax,zaz,zb4,zb5,zb9,zba,zbb,zbc,zbd,zbf,zbg,zbk,zbm,zbp,zbt,zbu,zbw,zbx,zby,zbz,zc2,zc3,zc4,zc5,zc6,zc8,zca,zcc,zcd,zce,zcf,zcg,zch,zci,zcj,zcn,zco,zcp,zcq,zcr,zct,zcu,zcv,zcw,zcx,zcy,zd3,zd6,zd7,zd8,zd9,zdd,zdj,zdk,zdl,zdm,zdn,zdo,zds,zdt,zdu,zdv,zdw,zdx,zdy,zdz,ze0,ze1,ze2,ze3,zeo,zep,zev,zew,zf5,zf6,zf7,zf8,zf9,zfa,zfb,zfc,zfd,zfg,zfm,zfo,zfp,zfq,zfr,zfs,zft,zfu,zfv,zfw,zfx,zfy,zfz,zg0,zg1,zhd,zhe,zhf,zhg,zhj,zhl,zhm, c, g0]; all_goals tactic => exact rfl))
end Go.Proofs.Ytdbikamciedfdaa
namespace Go.Proofs.Ytdbikamciedfdaa
open Go Go.DL
set_option maxRecDepth 100000
set_option maxHeartbeats 1000000

abbrev bt (s : ByteArray) (i : Nat) : Int := (((s.data.toList.getD i 0).toNat : Nat) : Int)
def badC (i : Nat) (b : Int) : Bool := !(decide (97 ≤ b) && decide (b ≤ 122)) && (decide (i = 0) || !(decide (48 ≤ b) && decide (b ≤ 57)))
def nameP (s : ByteArray) : Bool := decide (0 < s.size) && decide (s.size ≤ 10) && (List.range s.size).all fun i => !badC i (bt s i)

/-- All that is asked of a byte. -/
structure ByF (i : Nat) (b : Int) (p1 p2 p3 p4 p5 p6 p7 p8 p9 : Prop) : Prop where
  a1 : (97 ≤ b) = p1
  a2 : (b ≤ 122) = p2
  a3 : (48 ≤ b) = p3
  a4 : (b ≤ 57) = p4
  a5 : (b < 97) = p5
  a6 : (122 < b) = p6
  a7 : (b < 48) = p7
  a8 : (57 < b) = p8
  a9 : ((i : Int) = 0) = p9
theorem by_good {i : Nat} {b : Int} (h : badC i b = false) : ∃ p, ByF i b True True True False False False False True p ∨ ByF i b False True True True True False False False False := by
  refine ⟨(i : Int) = 0, ?_⟩
  simp only [badC, Bool.and_eq_false_iff, Bool.not_eq_false', Bool.or_eq_false_iff, Bool.and_eq_true, decide_eq_true_eq, decide_eq_false_iff_not] at h
  rcases h with h | ⟨h1, h2⟩
  · left
    constructor <;> first | rfl | exact eq_true (by omega) | exact eq_false (by omega)
  · right
    constructor <;> first | exact eq_true (by omega) | exact eq_false (by omega)
theorem by_bad {i : Nat} {b : Int} (h : badC i b = true) : ByF i b False True True True True False False False True ∨ (∃ p, ByF i b False True False True True False True False p) ∨ (∃ p, ByF i b False True True False True False False True p) ∨ (∃ p, ByF i b True False True False False True False True p) := by
  simp only [badC, Bool.and_eq_true, Bool.or_eq_true, Bool.not_eq_true', Bool.and_eq_false_iff, decide_eq_true_eq, decide_eq_false_iff_not] at h
  by_cases h1 : b < 48
  · right; left
    refine ⟨(i : Int) = 0, ?_⟩
    constructor <;> first | rfl | exact eq_true (by omega) | exact eq_false (by omega)
  by_cases h2 : b ≤ 57
  · left
    constructor <;> first | exact eq_true (by omega) | exact eq_false (by omega)
  by_cases h3 : b < 97
  · right; right; left
    refine ⟨(i : Int) = 0, ?_⟩
    constructor <;> first | rfl | exact eq_true (by omega) | exact eq_false (by omega)
  · right; right; right
    refine ⟨(i : Int) = 0, ?_⟩
    constructor <;> first | rfl | exact eq_true (by omega) | exact eq_false (by omega)

theorem name_ix (s : ByteArray) : ∃ n, n ≤ s.size ∧ (∀ i, i < n → badC i (bt s i) = false ∧ s.data.toList[i]? = some (s.data.toList.getD i 0)) ∧
    ((n = s.size ∧ nameP s = (decide (0 < s.size) && decide (s.size ≤ 10))) ∨ (n < s.size ∧ badC n (bt s n) = true ∧ s.data.toList[n]? = some (s.data.toList.getD n 0) ∧ nameP s = false)) := by
  obtain ⟨n, h1, h2, h3⟩ := first_n (fun i => badC i (bt s i)) s.size
  have hl : s.data.toList.length = s.size := Array.length_toList
  have hg : ∀ i, i < s.size → s.data.toList[i]? = some (s.data.toList.getD i 0) := by
    intro i hi
    rw [List.getD_eq_getElem?_getD, List.getElem?_eq_getElem (by omega)]; rfl
  refine ⟨n, h1, fun i hi => ⟨h2 i hi, hg i (by omega)⟩, ?_⟩
  rcases h3 with h3 | ⟨h3, h4⟩
  · refine .inl ⟨h3, ?_⟩
    have : ((List.range s.size).all fun i => !badC i (bt s i)) = true := by
      rw [List.all_eq_true]
      intro i hi
      rw [h2 i (by rw [h3]; simpa using hi)]; rfl
    simp only [nameP, this, Bool.and_true]
  · refine .inr ⟨h3, h4, hg n h3, ?_⟩
    have : ((List.range s.size).all fun i => !badC i (bt s i)) = false := by
      rw [List.all_eq_false]
      exact ⟨n, by simpa using h3, by simp [h4]⟩
    simp only [nameP, this, Bool.and_false]

theorem w18 (s : ByteArray) (hn : s.size < 1000000) : runW progX 18 [.str s] [] = some (.bool (nameP s), []) := by
  obtain ⟨n, h1, h2, h3⟩ := name_ix s
  have p0 := pad
  have p1 := pad
  have p2 := pad
  have p3 := pad
  have a1 := pad
  have a2 := pad
  have a3 := pad
  have a4 := pad
  have a5 := pad
  have a6 := pad
  have a7 := pad
  have a8 := pad
  have a9 := pad
  have ex : (((n : Int) < (s.size : Int)) = False ∧ (0 < (s.size : Int)) = False ∧ nameP s = false) ∨ (((n : Int) < (s.size : Int)) = False ∧ (0 < (s.size : Int)) = True ∧ nameP s = decide ((s.size : Int) ≤ 10)) ∨
      (((n : Int) < (s.size : Int)) = True ∧ s.data.toList[n]? = some (s.data.toList.getD n 0) ∧ nameP s = false ∧ badC n (bt s n) = true) := by
    rcases h3 with ⟨h3, h4⟩ | ⟨h3, h4, h5, h6⟩
    · rcases Nat.eq_zero_or_pos s.size with hz | hz
      · exact .inl ⟨eq_false (by omega), eq_false (by omega), by rw [h4]; simp [hz]⟩
      · refine .inr (.inl ⟨eq_false (by omega), eq_true (by omega), ?_⟩)
        rw [h4, decide_eq_true hz, Bool.true_and]
        exact decide_eq_decide.2 (by omega)
    · exact .inr (.inr ⟨eq_true (by omega), h5, h6, h4⟩)
  rw [r18 (by simp)]; unfold x18; dsimp only
  sym =>
    simp [etaM, etaF, z00,z01,z05,z07,z0b,z0c,z0f,z0h,z0i,z0j,z0k,z0l,z0m,z0n,z0q,z0v,z15,z1f,z1i,z1j,z22,z23,z2c,z2e,z2f,z2j,z2t,z2v,z2w,z2x,z33,z34,z3h,z4l,z4m,z4n,z4s,z66,z67,z68,z6d,z6q,z7s,z7t,z9d,z9e,z9g,z9n,z9r,z9v,z9w,z9y,za0,za1,za3,za6,za7,za8,za9,zae,zaf,zal,zba,zbt,zbu,zbw,zbx,zby,zbz,zc0,zc3,zc4,zc5,zc6,zc8,zca,zcc,zcd,zce,zcf,zcg,zch,zci,zcj,zcn,zco,zcq,zcr,zct,zcv,zcx,zcy,zdd,zdj,zdk,zdl,zds,zdt,zdu,zdv,ze2,ze3,zf6,zf7,zfb,zfg,zfm,zfo,zfp,zfq,zfr,zfs,zft,zfu,zfv,zfw,zfx,zfy,zfz,zg0,zg1,zh1,zh2,zhd,zhe,zhf]
    tactic =>
      unfold x18l0
      rw [loop_rule n (fun i => [.str s, .sl 0 0 1 s.size, I s.size, I (i : Nat)]) (fun i => [some (.blk true (.cells true (s.data.toList.map fun b => .int .u8 (b.toNat : Int))))])]
      rcases ex with ⟨p0, p1, p2⟩ | ⟨p0, p1, p2⟩ | ⟨p0, p1, p2, p3⟩
      rotate_left
      rotate_left
      rcases by_bad p3 with ⟨a1, a2, a3, a4, a5, a6, a7, a8, a9⟩ | ⟨p, a1, a2, a3, a4, a5, a6, a7, a8, a9⟩ | ⟨p, a1, a2, a3, a4, a5, a6, a7, a8, a9⟩ | ⟨p, a1, a2, a3, a4, a5, a6, a7, a8, a9⟩
      case' hl =>
        rcases ex with ⟨p0, p1, p2⟩ | ⟨p0, p1, p2⟩ | ⟨p0, p1, p2, p3⟩
        rotate_left
        rotate_left
        rcases by_bad p3 with ⟨a1, a2, a3, a4, a5, a6, a7, a8, a9⟩ | ⟨p, a1, a2, a3, a4, a5, a6, a7, a8, a9⟩ | ⟨p, a1, a2, a3, a4, a5, a6, a7, a8, a9⟩ | ⟨p, a1, a2, a3, a4, a5, a6, a7, a8, a9⟩
      case' hs =>
        intro i hi
        obtain ⟨b1, p1⟩ := h2 i hi
        have p0 : ((i : Int) < (s.size : Int)) = True := eq_true (by omega)
        have p3 := up_ix hi (by omega)
        obtain ⟨p, ⟨a1, a2, a3, a4, a5, a6, a7, a8, a9⟩ | ⟨a1, a2, a3, a4, a5, a6, a7, a8, a9⟩⟩ := by_good b1
      all_goals try (rcases ptf p with q | q <;> subst q)
      all_goals first | (sym => (simp [etaM, etaF, z00,z01,z05,z07,z0b,z0c,z0f,z0h,z0i,z0j,z0k,z0l,z0m,z0n,z0q,z0v,z15,z1f,z1i,z1j,z22,z23,z2c,z2e,z2f,z2j,z2t,z2v,z2w,z2x,z33,z34,z3h,z4l,z4m,z4n,z4s,z66,z67,z68,z6d,z6q,z7s,z7t,z9d,z9e,z9g,z9n,z9r,z9v,z9w,z9y,za0,za1,za3,za6,za7,za8,za9,zae,zaf,zal,zba,zbt,zbu,zbw,zbx,zby,zbz,zc0,zc3,zc4,zc5,zc6,zc8,zca,zcc,zcd,zce,zcf,zcg,zch,zci,zcj,zcn,zco,zcq,zcr,zct,zcv,zcx,zcy,zdd,zdj,zdk,zdl,zds,zdt,zdu,zdv,ze2,ze3,zf6,zf7,zfb,zfg,zfm,zfo,zfp,zfq,zfr,zfs,zft,zfu,zfv,zfw,zfx,zfy,zfz,zg0,zg1,zh1,zh2,zhd,zhe,zhf, p0, p1, p2, p3, a1, a2, a3, a4, a5, a6, a7, a8, a9]; all_goals tactic => exact rfl)) | skip

theorem w19 (s : ByteArray) (hn : s.size < 1000000) : runW progX 19 [.str s] [] = some (.bool (nameP s), []) := by
  obtain ⟨n, h1, h2, h3⟩ := name_ix s
  have p0 := pad
  have p1 := pad
  have p2 := pad
  have p3 := pad
  have a1 := pad
  have a2 := pad
  have a3 := pad
  have a4 := pad
  have a5 := pad
  have a6 := pad
  have a7 := pad
  have a8 := pad
  have a9 := pad
  by_cases hz : s.size = 0
  · have g : ((s.size : Int) = 0) = True := eq_true (by omega)
    rw [show nameP s = false by simp [nameP, hz]]
    rw [r19 (by simp)]; unfold x19; dsimp only
    (sym => (simp [etaM, etaF, z00,z01,z05,z07,z08,z0b,z0c,z0h,z0i,z0j,z0k,z0l,z0m,z0n,z0q,z0v,z0z,z17,z1f,z22,z23,z26,z2e,z2j,z2t,z2v,z2w,z2x,z2y,z33,z34,z3h,z4i,z4l,z4m,z4n,z66,z67,z68,z6q,z7s,z7t,z9n,z9y,za3,za5,za7,za8,zba,zbt,zbu,zbw,zbx,zby,zbz,zc0,zc3,zc4,zc5,zc6,zc8,zca,zcc,zcd,zce,zcf,zcg,zch,zci,zcj,zcn,zco,zcr,zct,zcv,zd6,zd7,zdd,zdk,zdl,zdo,zds,zdt,zdu,zdv,ze2,ze3,zfm,zfo,zfp,zfq,zfr,zfs,zft,zfu,zfv,zfw,zfx,zfy,zfz,zg0,zg1, g]; all_goals tactic => exact rfl))
  have g : ((s.size : Int) = 0) = False := eq_false (by omega)
  by_cases hy : 10 < s.size
  · have g1 : ((10 : Int) < (s.size : Int)) = True := eq_true (by omega)
    rw [show nameP s = false by simp [nameP, show ¬ s.size ≤ 10 by omega]]
    rw [r19 (by simp)]; unfold x19; dsimp only
    (sym => (simp [etaM, etaF, z00,z01,z05,z07,z08,z0b,z0c,z0h,z0i,z0j,z0k,z0l,z0m,z0n,z0q,z0v,z0z,z17,z1f,z22,z23,z26,z2e,z2j,z2t,z2v,z2w,z2x,z2y,z33,z34,z3h,z4i,z4l,z4m,z4n,z66,z67,z68,z6q,z7s,z7t,z9n,z9y,za3,za5,za7,za8,zba,zbt,zbu,zbw,zbx,zby,zbz,zc0,zc3,zc4,zc5,zc6,zc8,zca,zcc,zcd,zce,zcf,zcg,zch,zci,zcj,zcn,zco,zcr,zct,zcv,zd6,zd7,zdd,zdk,zdl,zdo,zds,zdt,zdu,zdv,ze2,ze3,zfm,zfo,zfp,zfq,zfr,zfs,zft,zfu,zfv,zfw,zfx,zfy,zfz,zg0,zg1, g, g1]; all_goals tactic => exact rfl))
  have g1 : ((10 : Int) < (s.size : Int)) = False := eq_false (by omega)
  have ex : (((n : Int) < (s.size : Int)) = False ∧ nameP s = true) ∨ (((n : Int) < (s.size : Int)) = True ∧ nameP s = false ∧ badC n (bt s n) = true) := by
    rcases h3 with ⟨h3, h4⟩ | ⟨h3, h4, h5, h6⟩
    · refine .inl ⟨eq_false (by omega), ?_⟩
      rw [h4, decide_eq_true (by omega), decide_eq_true (by omega)]; rfl
    · exact .inr ⟨eq_true (by omega), h6, h4⟩
  rw [r19 (by simp)]; unfold x19; dsimp only
  sym =>
    simp [etaM, etaF, z00,z01,z05,z07,z08,z0b,z0c,z0h,z0i,z0j,z0k,z0l,z0m,z0n,z0q,z0v,z0z,z17,z1f,z22,z23,z26,z2e,z2j,z2t,z2v,z2w,z2x,z2y,z33,z34,z3h,z4i,z4l,z4m,z4n,z66,z67,z68,z6q,z7s,z7t,z9n,z9y,za3,za5,za7,za8,zba,zbt,zbu,zbw,zbx,zby,zbz,zc0,zc3,zc4,zc5,zc6,zc8,zca,zcc,zcd,zce,zcf,zcg,zch,zci,zcj,zcn,zco,zcr,zct,zcv,zd6,zd7,zdd,zdk,zdl,zdo,zds,zdt,zdu,zdv,ze2,ze3,zfm,zfo,zfp,zfq,zfr,zfs,zft,zfu,zfv,zfw,zfx,zfy,zfz,zg0,zg1, g, g1]
    tactic =>
      unfold x19l0
      rw [loop_rule n (fun i => [.str s, I (i : Nat)]) (fun i => [])]
      rcases ex with ⟨p0, p2⟩ | ⟨p0, p2, p3⟩
      rotate_left
      rcases by_bad p3 with ⟨a1, a2, a3, a4, a5, a6, a7, a8, a9⟩ | ⟨p, a1, a2, a3, a4, a5, a6, a7, a8, a9⟩ | ⟨p, a1, a2, a3, a4, a5, a6, a7, a8, a9⟩ | ⟨p, a1, a2, a3, a4, a5, a6, a7, a8, a9⟩
      case' hl =>
        rcases ex with ⟨p0, p2⟩ | ⟨p0, p2, p3⟩
        rotate_left
        rcases by_bad p3 with ⟨a1, a2, a3, a4, a5, a6, a7, a8, a9⟩ | ⟨p, a1, a2, a3, a4, a5, a6, a7, a8, a9⟩ | ⟨p, a1, a2, a3, a4, a5, a6, a7, a8, a9⟩ | ⟨p, a1, a2, a3, a4, a5, a6, a7, a8, a9⟩
      case' hs =>
        intro i hi
        obtain ⟨b1, p1⟩ := h2 i hi
        have p0 : ((i : Int) < (s.size : Int)) = True := eq_true (by omega)
        have p3 := up_ix hi (by omega)
        obtain ⟨p, ⟨a1, a2, a3, a4, a5, a6, a7, a8, a9⟩ | ⟨a1, a2, a3, a4, a5, a6, a7, a8, a9⟩⟩ := by_good b1
      all_goals try (rcases ptf p with q | q <;> subst q)
      all_goals first | (sym => (simp [etaM, etaF, z00,z01,z05,z07,z08,z0b,z0c,z0h,z0i,z0j,z0k,z0l,z0m,z0n,z0q,z0v,z0z,z17,z1f,z22,z23,z26,z2e,z2j,z2t,z2v,z2w,z2x,z2y,z33,z34,z3h,z4i,z4l,z4m,z4n,z66,z67,z68,z6q,z7s,z7t,z9n,z9y,za3,za5,za7,za8,zba,zbt,zbu,zbw,zbx,zby,zbz,zc0,zc3,zc4,zc5,zc6,zc8,zca,zcc,zcd,zce,zcf,zcg,zch,zci,zcj,zcn,zco,zcr,zct,zcv,zd6,zd7,zdd,zdk,zdl,zdo,zds,zdt,zdu,zdv,ze2,ze3,zfm,zfo,zfp,zfq,zfr,zfs,zft,zfu,zfv,zfw,zfx,zfy,zfz,zg0,zg1, p0, p1, p2, p3, a1, a2, a3, a4, a5, a6, a7, a8, a9]; all_goals tactic => exact rfl)) | skip
end Go.Proofs.Ytdbikamciedfdaa
namespace Go.Proofs.Ytdbikamciedfdaa
open Go Go.DL
set_option maxRecDepth 100000
set_option maxHeartbeats 1000000

abbrev msA (m : Ms) : AV := .agg [I m.a, I m.b, I m.c, I m.d]
/-- The excess of a list of units. -/
def exU (l : List Fl) (us : List Int) : Ms := exI (fun x => decide (x ∈ us)) (-1) l l.length
def exR (U : Int) (l : List Fl) (us : List Int) : Option (AV × XH) := if chE U l us = 0 then some (.tup [msA (exU l us), I 0], []) else some (.tup [msA Ms.zero, I (chE U l us)], [])
theorem w16 (U : Int) (l : List Fl) (us : List Int) (hn : l.length < 1000000) (hu : us.length < 1000000) : runW progX 16 [plA U l, rI us] [] = exR U l us := by
  have c := w38 U l us hn hu
  by_cases h : chE U l us = 0
  · rw [chR_0 h] at c
    have e := w39A U l (-1) 68 (us.map fun v => [I v]) (fun x => decide (x ∈ us)) hn (fun u => w68 us u hu)
    rw [exR, if_pos h]
    unfold exU
    rw [r16 (by simp)]; unfold x16; dsimp only
    (sym => (simp [etaM, etaF, z00,z01,z02,z05,z06,z07,z09,z0b,z0c,z0f,z0n,z0o,z0r,z0s,z0v,z1e,z1j,z1n,z1o,z1r,z1u,z20,z21,z2i,z2u,z4f,z4l,z4o,z4p,z4q,z4t,z4y,z54,z57,z59,z66,z69,z6a,z6b,z6e,z6j,z6l,z6p,z6s,z6t,z6u,z72,z7r,z7u,z7v,z7w,z8d,z9d,z9e,z9g,z9i,z9j,z9k,z9l,z9m,z9n,z9p,z9r,z9t,z9v,z9x,z9y,za0,za1,za2,za3,za5,za6,za7,za8,zaa,zab,zac,zae,zaf,zal,zaq,zas,zat,zau,zba,zbc,zbd,zbe,zbf,zbg,zbk,zbt,zbu,zbw,zbx,zby,zbz,zc2,zc3,zc4,zc5,zc6,zc7,zc8,zce,zcf,zcg,zcj,zcn,zco,zcp,zcq,zcr,zct,zcu,zcv,zd3,zd6,zd7,zdd,zdj,zdk,zdl,zdo,zds,zdt,zdu,zdv,zdw,zdx,zdy,zdz,ze2,ze3,ze9,zea,zeo,zep,zf6,zf7,zfa,zfc,zfd,zfg,zfm,zfo,zfp,zfq,zft,zfv,zg0,zg1, c, e]; all_goals tactic => exact rfl))
  · have g := eq_false h
    rw [chR_1 rfl h] at c
    rw [exR, if_neg h]
    rw [r16 (by simp)]; unfold x16; dsimp only
    (sym => (simp [etaM, etaF, z00,z01,z02,z05,z06,z07,z09,z0b,z0c,z0f,z0n,z0o,z0r,z0s,z0v,z1e,z1j,z1n,z1o,z1r,z1u,z20,z21,z2i,z2u,z4f,z4l,z4o,z4p,z4q,z4t,z4y,z54,z57,z59,z66,z69,z6a,z6b,z6e,z6j,z6l,z6p,z6s,z6t,z6u,z72,z7r,z7u,z7v,z7w,z8d,z9d,z9e,z9g,z9i,z9j,z9k,z9l,z9m,z9n,z9p,z9r,z9t,z9v,z9x,z9y,za0,za1,za2,za3,za5,za6,za7,za8,zaa,zab,zac,zae,zaf,zal,zaq,zas,zat,zau,zba,zbc,zbd,zbe,zbf,zbg,zbk,zbt,zbu,zbw,zbx,zby,zbz,zc2,zc3,zc4,zc5,zc6,zc7,zc8,zce,zcf,zcg,zcj,zcn,zco,zcp,zcq,zcr,zct,zcu,zcv,zd3,zd6,zd7,zdd,zdj,zdk,zdl,zdo,zds,zdt,zdu,zdv,zdw,zdx,zdy,zdz,ze2,ze3,ze9,zea,zeo,zep,zf6,zf7,zfa,zfc,zfd,zfg,zfm,zfo,zfp,zfq,zft,zfv,zg0,zg1, c, g]; all_goals tactic => exact rfl))
theorem w17 (U : Nat) (l : List Fl) (us : List Int) (hn : l.length < 1000000) (hu : us.length < 1000000) (hr : chE U l us = 0 → rngL U l ∧ U < 1000000) : runW progX 17 [plA U l, rI us] [] = exR U l us := by
  have c := w40 U l us hn hu
  by_cases h : chE U l us = 0
  · rw [seR_0 h] at c
    have e := w41 U l (insL U us us.length) (fun x => decide (x ∈ us)) hn (hr h).2 (hr h).1 (insL_in U us)
    rw [exR, if_pos h]
    unfold exU
    rw [r17 (by simp)]; unfold x17; dsimp only
    (sym => (simp [etaM, etaF, z00,z01,z02,z05,z06,z07,z09,z0b,z0c,z0f,z0n,z0o,z0r,z0s,z0v,z1e,z1j,z1n,z1o,z1r,z1u,z20,z21,z2i,z2u,z4f,z4l,z4o,z4p,z4q,z54,z57,z59,z66,z69,z6a,z6b,z6p,z6s,z6t,z6u,z7r,z7u,z7v,z7w,z8d,z9d,z9e,z9g,z9i,z9j,z9k,z9l,z9m,z9n,z9p,z9y,za2,za3,za5,za6,za7,za8,zaa,zab,zaq,zas,zat,zba,zbc,zbd,zbe,zbf,zbg,zbk,zbt,zbu,zbw,zbx,zby,zbz,zc2,zc3,zc4,zc5,zc6,zc7,zc8,zce,zcf,zcg,zcj,zcn,zco,zcp,zcq,zcr,zct,zcu,zcv,zd3,zd6,zd7,zdd,zdk,zdl,zdo,zds,zdt,zdu,zdv,zdw,zdx,zdy,zdz,ze2,ze3,ze9,zea,zeo,zep,zf6,zf7,zfa,zfc,zfd,zfg,zfm,zfo,zfp,zfq,zft,zfv,zg0,zg1, c, e]; all_goals tactic => exact rfl))
  · have g := eq_false h
    rw [seR_1 rfl h] at c
    rw [exR, if_neg h]
    rw [r17 (by simp)]; unfold x17; dsimp only
    (sym => (simp [etaM, etaF, z00,z01,z02,z05,z06,z07,z09,z0b,z0c,z0f,z0n,z0o,z0r,z0s,z0v,z1e,z1j,z1n,z1o,z1r,z1u,z20,z21,z2i,z2u,z4f,z4l,z4o,z4p,z4q,z54,z57,z59,z66,z69,z6a,z6b,z6p,z6s,z6t,z6u,z7r,z7u,z7v,z7w,z8d,z9d,z9e,z9g,z9i,z9j,z9k,z9l,z9m,z9n,z9p,z9y,za2,za3,za5,za6,za7,za8,zaa,zab,zaq,zas,zat,zba,zbc,zbd,zbe,zbf,zbg,zbk,zbt,zbu,zbw,zbx,zby,zbz,zc2,zc3,zc4,zc5,zc6,zc7,zc8,zce,zcf,zcg,zcj,zcn,zco,zcp,zcq,zcr,zct,zcu,zcv,zd3,zd6,zd7,zdd,zdk,zdl,zdo,zds,zdt,zdu,zdv,zdw,zdx,zdy,zdz,ze2,ze3,ze9,zea,zeo,zep,zf6,zf7,zfa,zfc,zfd,zfg,zfm,zfo,zfp,zfq,zft,zfv,zg0,zg1, c, g]; all_goals tactic => exact rfl))

theorem w22 (a b : List Int) (ha : a.length < 1000000) (hb : b.length < 1000000) : runW progX 22 [rI a, rI b] [] = some (.bool (decide (a = b)), []) := by
  by_cases hl : a.length = b.length
  · obtain ⟨n, h1, h2, h3⟩ := first_n (fun i => decide (a.getD i 0 ≠ b.getD i 0)) a.length
    have g0 : ((a.length : Int) = (b.length : Int)) = True := eq_true (by omega)
    have ga : ∀ i, i < a.length → a[i]? = some (a.getD i 0) := by
      intro i hi
      rw [List.getD_eq_getElem?_getD, List.getElem?_eq_getElem (by omega)]; rfl
    have gb : ∀ i, i < a.length → b[i]? = some (b.getD i 0) := by
      intro i hi
      rw [List.getD_eq_getElem?_getD, List.getElem?_eq_getElem (by omega)]; rfl
    have p0 := pad
    have p1 := pad
    have p2 := pad
    have p3 := pad
    have p4 := pad
    have p5 := pad
    have ex : (((n : Int) < (a.length : Int)) = False ∧ decide (a = b) = true) ∨ (((n : Int) < (a.length : Int)) = True ∧ ((n : Int) < (b.length : Int)) = True ∧ a[n]? = some (a.getD n 0) ∧ b[n]? = some (b.getD n 0) ∧ (a.getD n 0 = b.getD n 0) = False ∧ decide (a = b) = false) := by
      rcases h3 with h3 | ⟨h3, h4⟩
      · refine .inl ⟨eq_false (by omega), decide_eq_true ?_⟩
        apply List.ext_getElem hl
        intro i h5 h6
        have := h2 i (by omega)
        simp only [ne_eq, decide_not, Bool.not_eq_false', decide_eq_true_eq] at this
        simpa [List.getD_eq_getElem?_getD, List.getElem?_eq_getElem h5, List.getElem?_eq_getElem h6] using this
      · refine .inr ⟨eq_true (by omega), eq_true (by omega), ga n h3, gb n h3, eq_false (of_decide_eq_true h4), decide_eq_false ?_⟩
        intro hc
        exact of_decide_eq_true h4 (by rw [hc])
    generalize decide (a = b) = R at *
    rw [r22 (by simp)]; unfold x22; dsimp only
    sym =>
      simp [etaM, etaF, z00,z01,z05,z07,z08,z0b,z0c,z0n,z0v,z15,z1f,z1l,z1m,z2b,z2g,z2h,z2j,z2u,z2v,z33,z34,z3h,z4l,z4m,z4q,z66,z67,z6b,z6q,z7s,z7w,z9n,z9p,z9y,za3,za5,za7,za8,zba,zbt,zbu,zbw,zbx,zby,zbz,zc0,zc3,zc4,zc5,zc6,zc8,zca,zcc,zcd,zce,zcf,zcg,zch,zci,zcj,zcn,zco,zcr,zct,zcu,zcv,zcw,zcx,zcy,zd6,zd7,zdd,zdk,zdl,zdo,zds,zdt,zdu,zdv,ze2,ze3,zf8,zf9,zfb,zfm,zfo,zfp,zfq,zfr,zfs,zft,zfu,zfv,zfw,zfx,zfy,zfz,zg0,zg1, g0]
      tactic =>
        unfold x22l0
        rw [loop_rule n (fun i => [rI a, rI b, I (i : Nat)]) (fun i => [])]
        rcases ex with ⟨p0, p5⟩ | ⟨p0, p1, p2, p3, p4, p5⟩
        case' hl => rcases ex with ⟨p0, p5⟩ | ⟨p0, p1, p2, p3, p4, p5⟩
        case' hs =>
          intro i hi
          have p0 := lt_ix (l := a) (i := i) (by omega)
          have p1 : ((i : Int) < (b.length : Int)) = True := eq_true (by omega)
          have p2 := ga i (by omega)
          have p3 := gb i (by omega)
          have p4 := eq_true (show a.getD i 0 = b.getD i 0 by simpa using h2 i hi)
          have p5 := up_ix hi (by omega)
        all_goals (try subst p5)
        all_goals (sym => (simp [etaM, etaF, z00,z01,z05,z07,z08,z0b,z0c,z0n,z0v,z15,z1f,z1l,z1m,z2b,z2g,z2h,z2j,z2u,z2v,z33,z34,z3h,z4l,z4m,z4q,z66,z67,z6b,z6q,z7s,z7w,z9n,z9p,z9y,za3,za5,za7,za8,zba,zbt,zbu,zbw,zbx,zby,zbz,zc0,zc3,zc4,zc5,zc6,zc8,zca,zcc,zcd,zce,zcf,zcg,zch,zci,zcj,zcn,zco,zcr,zct,zcu,zcv,zcw,zcx,zcy,zd6,zd7,zdd,zdk,zdl,zdo,zds,zdt,zdu,zdv,ze2,ze3,zf8,zf9,zfb,zfm,zfo,zfp,zfq,zfr,zfs,zft,zfu,zfv,zfw,zfx,zfy,zfz,zg0,zg1, p0, p1, p2, p3, p4, p5]; all_goals tactic => exact rfl))
  · have g0 : ((a.length : Int) = (b.length : Int)) = False := eq_false (by omega)
    rw [decide_eq_false (show a ≠ b from fun hc => hl (by rw [hc]))]
    rw [r22 (by simp)]; unfold x22; dsimp only
    (sym => (simp [etaM, etaF, z00,z01,z05,z07,z08,z0b,z0c,z0n,z0v,z15,z1f,z1l,z1m,z2b,z2g,z2h,z2j,z2u,z2v,z33,z34,z3h,z4l,z4m,z4q,z66,z67,z6b,z6q,z7s,z7w,z9n,z9p,z9y,za3,za5,za7,za8,zba,zbt,zbu,zbw,zbx,zby,zbz,zc0,zc3,zc4,zc5,zc6,zc8,zca,zcc,zcd,zce,zcf,zcg,zch,zci,zcj,zcn,zco,zcr,zct,zcu,zcv,zcw,zcx,zcy,zd6,zd7,zdd,zdk,zdl,zdo,zds,zdt,zdu,zdv,ze2,ze3,zf8,zf9,zfb,zfm,zfo,zfp,zfq,zfr,zfs,zft,zfu,zfv,zfw,zfx,zfy,zfz,zg0,zg1, g0]; all_goals tactic => exact rfl))
end Go.Proofs.Ytdbikamciedfdaa
namespace Go.Proofs.Ytdbikamciedfdaa
open Go Go.DL
set_option maxRecDepth 100000
set_option maxHeartbeats 1000000

/-- The cells of so many flows. -/
def clI (l : List Fl) (i : Nat) : List AV := ((l.take i).map Fl.row).flatten
theorem row_cells (c : List AV) : ∀ l : List Fl, grL ((l.map Fl.row).flatten) = true ∧ nmL ((l.map Fl.row).flatten) = [] ∧ slL ((l.map Fl.row).flatten) = [] ∧ ((l.map Fl.row).flatten).length = l.length * 7
  | [] => ⟨rfl, rfl, rfl, rfl⟩
  | x :: r => by
    obtain ⟨h1, h2, h3, h4⟩ := row_cells c r
    refine ⟨?_, ?_, ?_, ?_⟩
    · simpa [Fl.row, grL, grA] using h1
    · simpa [Fl.row, nmL, nmA] using h2
    · simpa [Fl.row, slL, slN] using h3
    · simp only [List.map_cons, List.flatten_cons, List.length_append, h4, List.length_cons]; simp [Fl.row]; omega
theorem clI_gr (l : List Fl) (i : Nat) : grL (clI l i) = true := (row_cells [] _).1
theorem clI_nm (l : List Fl) (i : Nat) : nmL (clI l i) = [] := (row_cells [] _).2.1
theorem clI_sl (l : List Fl) (i : Nat) : slL (clI l i) = [] := (row_cells [] _).2.2.1
theorem clI_len {l : List Fl} {i : Nat} (h : i ≤ l.length) : (clI l i).length = i * 7 := by
  rw [clI, (row_cells [] _).2.2.2, List.length_take, Nat.min_eq_left h]
theorem clI_0 (l : List Fl) : clI l 0 = [] := rfl
theorem clI_succ {l : List Fl} {i : Nat} {x : Fl} (h : l[i]? = some x) : clI l (i + 1) = clI l i ++ x.row := by
  simp [clI, List.take_add_one, h]
theorem chunks7 : ∀ (l pre : List Fl), chunks (((pre ++ l).map Fl.row).flatten) (pre.length * 7) 7 l.length = l.map Fl.row
  | [], pre => rfl
  | x :: r, pre => by
    have h := chunks7 r (pre ++ [x])
    have hp := (row_cells [] pre).2.2.2
    simp only [List.append_assoc, List.cons_append, List.nil_append, List.length_append, List.length_cons, List.length_nil] at h
    rw [List.length_cons, chunks, show pre.length * 7 + 7 = (pre.length + (0 + 1)) * 7 by omega, h, List.map_append, List.flatten_append, List.drop_left' (by rw [hp]), List.map_cons, List.flatten_cons]
    rfl
theorem clI_ch (l : List Fl) : chunks (clI l l.length) 0 7 l.length = l.map Fl.row := by
  rw [clI, List.take_length]; exact chunks7 l []

theorem w15 (U : Int) (l : List Fl) (hn : l.length < 1000000) : runW progX 15 [plA U l] [] = some (plA U l, []) := by
  have rd : ∀ i, i < l.length → ∃ x, l[i]? = some x ∧ IntKind.i64.wrap ((i : Int) + 1) = (i : Int) + 1 ∧ ((i : Int) < (l.length : Int)) = True ∧ (clI l i).length = i * 7 ∧ clI l (i + 1) = clI l i ++ x.row ∧ ((i + 1) * 56 ≤ 1099511627776) = True ∧ (i + 1 ≤ 1099511627776) = True := by
    intro i hi
    obtain ⟨x, hx⟩ := at_ix hi
    exact ⟨x, hx, up_ix hi (by omega), lt_ix hi, clI_len (by omega), clI_succ hx, eq_true (by omega), eq_true (by omega)⟩
  have g0 := pad
  have g1 := pad
  have g2 := pad
  have g3 := pad
  have g4 := pad
  have g5 := pad
  have g6 := pad
  have g7 := pad
  have en : l.length = 0 → l = [] := fun h => List.eq_nil_of_length_eq_zero h
  have lz : (l.length = 0) = True ∨ (l.length = 0) = False := ptf _
  have el := clI_len (l := l) (Nat.le_refl l.length)
  have ec := clI_ch l
  rw [r15 (by simp)]; unfold x15; dsimp only
  sym =>
    simp [etaM, etaF, z00,z01,z02,z03,z04,z05,z07,z0b,z0c,z0f,z0n,z0o,z0r,z0s,z0t,z0v,z12,z15,z1f,z1j,z1n,z1o,z1z,z29,z2b,z2g,z2h,z2j,z2v,z33,z34,z36,z3g,z3h,z3j,z4f,z4l,z4o,z4q,z4s,z4t,z54,z55,z57,z59,z5b,z5e,z66,z69,z6b,z6d,z6e,z6p,z6s,z6w,z6z,z78,z7b,z7f,z7r,z7u,z7w,z81,z8a,z8b,z8d,z8h,z9d,z9e,z9g,z9i,z9j,z9k,z9l,z9m,z9n,z9p,z9r,z9s,z9v,z9w,z9y,za0,za1,za3,za6,za7,za8,za9,zae,zaf,zag,zal,zam,zb4,zb5,zb9,zba,zbb,zbm,zbn,zbp,zbt,zbu,zbw,zbx,zby,zbz,zc0,zc3,zc4,zc5,zc7,zc8,zca,zcc,zcd,zce,zcf,zcg,zch,zcj,zcn,zco,zcp,zcq,zcr,zct,zcu,zcv,zcw,zcx,zcy,zd3,zd5,zdd,zdj,zdk,zdl,zdm,zdn,zds,zdt,zdu,zdv,zdw,zdx,zdy,zdz,ze0,ze1,ze2,ze3,ze9,zea,zeb,zec,zeo,zep,zeq,zer,zes,zet,zez,zf0,zf1,zf2,zf3,zf4,zf5,zf6,zf7,zf8,zf9,zfa,zfb,zfc,zfd,zfg,zfh,zfi,zfj,zfl,zfm,zfo,zfp,zfq,zfr,zfs,zft,zfu,zfw,zfy,zfz,zg0,zg1,zhe,zhf,zhg,zhp,zii]
    tactic =>
      unfold x15l0
      rw [loop_rule l.length (fun i => [.pt 0 0, .pt 1 0, .pt 2 0, I (i : Nat)]) (fun i => if i = 0 then [some (.blk true (.cells true [I U, .fs (l.map Fl.row)])), some (.blk true (.cells true [I 0, .nilsl])), some (.blk true (.cells true [I U, .nilsl]))] else
        [some (.blk true (.cells true [I U, .fs (l.map Fl.row)])), some (.blk true (.cells true [I 0, .nilsl])), some (.blk false (.cells true [I U, .sl 3 0 7 i])), some (.blk true (.cells true (clI l i)))])]
      rcases lz with g0 | g0
      have g1 := en (of_eq_true g0)
      case' hl => rcases lz with g0 | g0
      case' hs =>
        intro i hi
        obtain ⟨x, g1, g2, g3, g4, g5, g6, g7⟩ := rd i hi
        rcases ptf (i = 0) with g0 | g0
        have hz := of_eq_true g0
        subst hz
        have g3 : ((0 : Int) < (l.length : Int)) = True := g3
      all_goals (sym => (simp [etaM, etaF, z00,z01,z02,z03,z04,z05,z07,z0b,z0c,z0f,z0n,z0o,z0r,z0s,z0t,z0v,z12,z15,z1f,z1j,z1n,z1o,z1z,z29,z2b,z2g,z2h,z2j,z2v,z33,z34,z36,z3g,z3h,z3j,z4f,z4l,z4o,z4q,z4s,z4t,z54,z55,z57,z59,z5b,z5e,z66,z69,z6b,z6d,z6e,z6p,z6s,z6w,z6z,z78,z7b,z7f,z7r,z7u,z7w,z81,z8a,z8b,z8d,z8h,z9d,z9e,z9g,z9i,z9j,z9k,z9l,z9m,z9n,z9p,z9r,z9s,z9v,z9w,z9y,za0,za1,za3,za6,za7,za8,za9,zae,zaf,zag,zal,zam,zb4,zb5,zb9,zba,zbb,zbm,zbn,zbp,zbt,zbu,zbw,zbx,zby,zbz,zc0,zc3,zc4,zc5,zc7,zc8,zca,zcc,zcd,zce,zcf,zcg,zch,zcj,zcn,zco,zcp,zcq,zcr,zct,zcu,zcv,zcw,zcx,zcy,zd3,zd5,zdd,zdj,zdk,zdl,zdm,zdn,zds,zdt,zdu,zdv,zdw,zdx,zdy,zdz,ze0,ze1,ze2,ze3,ze9,zea,zeb,zec,zeo,zep,zeq,zer,zes,zet,zez,zf0,zf1,zf2,zf3,zf4,zf5,zf6,zf7,zf8,zf9,zfa,zfb,zfc,zfd,zfg,zfh,zfi,zfj,zfl,zfm,zfo,zfp,zfq,zfr,zfs,zft,zfu,zfw,zfy,zfz,zg0,zg1,zhe,zhf,zhg,zhp,zii, g0, g1, g2, g3, g4, g5, g6, g7, el, ec, clI_gr, clI_nm, clI_sl, clI_0]; all_goals tactic => exact rfl))
end Go.Proofs.Ytdbikamciedfdaa
namespace Go.Proofs.Ytdbikamciedfdaa
open Go Go.DL
set_option maxRecDepth 100000
set_option maxHeartbeats 1000000

/-- A number written at some places. -/
def setA (os : List Int) (c : Int) (us : List Int) : Nat → List Int
  | 0 => os
  | i + 1 => setX (setA os c us i) (us.getD i 0).toNat c
theorem setA_len {os us : List Int} {c : Int} (h : ∀ u ∈ us, 0 ≤ u ∧ u < os.length) : ∀ i, i ≤ us.length → (setA os c us i).length = os.length
  | 0, _ => rfl
  | i + 1, hi => by
    have ih := setA_len (c := c) h i (by omega)
    have hm : us.getD i 0 ∈ us := by
      rw [List.getD_eq_getElem?_getD, List.getElem?_eq_getElem (show i < us.length by omega)]
      exact List.getElem_mem _
    have := h _ hm
    rw [setA, setX_set (by omega), List.length_set, ih]

theorem y13 (os us : List Int) (c : Int) (hn : us.length < 1000000) (h : ∀ u ∈ us, 0 ≤ u ∧ u < os.length) :
    runYW progX (.fn (.yield 0) [] []) [rI us] [some (.loop 13 0 [.pt 1 0, .pt 3 0] .ready), some (.blk false (.cells true [.sl 2 0 1 os.length])), some (.blk true (.cells true (os.map I))), some (.blk true (.cells true [I c]))] =
      some (.bool true, [some (.loop 13 0 [.pt 1 0, .pt 3 0] .ready), some (.blk false (.cells true [.sl 2 0 1 os.length])), some (.blk true (.cells true ((setA os c us us.length).map I))), some (.blk true (.cells true [I (wr (c + 1))]))]) := by
  have rd : ∀ i, i < us.length → ∃ u, us[i]? = some u ∧ IntKind.i64.wrap ((i : Int) + 1) = (i : Int) + 1 ∧ ((i : Int) < (us.length : Int)) = True ∧ (0 ≤ u) = True ∧ (u < (os.length : Int)) = True ∧ (u.toNat + 1 ≤ (setA os c us i).length) = True ∧ setA os c us (i + 1) = setX (setA os c us i) u.toNat c := by
    intro i hi
    obtain ⟨u, hu⟩ := at_ix hi
    have := h u (List.mem_of_getElem? hu)
    refine ⟨u, hu, up_ix hi (by omega), lt_ix hi, eq_true this.1, eq_true this.2, eq_true (by rw [setA_len h i (by omega)]; omega), ?_⟩
    rw [setA, List.getD_eq_getElem?_getD, hu]; rfl
  rw [runYW_eq (K := 13) (d := x13) (site := 0) (vs := [.pt 1 0, .pt 3 0]) rfl rfl (by rfl) rfl]
  have g0 := pad
  have g1 := pad
  have g2 := pad
  have g3 := pad
  have g4 := pad
  have g5 := pad
  have g6 := pad
  have e0 : setA os c us 0 = os := rfl
  sym =>
    simp [etaM, etaF, z00,z01,z02,z05,z07,z0b,z0c,z0n,z0v,z15,z1f,z1j,z1n,z1o,z2b,z2f,z2g,z2h,z2j,z2v,z33,z34,z3h,z4l,z4m,z4q,z4s,z4t,z54,z66,z67,z6b,z6d,z6e,z8a,z9d,z9e,z9g,z9i,z9j,z9l,z9m,z9p,z9r,z9w,z9y,za1,za3,za5,za6,za7,za8,zae,zaf,zag,zai,zak,zal,zam,zao,zbv,zby,zca,zcc,zcd,zce,zcf,zcg,zch,zcn,zco,zcp,zcq,zcr,zcs,zct,zcu,zcv,zcw,zcx,zcy,zd3,zdd,zdj,zdk,zdl,zdo,zds,zdt,zdu,zdv,zdw,zdx,ze9,zem,zen,zf5,zf6,zf7,zf8,zf9,zfb,zfc,zfd,zfm,zfo,zfq,zfr,zfs,zft,zfu,zfw,zfy,zfz,zg0,zg1,zhd,zhe,zhi,zij,zik,zil,zim,zix,ziy,ziz,zj0]
    tactic =>
      unfold x13l0
      rw [loop_rule us.length (fun i => [.pt 1 0, .pt 3 0, rI us, I us.length, I (i : Nat)]) (fun i => [some (.loop 13 0 [.pt 1 0, .pt 3 0] .busy), some (.blk false (.cells true [.sl 2 0 1 os.length])), some (.blk true (.cells true ((setA os c us i).map I))), some (.blk true (.cells true [I c]))])]
      case' hs =>
        intro i hi
        obtain ⟨u, g0, g1, g2, g3, g4, g5, g6⟩ := rd i hi
      all_goals (sym => (simp [etaM, etaF, z00,z01,z02,z05,z07,z0b,z0c,z0n,z0v,z15,z1f,z1j,z1n,z1o,z2b,z2f,z2g,z2h,z2j,z2v,z33,z34,z3h,z4l,z4m,z4q,z4s,z4t,z54,z66,z67,z6b,z6d,z6e,z8a,z9d,z9e,z9g,z9i,z9j,z9l,z9m,z9p,z9r,z9w,z9y,za1,za3,za5,za6,za7,za8,zae,zaf,zag,zai,zak,zal,zam,zao,zbv,zby,zca,zcc,zcd,zce,zcf,zcg,zch,zcn,zco,zcp,zcq,zcr,zcs,zct,zcu,zcv,zcw,zcx,zcy,zd3,zdd,zdj,zdk,zdl,zdo,zds,zdt,zdu,zdv,zdw,zdx,ze9,zem,zen,zf5,zf6,zf7,zf8,zf9,zfb,zfc,zfd,zfm,zfo,zfq,zfr,zfs,zft,zfu,zfw,zfy,zfz,zg0,zg1,zhd,zhe,zhi,zij,zik,zil,zim,zix,ziy,ziz,zj0, g0, g1, g2, g3, g4, g5, g6, e0]; all_goals tactic => exact rfl))
end Go.Proofs.Ytdbikamciedfdaa
namespace Go.Proofs.Ytdbikamciedfdaa
open Go Go.DL
set_option maxRecDepth 100000
set_option maxHeartbeats 1000000

/-- The units of a head, as far as they have been looked at. -/
def usI (g : Int → Int) (u : Int) : Nat → List Int
  | 0 => []
  | v + 1 => if g v = u then usI g u v ++ [(v : Int)] else usI g u v
theorem usI_len (g : Int → Int) (u : Int) : ∀ v, (usI g u v).length ≤ v
  | 0 => Nat.le_refl _
  | v + 1 => by
    have := usI_len g u v
    rw [usI]
    split
    · rw [List.length_append]; simp; omega
    · omega
theorem usI_mem (g : Int → Int) (u : Int) : ∀ v x, x ∈ usI g u v ↔ (0 ≤ x ∧ x < v ∧ g x = u)
  | 0, x => by simp [usI]; omega
  | v + 1, x => by
    have ih := usI_mem g u v x
    rw [usI]
    split
    · rename_i h
      rw [List.mem_append, ih]
      simp only [List.mem_singleton]
      constructor
      · rintro (h1 | h1)
        · omega
        · subst h1; omega
      · intro h1
        by_cases hx : x = v
        · exact .inr hx
        · exact .inl (by omega)
    · rename_i h
      rw [ih]
      constructor
      · omega
      · intro h1
        by_cases hx : x = v
        · subst hx; exact absurd h1.2.2 h
        · omega
def cntI (g : Int → Int) : Nat → Int
  | 0 => 0
  | i + 1 => if g i = i then cntI g i + 1 else cntI g i
theorem cntI_le (g : Int → Int) : ∀ i, 0 ≤ cntI g i ∧ cntI g i ≤ i
  | 0 => by simp [cntI]
  | i + 1 => by
    have := cntI_le g i
    rw [cntI]
    split <;> omega
/-- What the parts' numbers are, as far as heads have been looked at. -/
def oI (g : Int → Int) (U : Nat) : Nat → List Int
  | 0 => List.replicate U (-1)
  | i + 1 => if g i = i then setA (oI g U i) (cntI g i) (usI g i U) (usI g i U).length else oI g U i
theorem usI_in {g : Int → Int} {u : Int} {U : Nat} : ∀ x ∈ usI g u U, 0 ≤ x ∧ x < U := fun x hx => by
  have := (usI_mem g u U x).1 hx; omega
theorem oI_len (g : Int → Int) (U : Nat) : ∀ i, (oI g U i).length = U
  | 0 => by simp [oI]
  | i + 1 => by
    have ih := oI_len g U i
    rw [oI]
    split
    · rw [setA_len (by rw [ih]; exact usI_in) _ (Nat.le_refl _), ih]
    · exact ih

theorem w66p (U : Nat) (l : List Fl) (es : List (Int × Int)) (g : Int → Int) (hU : U < 100000) (h67 : runW progX 67 [plA U l, I (-1)] [] = some (.mp 0, [mapB es])) (hi : InvG U es g) :
    runW progX 66 [.fn (.yield 0) [] [], .pt 4 0] [some (.loop 13 0 [.pt 1 0, .pt 3 0] .ready), some (.blk false (.cells true [.sl 2 0 1 U])), some (.blk true (.cells true ((oI g U 0).map I))), some (.blk true (.cells true [I 0])), some (.blk true (.cells true [I U, .fs (l.map Fl.row)]))] =
      some (.tup [], [some (.loop 13 0 [.pt 1 0, .pt 3 0] .ready), some (.blk false (.cells true [.sl 2 0 1 U])), some (.blk true (.cells true ((oI g U U).map I))), some (.blk true (.cells true [I (cntI g U)])), some (.blk true (.cells true [I U, .fs (l.map Fl.row)]))]) := by
  have e57 : ∀ x : Nat, x < U → runW progX 57 [.mp 0, I x] [mapB es] = some (I (g x), [mapB es]) := fun x h => w57h hi (by omega) (by omega)
  have ru : ∀ i, i < U → IntKind.i64.wrap ((i : Int) + 1) = (i : Int) + 1 ∧ ((i : Int) < (U : Int)) = True ∧ runW progX 57 [.mp 0, I i] [mapB es] = some (I (g i), [mapB es]) := fun i h => ⟨up_ix h (by omega), eq_true (by omega), e57 i h⟩
  have rv : ∀ (u : Int) v, v < U → ((g v = u) = True ∧ usI g u (v + 1) = usI g u v ++ [(v : Int)]) ∨ ((g v = u) = False ∧ usI g u (v + 1) = usI g u v) := by
    intro u v hv
    by_cases h : g v = u
    · exact .inl ⟨eq_true h, by rw [usI, if_pos h]⟩
    · exact .inr ⟨eq_false h, by rw [usI, if_neg h]⟩
  have rl : ∀ (u : Int) v a r, v < U → usI g u v = a :: r → ((r.length + 1 + 1) * 8 ≤ 1099511627776) = True ∧ (r.length + 1 + 1 ≤ 1099511627776) = True := by
    intro u v a r hv h
    have := usI_len g u v
    rw [h, List.length_cons] at this
    exact ⟨eq_true (by omega), eq_true (by omega)⟩
  have ry : ∀ i, i < U → g i = i → ∃ a r, usI g i U = a :: r ∧ oI g U (i + 1) = setA (oI g U i) (cntI g i) (a :: r) (a :: r).length ∧ cntI g (i + 1) = cntI g i + 1 ∧ runYW progX (.fn (.yield 0) [] []) [.fs ([I a] :: r.map fun v => [I v])] [some (.loop 13 0 [.pt 1 0, .pt 3 0] .ready), some (.blk false (.cells true [.sl 2 0 1 U])), some (.blk true (.cells true ((oI g U i).map I))), some (.blk true (.cells true [I (cntI g i)]))] =
      some (.bool true, [some (.loop 13 0 [.pt 1 0, .pt 3 0] .ready), some (.blk false (.cells true [.sl 2 0 1 U])), some (.blk true (.cells true ((oI g U (i + 1)).map I))), some (.blk true (.cells true [I (cntI g (i + 1))]))]) := by
    intro i h h2
    have hm : (i : Int) ∈ usI g i U := (usI_mem g i U i).2 ⟨by omega, by omega, h2⟩
    have hc := cntI_le g i
    cases hu : usI g i U with
    | nil => rw [hu] at hm; simp at hm
    | cons a r =>
      refine ⟨a, r, rfl, by rw [oI, if_pos h2, hu], by rw [cntI, if_pos h2], ?_⟩
      have y := y13 (oI g U i) (a :: r) (cntI g i) (by have := usI_len g i U; rw [hu] at this; omega) (by rw [oI_len, ← hu]; exact usI_in)
      rw [oI_len] at y
      rw [oI, if_pos h2, hu, cntI, if_pos h2]
      rw [show wr (cntI g i + 1) = cntI g i + 1 from wrap_ok (by omega) (by omega)] at y
      exact y
  have rn : ∀ i, ¬ g (i : Nat) = i → oI g U (i + 1) = oI g U i ∧ cntI g (i + 1) = cntI g i := fun i h => ⟨by rw [oI, if_neg h], by rw [cntI, if_neg h]⟩
  have c0 : cntI g 0 = 0 := rfl
  have u0 : ∀ u, usI g u 0 = [] := fun _ => rfl
  have g0 := pad
  have g1 := pad
  have g2 := pad
  have g3 := pad
  have g4 := pad
  have g5 := pad
  have g6 := pad
  rw [r66 (by simp)]; unfold x66; dsimp only
  sym =>
    simp [etaM, etaF, z00,z01,z03,z04,z05,z06,z07,z09,z0b,z0c,z0f,z0n,z0t,z0v,z0z,z12,z1j,z1r,z1u,z1z,z20,z21,z26,z29,z2j,z2t,z2u,z2v,z3h,z4l,z4o,z4p,z4q,z4s,z4t,z4u,z4v,z4z,z54,z5b,z66,z67,z69,z6a,z6b,z6d,z6e,z6f,z6g,z6k,z6t,z6w,z6y,z78,z7f,z7g,z7h,z7m,z7v,z7z,z85,z8a,z9d,z9e,z9g,z9i,z9j,z9k,z9l,z9m,z9n,z9p,z9r,z9s,z9t,z9v,z9w,z9x,z9y,za0,za1,za2,za3,za5,za6,za7,za8,za9,zaa,zab,zac,zae,zaf,zag,zai,zak,zal,zam,zao,zaq,zas,zat,zau,zb4,zb5,zb9,zba,zbb,zbc,zbd,zbe,zbf,zbg,zbk,zbm,zbn,zbp,zbq,zbs,zbu,zbw,zbx,zby,zbz,zc1,zc3,zc8,zca,zcc,zcd,zce,zcf,zcg,zch,zcj,zcn,zco,zcp,zcq,zcr,zcs,zct,zcu,zcv,zcw,zcy,zd3,zd6,zd7,zdd,zde,zdj,zdk,zdl,zdm,zdn,zdo,zds,zdt,zdu,zdv,zdw,zdx,zdy,ze0,ze1,ze2,ze3,ze9,zea,zeb,zec,zeq,zer,zes,zet,zez,zf0,zf1,zf2,zf3,zf4,zf5,zf6,zf7,zfa,zfb,zfg,zfh,zfi,zfj,zfl,zfm,zfo,zfq,zfr,zfs,zft,zfu,zfw,zfy,zfz,zg0,zg1,zhb,zhc,zhd,zhe,zhg,zhp,zi8,zi9,zia,zib,zic,ziw, h67]
    tactic =>
      unfold x66l1
      rw [loop_rule U (fun i => [.fn (.yield 0) [] [], .pt 4 0, .mp 5, I U, I (i : Nat)]) (fun i => [some (.loop 13 0 [.pt 1 0, .pt 3 0] .ready), some (.blk false (.cells true [.sl 2 0 1 U])), some (.blk true (.cells true ((oI g U i).map I))), some (.blk true (.cells true [I (cntI g i)])), some (.blk true (.cells true [I U, .fs (l.map Fl.row)])), mapB es])]
      rotate_left
      rotate_left
      · intro i hi
        obtain ⟨g0, g1, g2⟩ := ru i hi
        by_cases hg : g i = i
        · have g3 := eq_true hg
          obtain ⟨a, r, k1, k2, k3, k4⟩ := ry i hi hg
          clear k2 k3
          sym =>
            simp [etaM, etaF, z00,z01,z03,z04,z05,z06,z07,z09,z0b,z0c,z0f,z0n,z0t,z0v,z0z,z12,z1j,z1r,z1u,z1z,z20,z21,z26,z29,z2j,z2t,z2u,z2v,z3h,z4l,z4o,z4p,z4q,z4s,z4t,z4u,z4v,z4z,z54,z5b,z66,z67,z69,z6a,z6b,z6d,z6e,z6f,z6g,z6k,z6t,z6w,z6y,z78,z7f,z7g,z7h,z7m,z7v,z7z,z85,z8a,z9d,z9e,z9g,z9i,z9j,z9k,z9l,z9m,z9n,z9p,z9r,z9s,z9t,z9v,z9w,z9x,z9y,za0,za1,za2,za3,za5,za6,za7,za8,za9,zaa,zab,zac,zae,zaf,zag,zai,zak,zal,zam,zao,zaq,zas,zat,zau,zb4,zb5,zb9,zba,zbb,zbc,zbd,zbe,zbf,zbg,zbk,zbm,zbn,zbp,zbq,zbs,zbu,zbw,zbx,zby,zbz,zc1,zc3,zc8,zca,zcc,zcd,zce,zcf,zcg,zch,zcj,zcn,zco,zcp,zcq,zcr,zcs,zct,zcu,zcv,zcw,zcy,zd3,zd6,zd7,zdd,zde,zdj,zdk,zdl,zdm,zdn,zdo,zds,zdt,zdu,zdv,zdw,zdx,zdy,ze0,ze1,ze2,ze3,ze9,zea,zeb,zec,zeq,zer,zes,zet,zez,zf0,zf1,zf2,zf3,zf4,zf5,zf6,zf7,zfa,zfb,zfg,zfh,zfi,zfj,zfl,zfm,zfo,zfq,zfr,zfs,zft,zfu,zfw,zfy,zfz,zg0,zg1,zhb,zhc,zhd,zhe,zhg,zhp,zi8,zi9,zia,zib,zic,ziw, g0, g1, g2, g3]
            tactic =>
              unfold x66l0
              rw [loop_rule U (fun v => [.fn (.yield 0) [] [], .pt 4 0, .mp 5, I i, oS 6 (usI g i v), I U, I (i : Nat), I U, I (v : Nat)]) (fun v => [some (.loop 13 0 [.pt 1 0, .pt 3 0] .ready), some (.blk false (.cells true [.sl 2 0 1 U])), some (.blk true (.cells true ((oI g U i).map I))), some (.blk true (.cells true [I (cntI g i)])), some (.blk true (.cells true [I U, .fs (l.map Fl.row)])), mapB es] ++ oG (usI g i v))]
              rotate_left
              rotate_left
              rotate_left
              · (sym => (simp [etaM, etaF, z00,z01,z03,z04,z05,z06,z07,z09,z0b,z0c,z0f,z0n,z0t,z0v,z0z,z12,z1j,z1r,z1u,z1z,z20,z21,z26,z29,z2j,z2t,z2u,z2v,z3h,z4l,z4o,z4p,z4q,z4s,z4t,z4u,z4v,z4z,z54,z5b,z66,z67,z69,z6a,z6b,z6d,z6e,z6f,z6g,z6k,z6t,z6w,z6y,z78,z7f,z7g,z7h,z7m,z7v,z7z,z85,z8a,z9d,z9e,z9g,z9i,z9j,z9k,z9l,z9m,z9n,z9p,z9r,z9s,z9t,z9v,z9w,z9x,z9y,za0,za1,za2,za3,za5,za6,za7,za8,za9,zaa,zab,zac,zae,zaf,zag,zai,zak,zal,zam,zao,zaq,zas,zat,zau,zb4,zb5,zb9,zba,zbb,zbc,zbd,zbe,zbf,zbg,zbk,zbm,zbn,zbp,zbq,zbs,zbu,zbw,zbx,zby,zbz,zc1,zc3,zc8,zca,zcc,zcd,zce,zcf,zcg,zch,zcj,zcn,zco,zcp,zcq,zcr,zcs,zct,zcu,zcv,zcw,zcy,zd3,zd6,zd7,zdd,zde,zdj,zdk,zdl,zdm,zdn,zdo,zds,zdt,zdu,zdv,zdw,zdx,zdy,ze0,ze1,ze2,ze3,ze9,zea,zeb,zec,zeq,zer,zes,zet,zez,zf0,zf1,zf2,zf3,zf4,zf5,zf6,zf7,zfa,zfb,zfg,zfh,zfi,zfj,zfl,zfm,zfo,zfq,zfr,zfs,zft,zfu,zfw,zfy,zfz,zg0,zg1,zhb,zhc,zhd,zhe,zhg,zhp,zi8,zi9,zia,zib,zic,ziw, k1]; all_goals tactic => exact rfl))
              · (sym => (simp [etaM, etaF, z00,z01,z03,z04,z05,z06,z07,z09,z0b,z0c,z0f,z0n,z0t,z0v,z0z,z12,z1j,z1r,z1u,z1z,z20,z21,z26,z29,z2j,z2t,z2u,z2v,z3h,z4l,z4o,z4p,z4q,z4s,z4t,z4u,z4v,z4z,z54,z5b,z66,z67,z69,z6a,z6b,z6d,z6e,z6f,z6g,z6k,z6t,z6w,z6y,z78,z7f,z7g,z7h,z7m,z7v,z7z,z85,z8a,z9d,z9e,z9g,z9i,z9j,z9k,z9l,z9m,z9n,z9p,z9r,z9s,z9t,z9v,z9w,z9x,z9y,za0,za1,za2,za3,za5,za6,za7,za8,za9,zaa,zab,zac,zae,zaf,zag,zai,zak,zal,zam,zao,zaq,zas,zat,zau,zb4,zb5,zb9,zba,zbb,zbc,zbd,zbe,zbf,zbg,zbk,zbm,zbn,zbp,zbq,zbs,zbu,zbw,zbx,zby,zbz,zc1,zc3,zc8,zca,zcc,zcd,zce,zcf,zcg,zch,zcj,zcn,zco,zcp,zcq,zcr,zcs,zct,zcu,zcv,zcw,zcy,zd3,zd6,zd7,zdd,zde,zdj,zdk,zdl,zdm,zdn,zdo,zds,zdt,zdu,zdv,zdw,zdx,zdy,ze0,ze1,ze2,ze3,ze9,zea,zeb,zec,zeq,zer,zes,zet,zez,zf0,zf1,zf2,zf3,zf4,zf5,zf6,zf7,zfa,zfb,zfg,zfh,zfi,zfj,zfl,zfm,zfo,zfq,zfr,zfs,zft,zfu,zfw,zfy,zfz,zg0,zg1,zhb,zhc,zhd,zhe,zhg,zhp,zi8,zi9,zia,zib,zic,ziw, k1, k4, g0, g1]; all_goals tactic => exact rfl))
              · (sym => (simp [etaM, etaF, z00,z01,z03,z04,z05,z06,z07,z09,z0b,z0c,z0f,z0n,z0t,z0v,z0z,z12,z1j,z1r,z1u,z1z,z20,z21,z26,z29,z2j,z2t,z2u,z2v,z3h,z4l,z4o,z4p,z4q,z4s,z4t,z4u,z4v,z4z,z54,z5b,z66,z67,z69,z6a,z6b,z6d,z6e,z6f,z6g,z6k,z6t,z6w,z6y,z78,z7f,z7g,z7h,z7m,z7v,z7z,z85,z8a,z9d,z9e,z9g,z9i,z9j,z9k,z9l,z9m,z9n,z9p,z9r,z9s,z9t,z9v,z9w,z9x,z9y,za0,za1,za2,za3,za5,za6,za7,za8,za9,zaa,zab,zac,zae,zaf,zag,zai,zak,zal,zam,zao,zaq,zas,zat,zau,zb4,zb5,zb9,zba,zbb,zbc,zbd,zbe,zbf,zbg,zbk,zbm,zbn,zbp,zbq,zbs,zbu,zbw,zbx,zby,zbz,zc1,zc3,zc8,zca,zcc,zcd,zce,zcf,zcg,zch,zcj,zcn,zco,zcp,zcq,zcr,zcs,zct,zcu,zcv,zcw,zcy,zd3,zd6,zd7,zdd,zde,zdj,zdk,zdl,zdm,zdn,zdo,zds,zdt,zdu,zdv,zdw,zdx,zdy,ze0,ze1,ze2,ze3,ze9,zea,zeb,zec,zeq,zer,zes,zet,zez,zf0,zf1,zf2,zf3,zf4,zf5,zf6,zf7,zfa,zfb,zfg,zfh,zfi,zfj,zfl,zfm,zfo,zfq,zfr,zfs,zft,zfu,zfw,zfy,zfz,zg0,zg1,zhb,zhc,zhd,zhe,zhg,zhp,zi8,zi9,zia,zib,zic,ziw, u0]; all_goals tactic => exact rfl))
              · intro v hv
                obtain ⟨m0, m1, m2⟩ := ru v hv
                rcases hu : usI g i v with _ | ⟨a, r⟩
                · rcases rv i v hv with ⟨m3, m4⟩ | ⟨m3, m4⟩ <;> rw [m4, hu] <;> (sym => (simp [etaM, etaF, z00,z01,z03,z04,z05,z06,z07,z09,z0b,z0c,z0f,z0n,z0t,z0v,z0z,z12,z1j,z1r,z1u,z1z,z20,z21,z26,z29,z2j,z2t,z2u,z2v,z3h,z4l,z4o,z4p,z4q,z4s,z4t,z4u,z4v,z4z,z54,z5b,z66,z67,z69,z6a,z6b,z6d,z6e,z6f,z6g,z6k,z6t,z6w,z6y,z78,z7f,z7g,z7h,z7m,z7v,z7z,z85,z8a,z9d,z9e,z9g,z9i,z9j,z9k,z9l,z9m,z9n,z9p,z9r,z9s,z9t,z9v,z9w,z9x,z9y,za0,za1,za2,za3,za5,za6,za7,za8,za9,zaa,zab,zac,zae,zaf,zag,zai,zak,zal,zam,zao,zaq,zas,zat,zau,zb4,zb5,zb9,zba,zbb,zbc,zbd,zbe,zbf,zbg,zbk,zbm,zbn,zbp,zbq,zbs,zbu,zbw,zbx,zby,zbz,zc1,zc3,zc8,zca,zcc,zcd,zce,zcf,zcg,zch,zcj,zcn,zco,zcp,zcq,zcr,zcs,zct,zcu,zcv,zcw,zcy,zd3,zd6,zd7,zdd,zde,zdj,zdk,zdl,zdm,zdn,zdo,zds,zdt,zdu,zdv,zdw,zdx,zdy,ze0,ze1,ze2,ze3,ze9,zea,zeb,zec,zeq,zer,zes,zet,zez,zf0,zf1,zf2,zf3,zf4,zf5,zf6,zf7,zfa,zfb,zfg,zfh,zfi,zfj,zfl,zfm,zfo,zfq,zfr,zfs,zft,zfu,zfw,zfy,zfz,zg0,zg1,zhb,zhc,zhd,zhe,zhg,zhp,zi8,zi9,zia,zib,zic,ziw, m0, m1, m2, m3]; all_goals tactic => exact rfl))
                · obtain ⟨m5, m6⟩ := rl i v a r hv hu
                  rcases rv i v hv with ⟨m3, m4⟩ | ⟨m3, m4⟩ <;> rw [m4, hu] <;> (sym => (simp [etaM, etaF, z00,z01,z03,z04,z05,z06,z07,z09,z0b,z0c,z0f,z0n,z0t,z0v,z0z,z12,z1j,z1r,z1u,z1z,z20,z21,z26,z29,z2j,z2t,z2u,z2v,z3h,z4l,z4o,z4p,z4q,z4s,z4t,z4u,z4v,z4z,z54,z5b,z66,z67,z69,z6a,z6b,z6d,z6e,z6f,z6g,z6k,z6t,z6w,z6y,z78,z7f,z7g,z7h,z7m,z7v,z7z,z85,z8a,z9d,z9e,z9g,z9i,z9j,z9k,z9l,z9m,z9n,z9p,z9r,z9s,z9t,z9v,z9w,z9x,z9y,za0,za1,za2,za3,za5,za6,za7,za8,za9,zaa,zab,zac,zae,zaf,zag,zai,zak,zal,zam,zao,zaq,zas,zat,zau,zb4,zb5,zb9,zba,zbb,zbc,zbd,zbe,zbf,zbg,zbk,zbm,zbn,zbp,zbq,zbs,zbu,zbw,zbx,zby,zbz,zc1,zc3,zc8,zca,zcc,zcd,zce,zcf,zcg,zch,zcj,zcn,zco,zcp,zcq,zcr,zcs,zct,zcu,zcv,zcw,zcy,zd3,zd6,zd7,zdd,zde,zdj,zdk,zdl,zdm,zdn,zdo,zds,zdt,zdu,zdv,zdw,zdx,zdy,ze0,ze1,ze2,ze3,ze9,zea,zeb,zec,zeq,zer,zes,zet,zez,zf0,zf1,zf2,zf3,zf4,zf5,zf6,zf7,zfa,zfb,zfg,zfh,zfi,zfj,zfl,zfm,zfo,zfq,zfr,zfs,zft,zfu,zfw,zfy,zfz,zg0,zg1,zhb,zhc,zhd,zhe,zhg,zhp,zi8,zi9,zia,zib,zic,ziw, m0, m1, m2, m3, m5, m6]; all_goals tactic => exact rfl))
        · have g3 := eq_false hg
          obtain ⟨g4, g5⟩ := rn i hg
          (sym => (simp [etaM, etaF, z00,z01,z03,z04,z05,z06,z07,z09,z0b,z0c,z0f,z0n,z0t,z0v,z0z,z12,z1j,z1r,z1u,z1z,z20,z21,z26,z29,z2j,z2t,z2u,z2v,z3h,z4l,z4o,z4p,z4q,z4s,z4t,z4u,z4v,z4z,z54,z5b,z66,z67,z69,z6a,z6b,z6d,z6e,z6f,z6g,z6k,z6t,z6w,z6y,z78,z7f,z7g,z7h,z7m,z7v,z7z,z85,z8a,z9d,z9e,z9g,z9i,z9j,z9k,z9l,z9m,z9n,z9p,z9r,z9s,z9t,z9v,z9w,z9x,z9y,za0,za1,za2,za3,za5,za6,za7,za8,za9,zaa,zab,zac,zae,zaf,zag,zai,zak,zal,zam,zao,zaq,zas,zat,zau,zb4,zb5,zb9,zba,zbb,zbc,zbd,zbe,zbf,zbg,zbk,zbm,zbn,zbp,zbq,zbs,zbu,zbw,zbx,zby,zbz,zc1,zc3,zc8,zca,zcc,zcd,zce,zcf,zcg,zch,zcj,zcn,zco,zcp,zcq,zcr,zcs,zct,zcu,zcv,zcw,zcy,zd3,zd6,zd7,zdd,zde,zdj,zdk,zdl,zdm,zdn,zdo,zds,zdt,zdu,zdv,zdw,zdx,zdy,ze0,ze1,ze2,ze3,ze9,zea,zeb,zec,zeq,zer,zes,zet,zez,zf0,zf1,zf2,zf3,zf4,zf5,zf6,zf7,zfa,zfb,zfg,zfh,zfi,zfj,zfl,zfm,zfo,zfq,zfr,zfs,zft,zfu,zfw,zfy,zfz,zg0,zg1,zhb,zhc,zhd,zhe,zhg,zhp,zi8,zi9,zia,zib,zic,ziw, g0, g1, g2, g3, g4, g5]; all_goals tactic => exact rfl))
      all_goals (sym => (simp [etaM, etaF, z00,z01,z03,z04,z05,z06,z07,z09,z0b,z0c,z0f,z0n,z0t,z0v,z0z,z12,z1j,z1r,z1u,z1z,z20,z21,z26,z29,z2j,z2t,z2u,z2v,z3h,z4l,z4o,z4p,z4q,z4s,z4t,z4u,z4v,z4z,z54,z5b,z66,z67,z69,z6a,z6b,z6d,z6e,z6f,z6g,z6k,z6t,z6w,z6y,z78,z7f,z7g,z7h,z7m,z7v,z7z,z85,z8a,z9d,z9e,z9g,z9i,z9j,z9k,z9l,z9m,z9n,z9p,z9r,z9s,z9t,z9v,z9w,z9x,z9y,za0,za1,za2,za3,za5,za6,za7,za8,za9,zaa,zab,zac,zae,zaf,zag,zai,zak,zal,zam,zao,zaq,zas,zat,zau,zb4,zb5,zb9,zba,zbb,zbc,zbd,zbe,zbf,zbg,zbk,zbm,zbn,zbp,zbq,zbs,zbu,zbw,zbx,zby,zbz,zc1,zc3,zc8,zca,zcc,zcd,zce,zcf,zcg,zch,zcj,zcn,zco,zcp,zcq,zcr,zcs,zct,zcu,zcv,zcw,zcy,zd3,zd6,zd7,zdd,zde,zdj,zdk,zdl,zdm,zdn,zdo,zds,zdt,zdu,zdv,zdw,zdx,zdy,ze0,ze1,ze2,ze3,ze9,zea,zeb,zec,zeq,zer,zes,zet,zez,zf0,zf1,zf2,zf3,zf4,zf5,zf6,zf7,zfa,zfb,zfg,zfh,zfi,zfj,zfl,zfm,zfo,zfq,zfr,zfs,zft,zfu,zfw,zfy,zfz,zg0,zg1,zhb,zhc,zhd,zhe,zhg,zhp,zi8,zi9,zia,zib,zic,ziw, c0]; all_goals tactic => exact rfl))
end Go.Proofs.Ytdbikamciedfdaa
namespace Go.Proofs.Ytdbikamciedfdaa
open Go Go.DL
set_option maxRecDepth 100000
set_option maxHeartbeats 1000000

theorem rp1 : runW progX 35 [.sl 0 0 1 1, I 1] [some (.blk true (.cells true [I (-1)]))] = some (.sl 1 0 1 1, [some (.blk true (.cells true [I (-1)])), some (.blk true (.cells true ((List.replicate 1 (-1 : Int)).map I)))]) := runW_iff.2 ⟨100, by kernel_rfl⟩
theorem rp2 : runW progX 35 [.sl 0 0 1 1, I 2] [some (.blk true (.cells true [I (-1)]))] = some (.sl 1 0 1 2, [some (.blk true (.cells true [I (-1)])), some (.blk true (.cells true ((List.replicate 2 (-1 : Int)).map I)))]) := runW_iff.2 ⟨100, by kernel_rfl⟩
theorem rp3 : runW progX 35 [.sl 0 0 1 1, I 3] [some (.blk true (.cells true [I (-1)]))] = some (.sl 1 0 1 3, [some (.blk true (.cells true [I (-1)])), some (.blk true (.cells true ((List.replicate 3 (-1 : Int)).map I)))]) := runW_iff.2 ⟨100, by kernel_rfl⟩
theorem rp4 : runW progX 35 [.sl 0 0 1 1, I 4] [some (.blk true (.cells true [I (-1)]))] = some (.sl 1 0 1 4, [some (.blk true (.cells true [I (-1)])), some (.blk true (.cells true ((List.replicate 4 (-1 : Int)).map I)))]) := runW_iff.2 ⟨100, by kernel_rfl⟩
theorem rp5 : runW progX 35 [.sl 0 0 1 1, I 5] [some (.blk true (.cells true [I (-1)]))] = some (.sl 1 0 1 5, [some (.blk true (.cells true [I (-1)])), some (.blk true (.cells true ((List.replicate 5 (-1 : Int)).map I)))]) := runW_iff.2 ⟨100, by kernel_rfl⟩
theorem rp6 : runW progX 35 [.sl 0 0 1 1, I 6] [some (.blk true (.cells true [I (-1)]))] = some (.sl 1 0 1 6, [some (.blk true (.cells true [I (-1)])), some (.blk true (.cells true ((List.replicate 6 (-1 : Int)).map I)))]) := runW_iff.2 ⟨100, by kernel_rfl⟩
theorem rp7 : runW progX 35 [.sl 0 0 1 1, I 7] [some (.blk true (.cells true [I (-1)]))] = some (.sl 1 0 1 7, [some (.blk true (.cells true [I (-1)])), some (.blk true (.cells true ((List.replicate 7 (-1 : Int)).map I)))]) := runW_iff.2 ⟨100, by kernel_rfl⟩
theorem rp8 : runW progX 35 [.sl 0 0 1 1, I 8] [some (.blk true (.cells true [I (-1)]))] = some (.sl 1 0 1 8, [some (.blk true (.cells true [I (-1)])), some (.blk true (.cells true ((List.replicate 8 (-1 : Int)).map I)))]) := runW_iff.2 ⟨100, by kernel_rfl⟩
theorem w35 (U : Nat) (h1 : 1 ≤ U) (h2 : U ≤ 8) : runW progX 35 [.sl 0 0 1 1, I U] [some (.blk true (.cells true [I (-1)]))] = some (.sl 1 0 1 U, [some (.blk true (.cells true [I (-1)])), some (.blk true (.cells true ((List.replicate U (-1 : Int)).map I)))]) := by
  have h : U = 1 ∨ U = 2 ∨ U = 3 ∨ U = 4 ∨ U = 5 ∨ U = 6 ∨ U = 7 ∨ U = 8 := by omega
  rcases h with h | h | h | h | h | h | h | h <;> subst h
  · exact rp1
  · exact rp2
  · exact rp3
  · exact rp4
  · exact rp5
  · exact rp6
  · exact rp7
  · exact rp8

theorem w36 (U : Int) (l : List Fl) : runW progX 36 [plA U l] [] = some (.fn (.func 66) [] [.pt 0 0], [some (.blk true (.cells true [I U, .fs (l.map Fl.row)]))]) := by
  rw [r36 (by simp)]; unfold x36; dsimp only
  (sym => (simp [etaM, etaF, z00,z01,z05,z07,z0b,z0f,z0n,z0p,z0r,z4t,z4y,z54,z57,z59,z6e,z6j,z72,z7r,z7u,z7w,z84,z8d,z9d,z9n,z9r,z9v,z9w,z9y,za0,za1,za3,za6,za7,za8,za9,zae,zaf,zal,zba,zbt,zbu,zbw,zbx,zby,zbz,zc0,zc3,zc4,zc5,zc6,zc8,zcj,zcn,zco,zcq,zcr,zct,zcv,zcy,zd3,zdj,zds,zdt,zdu,zdv,zdw,zdx,ze2,ze3,zeo,zep,zfg,zfo,zfp,zft,zg0,zg1,zhf]; all_goals tactic => exact rfl))

theorem rngL_of {U : Int} {l : List Fl} (h : checkP U l = 0) : rngL U l := by
  obtain ⟨u1, u2, u3, u4⟩ := checkP_u h
  have key : ∀ l : List Fl, firstE U l = 0 → ∀ x ∈ l, chkF U x = 0 := by
    intro l
    induction l with
    | nil => intro _ x hx; simp at hx
    | cons a r ih =>
      intro h x hx
      rw [firstE] at h
      by_cases ha : chkF U a = 0
      · rw [if_pos ha] at h
        rcases List.mem_cons.1 hx with hx | hx
        · rw [hx]; exact ha
        · exact ih h x hx
      · rw [if_neg ha] at h
        exact absurd h ha
  intro x hx
  have := key l u4 x hx
  unfold chkF at this
  rw [show wr (U - 1) = U - 1 from wrap_ok (by omega) (by omega)] at this
  cases h1 : btw (-1) x.fr (U - 1) && btw (-1) x.to (U - 1) with
  | false => rw [h1] at this; simp at this
  | true =>
    simp only [btw, Bool.and_eq_true, decide_eq_true_eq] at h1
    omega

/-- The part of each unit. -/
def ptE (U : Nat) (l : List Fl) : Option (AV × XH) := if checkP U l = 0 then some (.tup [rI (oI (gI (-1) l l.length) U U), I 0], []) else some (.tup [.fs [], I (checkP U l)], [])
theorem w13 (U : Nat) (l : List Fl) (hn : l.length < 1000000) : runW progX 13 [plA U l] [] = ptE U l := by
  have c := w20 U l hn
  by_cases h : checkP U l = 0
  · obtain ⟨u1, u2, u3, u4⟩ := checkP_u h
    have hr := rngL_of h
    have e67 := w67 U l (-1) hn hr
    have e66 := w66p U l _ _ (by omega) e67 (esI_inv hr l.length)
    have e35 := w35 U (by omega) (by omega)
    have g := eq_true h
    have eo : oI (gI (-1) l l.length) U 0 = List.replicate U (-1) := rfl
    rw [eo] at e66
    rw [ptE, if_pos h]
    have ch := zhk (hs := oI (gI (-1) l l.length) U U)
    rw [oI_len] at ch
    have ol := oI_len (gI (-1) l l.length) U U
    rw [r13 (by simp)]; unfold x13; dsimp only
    (sym => (simp [etaM, etaF, z00,z01,z02,z03,z04,z05,z06,z07,z09,z0b,z0c,z0f,z0n,z0o,z0r,z0t,z0v,z12,z1j,z1n,z1o,z1r,z1u,z20,z21,z29,z2u,z4l,z4o,z4p,z4q,z4s,z4t,z4z,z54,z57,z59,z5b,z5e,z66,z69,z6a,z6b,z6d,z6e,z6j,z6k,z6p,z6t,z6w,z6z,z78,z7c,z7f,z7r,z7u,z7v,z7w,z81,z8a,z8d,z8h,z9d,z9e,z9g,z9i,z9j,z9k,z9l,z9m,z9n,z9p,z9r,z9s,z9t,z9v,z9x,z9y,za0,za1,za2,za3,za5,za6,za7,za8,zaa,zab,zac,zae,zaf,zag,zai,zal,zam,zao,zaq,zas,zat,zau,zb4,zb5,zb9,zba,zbb,zbc,zbd,zbf,zbg,zbk,zbl,zbm,zbn,zbp,zbt,zbu,zbw,zbx,zby,zbz,zc2,zc3,zc4,zc5,zc6,zc8,zce,zcf,zcg,zcj,zcn,zco,zcp,zcq,zcr,zct,zcu,zcv,zcw,zcy,zd3,zd5,zd6,zd7,zdd,zdj,zdk,zdl,zdm,zdn,zdo,zds,zdt,zdu,zdv,zdw,zdx,zdy,zdz,ze0,ze1,ze2,ze3,ze9,zea,zeb,zec,zeo,zep,zeq,zer,zes,zet,zf6,zf7,zfa,zfb,zfc,zfd,zfg,zfm,zfo,zfp,zfq,zfs,zft,zfv,zfw,zg0,zg1,zhd,zhe,zhg,zhk,zhp,zij,zik,zin,ziq,zir,zis,zit,ziu, c, g, e66, e35, w36, ch, ol]; all_goals tactic => exact rfl))
  · have g := eq_false h
    rw [ptE, if_neg h]
    rw [r13 (by simp)]; unfold x13; dsimp only
    (sym => (simp [etaM, etaF, z00,z01,z02,z03,z04,z05,z06,z07,z09,z0b,z0c,z0f,z0n,z0o,z0r,z0t,z0v,z12,z1j,z1n,z1o,z1r,z1u,z20,z21,z29,z2u,z4l,z4o,z4p,z4q,z4s,z4t,z4z,z54,z57,z59,z5b,z5e,z66,z69,z6a,z6b,z6d,z6e,z6j,z6k,z6p,z6t,z6w,z6z,z78,z7c,z7f,z7r,z7u,z7v,z7w,z81,z8a,z8d,z8h,z9d,z9e,z9g,z9i,z9j,z9k,z9l,z9m,z9n,z9p,z9r,z9s,z9t,z9v,z9x,z9y,za0,za1,za2,za3,za5,za6,za7,za8,zaa,zab,zac,zae,zaf,zag,zai,zal,zam,zao,zaq,zas,zat,zau,zb4,zb5,zb9,zba,zbb,zbc,zbd,zbf,zbg,zbk,zbl,zbm,zbn,zbp,zbt,zbu,zbw,zbx,zby,zbz,zc2,zc3,zc4,zc5,zc6,zc8,zce,zcf,zcg,zcj,zcn,zco,zcp,zcq,zcr,zct,zcu,zcv,zcw,zcy,zd3,zd5,zd6,zd7,zdd,zdj,zdk,zdl,zdm,zdn,zdo,zds,zdt,zdu,zdv,zdw,zdx,zdy,zdz,ze0,ze1,ze2,ze3,ze9,zea,zeb,zec,zeo,zep,zeq,zer,zes,zet,zf6,zf7,zfa,zfb,zfc,zfd,zfg,zfm,zfo,zfp,zfq,zfs,zft,zfv,zfw,zg0,zg1,zhd,zhe,zhg,zhk,zhp,zij,zik,zin,ziq,zir,zis,zit,ziu, c, g]; all_goals tactic => exact rfl))
end Go.Proofs.Ytdbikamciedfdaa
namespace Go.Proofs.Ytdbikamciedfdaa
open Go Go.DL
set_option maxRecDepth 100000
set_option maxHeartbeats 1000000

def outV (g : Int → Int) (os : List Int) (i : Nat) : Int := if g i = -1 then -1 else if g i = i then cntI g i else os.getD (g i).toNat 0
def outR (g : Int → Int) : Nat → List Int
  | 0 => []
  | i + 1 => outR g i ++ [outV g (outR g i) i]
theorem outR_len (g : Int → Int) : ∀ i, (outR g i).length = i
  | 0 => rfl
  | i + 1 => by rw [outR, List.length_append, outR_len g i]; rfl

def ptR (U : Nat) (l : List Fl) : Option (AV × XH) := if checkP U l = 0 then some (.tup [rI (outR (gI (-1) l l.length) U), I 0], []) else some (.tup [.fs [], I (checkP U l)], [])
theorem w14 (U : Nat) (l : List Fl) (hn : l.length < 1000000) : runW progX 14 [plA U l] [] = ptR U l := by
  have c := w21 U l hn
  by_cases h : checkP U l = 0
  · obtain ⟨u1, u2, u3, u4⟩ := checkP_u h
    have hr := rngL_of h
    have e37 := w37 U l (-1) hn (by omega) hr
    have gc := eq_true h
    rw [ptR, if_pos h]
    have hi := esI_inv hr (wo := -1) l.length
    generalize gI (-1) l l.length = g at *
    generalize esI (-1) l l.length = es at *
    have uz : (U = 0) = False := eq_false (by omega)
    have ch := zhk (hs := outR g U)
    rw [outR_len] at ch
    have ol := outR_len g U
    have hl := hsL_len U g
    have rd : ∀ i, i < U → IntKind.i64.wrap ((i : Int) + 1) = (i : Int) + 1 ∧ ((i : Int) < (U : Int)) = True ∧ (0 ≤ (i : Int) + 1) = True ∧ ((i : Int) + 1 < ((U + 1 : Nat) : Int)) = True ∧ (hsL U g)[((i : Int) + 1).toNat]? = some (g i + 1) ∧ ((i + 1) * 8 ≤ 1099511627776) = True ∧ (i + 1 ≤ 1099511627776) = True ∧ (outR g i).length = i ∧
        (((g i + 1 = 0) = True ∧ outR g (i + 1) = outR g i ++ [-1] ∧ cntI g (i + 1) = cntI g i) ∨
         ((g i + 1 = 0) = False ∧ (g i + 1 = (i : Int) + 1) = True ∧ outR g (i + 1) = outR g i ++ [cntI g i] ∧ cntI g (i + 1) = cntI g i + 1 ∧ IntKind.i64.wrap (cntI g i + 1) = cntI g i + 1) ∨
         (i ≠ 0 ∧ (g i + 1 = 0) = False ∧ (g i + 1 = (i : Int) + 1) = False ∧ IntKind.i64.wrap (g i + 1 - 1) = g i ∧ (0 ≤ g i) = True ∧ (g i < (i : Int)) = True ∧ (outR g i)[(g i).toNat]? = some ((outR g i).getD (g i).toNat 0) ∧ outR g (i + 1) = outR g i ++ [(outR g i).getD (g i).toNat 0] ∧ cntI g (i + 1) = cntI g i)) := by
      intro i hiU
      obtain ⟨a1, a2, a3, _, _⟩ := hi i (by omega) (by omega)
      have hc := cntI_le g i
      have hlen := outR_len g i
      refine ⟨up_ix hiU (by omega), eq_true (by omega), eq_true (by omega), eq_true (by omega), hsL_get (by omega) (by omega), eq_true (by omega), eq_true (by omega), hlen, ?_⟩
      by_cases h1 : g i = -1
      · refine .inl ⟨eq_true (by omega), ?_, ?_⟩
        · rw [outR, outV, if_pos h1]
        · rw [cntI, if_neg (by omega)]
      · by_cases h2 : g i = i
        · refine .inr (.inl ⟨eq_false (by omega), eq_true (by omega), ?_, ?_, wrap_ok (by omega) (by omega)⟩)
          · rw [outR, outV, if_neg h1, if_pos h2]
          · rw [cntI, if_pos h2]
        · refine .inr (.inr ⟨by omega, eq_false (by omega), eq_false (by omega), ?_, eq_true (by omega), eq_true (by omega), ?_, ?_, ?_⟩)
          · rw [show g i + 1 - 1 = g i by omega]; exact wrap_ok (by omega) (by omega)
          · rw [List.getD_eq_getElem?_getD, List.getElem?_eq_getElem (by omega)]; rfl
          · rw [outR, outV, if_neg h1, if_neg h2]
          · rw [cntI, if_neg h2]
    have o0 : outR g 0 = [] := rfl
    have c0 : cntI g 0 = 0 := rfl
    have g0 := pad
    have g1 := pad
    have g2 := pad
    have g3 := pad
    have g4 := pad
    have g5 := pad
    have g6 := pad
    have g7 := pad
    have k0 := pad
    have k1 := pad
    have k2 := pad
    have k3 := pad
    have k4 := pad
    have k5 := pad
    have k6 := pad
    have k7 := pad
    have k8 := pad
    have z := pad
    rw [r14 (by simp)]; unfold x14; dsimp only
    sym =>
      simp [etaM, etaF, z00,z01,z03,z04,z05,z06,z07,z09,z0b,z0c,z0f,z0n,z0r,z0t,z0v,z12,z15,z1j,z1r,z1u,z1z,z20,z21,z29,z2f,z2g,z2h,z2j,z2k,z2t,z2u,z2v,z36,z3h,z3i,z3j,z4l,z4o,z4p,z4q,z4s,z4t,z4v,z54,z57,z59,z66,z69,z6a,z6b,z6d,z6e,z6g,z6p,z6t,z6w,z6z,z78,z7c,z7f,z7r,z7u,z7v,z7w,z81,z8a,z8d,z9d,z9e,z9g,z9i,z9j,z9k,z9l,z9m,z9n,z9p,z9r,z9s,z9v,z9w,z9y,za0,za1,za2,za3,za5,za6,za7,za8,za9,zaa,zab,zae,zaf,zal,zaq,zas,zat,zb4,zb5,zb9,zba,zbb,zbc,zbd,zbf,zbg,zbk,zbm,zbp,zbt,zbu,zbw,zbx,zby,zbz,zc2,zc3,zc4,zc5,zc6,zc8,zca,zcc,zcd,zce,zcf,zcg,zch,zcj,zcn,zco,zcp,zcq,zcr,zct,zcu,zcv,zcw,zcx,zcy,zd3,zd6,zd7,zdd,zdj,zdk,zdl,zdm,zdn,zdo,zds,zdt,zdu,zdv,zdw,zdx,zdy,zdz,ze0,ze1,ze2,ze3,ze9,zea,zeb,zec,zeo,zep,zeq,zer,zes,zet,zez,zf0,zf1,zf2,zf3,zf4,zf5,zf6,zf7,zf8,zf9,zfa,zfb,zfg,zfh,zfi,zfj,zfl,zfm,zfo,zfp,zfq,zfr,zfs,zft,zfu,zfv,zfw,zfy,zfz,zg0,zg1,zhb,zhd,zhe,zhf,zhg,zhk,zhp,zii, c, gc, e37, hl]
      tactic =>
        unfold x14l0
        rw [loop_rule U (fun i => [.pt 0 0, rI (hsL U g), if i = 0 then .nilsl else .sl 1 0 1 i, I (cntI g i), I (i : Nat)]) (fun i => if i = 0 then [some (.blk true (.cells true [I U, .fs (l.map Fl.row)]))] else [some (.blk true (.cells true [I U, .fs (l.map Fl.row)])), some (.blk true (.cells true ((outR g i).map I)))])]
        case' hs =>
          intro i hiU
          obtain ⟨g0, g1, g2, g3, g4, g5, g6, g7, ⟨k0, k1, k2⟩ | ⟨k0, k1, k2, k3, k4⟩ | ⟨k8, k0, k1, k2, k3, k4, k5, k6, k7⟩⟩ := rd i hiU
          rcases Nat.eq_zero_or_pos i with hz | hz
          subst hz
          have z : ((0 : Nat) = 0) = True := eq_true rfl
          have g1 : ((0 : Int) < (U : Int)) = True := g1
          have g3 : ((1 : Int) < ((U + 1 : Nat) : Int)) = True := g3
          have g4 : (hsL U g)[1]? = some (g 0 + 1) := g4
          have k0 : (g 0 + 1 = 0) = True := k0
          rotate_left
          have z : (i = 0) = False := eq_false (by omega)
          rotate_left
          rcases Nat.eq_zero_or_pos i with hz | hz
          subst hz
          have z : ((0 : Nat) = 0) = True := eq_true rfl
          have g1 : ((0 : Int) < (U : Int)) = True := g1
          have g3 : ((1 : Int) < ((U + 1 : Nat) : Int)) = True := g3
          have g4 : (hsL U g)[1]? = some (g 0 + 1) := g4
          have k0 : (g 0 + 1 = 0) = False := k0
          have k1 : (g 0 + 1 = 0 + 1) = True := k1
          have k1 : (g 0 + 1 = 1) = True := k1
          rotate_left
          have z : (i = 0) = False := eq_false (by omega)
          rotate_left
          have z := eq_false k8
          clear k8
          have k8 := pad
        all_goals (sym => (simp [etaM, etaF, z00,z01,z03,z04,z05,z06,z07,z09,z0b,z0c,z0f,z0n,z0r,z0t,z0v,z12,z15,z1j,z1r,z1u,z1z,z20,z21,z29,z2f,z2g,z2h,z2j,z2k,z2t,z2u,z2v,z36,z3h,z3i,z3j,z4l,z4o,z4p,z4q,z4s,z4t,z4v,z54,z57,z59,z66,z69,z6a,z6b,z6d,z6e,z6g,z6p,z6t,z6w,z6z,z78,z7c,z7f,z7r,z7u,z7v,z7w,z81,z8a,z8d,z9d,z9e,z9g,z9i,z9j,z9k,z9l,z9m,z9n,z9p,z9r,z9s,z9v,z9w,z9y,za0,za1,za2,za3,za5,za6,za7,za8,za9,zaa,zab,zae,zaf,zal,zaq,zas,zat,zb4,zb5,zb9,zba,zbb,zbc,zbd,zbf,zbg,zbk,zbm,zbp,zbt,zbu,zbw,zbx,zby,zbz,zc2,zc3,zc4,zc5,zc6,zc8,zca,zcc,zcd,zce,zcf,zcg,zch,zcj,zcn,zco,zcp,zcq,zcr,zct,zcu,zcv,zcw,zcx,zcy,zd3,zd6,zd7,zdd,zdj,zdk,zdl,zdm,zdn,zdo,zds,zdt,zdu,zdv,zdw,zdx,zdy,zdz,ze0,ze1,ze2,ze3,ze9,zea,zeb,zec,zeo,zep,zeq,zer,zes,zet,zez,zf0,zf1,zf2,zf3,zf4,zf5,zf6,zf7,zf8,zf9,zfa,zfb,zfg,zfh,zfi,zfj,zfl,zfm,zfo,zfp,zfq,zfr,zfs,zft,zfu,zfv,zfw,zfy,zfz,zg0,zg1,zhb,zhd,zhe,zhf,zhg,zhk,zhp,zii, uz, hl, g0, g1, g2, g3, g4, g5, g6, g7, k0, k1, k2, k3, k4, k5, k6, k7, z, o0, c0, ol, ch]; all_goals tactic => exact rfl))
  · have g := eq_false h
    rw [ptR, if_neg h]
    rw [r14 (by simp)]; unfold x14; dsimp only
    (sym => (simp [etaM, etaF, z00,z01,z03,z04,z05,z06,z07,z09,z0b,z0c,z0f,z0n,z0r,z0t,z0v,z12,z15,z1j,z1r,z1u,z1z,z20,z21,z29,z2f,z2g,z2h,z2j,z2k,z2t,z2u,z2v,z36,z3h,z3i,z3j,z4l,z4o,z4p,z4q,z4s,z4t,z4v,z54,z57,z59,z66,z69,z6a,z6b,z6d,z6e,z6g,z6p,z6t,z6w,z6z,z78,z7c,z7f,z7r,z7u,z7v,z7w,z81,z8a,z8d,z9d,z9e,z9g,z9i,z9j,z9k,z9l,z9m,z9n,z9p,z9r,z9s,z9v,z9w,z9y,za0,za1,za2,za3,za5,za6,za7,za8,za9,zaa,zab,zae,zaf,zal,zaq,zas,zat,zb4,zb5,zb9,zba,zbb,zbc,zbd,zbf,zbg,zbk,zbm,zbp,zbt,zbu,zbw,zbx,zby,zbz,zc2,zc3,zc4,zc5,zc6,zc8,zca,zcc,zcd,zce,zcf,zcg,zch,zcj,zcn,zco,zcp,zcq,zcr,zct,zcu,zcv,zcw,zcx,zcy,zd3,zd6,zd7,zdd,zdj,zdk,zdl,zdm,zdn,zdo,zds,zdt,zdu,zdv,zdw,zdx,zdy,zdz,ze0,ze1,ze2,ze3,ze9,zea,zeb,zec,zeo,zep,zeq,zer,zes,zet,zez,zf0,zf1,zf2,zf3,zf4,zf5,zf6,zf7,zf8,zf9,zfa,zfb,zfg,zfh,zfi,zfj,zfl,zfm,zfo,zfp,zfq,zfr,zfs,zft,zfu,zfv,zfw,zfy,zfz,zg0,zg1,zhb,zhd,zhe,zhf,zhg,zhk,zhp,zii, c, g]; all_goals tactic => exact rfl))
end Go.Proofs.Ytdbikamciedfdaa
namespace Go.Proofs.Ytdbikamciedfdaa
open Go Go.DL
set_option maxRecDepth 100000
set_option maxHeartbeats 1000000

theorem setA_get {os us : List Int} {c : Int} (h : ∀ u ∈ us, 0 ≤ u ∧ u < os.length) : ∀ i, i ≤ us.length → ∀ v : Nat, v < os.length → (setA os c us i)[v]? = some (if (v : Int) ∈ us.take i then c else os.getD v 0)
  | 0, _, v, hv => by simp [setA, List.getD_eq_getElem?_getD, List.getElem?_eq_getElem hv]
  | i + 1, hi, v, hv => by
    have ih := setA_get (c := c) h i (by omega) v hv
    have hl := setA_len (c := c) h i (by omega)
    have hg : us.getD i 0 = us[i] := by simp [List.getD_eq_getElem?_getD, List.getElem?_eq_getElem (show i < us.length by omega)]
    have hm : us.getD i 0 ∈ us := by rw [hg]; exact List.getElem_mem _
    have hb := h _ hm
    rw [setA, setX_set (by omega), List.getElem?_set, List.take_add_one, List.getElem?_eq_getElem (show i < us.length by omega), ← hg]
    by_cases hc : (us.getD i 0).toNat = v
    · rw [if_pos hc, if_pos (by omega)]
      have : (v : Int) = us.getD i 0 := by omega
      rw [if_pos (by rw [this]; simp)]
    · rw [if_neg hc, ih]
      have : ¬ (v : Int) = us.getD i 0 := by omega
      congr 1
      simp only [Option.toList_some, List.mem_append, List.mem_singleton, this, or_false]
def ptV (g : Int → Int) (k v : Nat) : Int := if 0 ≤ g v ∧ g v < k then cntI g (g v).toNat else -1
theorem oI_get {g : Int → Int} {U : Nat} (hg : ∀ v : Int, -1 ≤ v → v < U → -1 ≤ g v ∧ g v ≤ v ∧ g (g v) = g v) : ∀ i, i ≤ U → ∀ v : Nat, v < U → (oI g U i)[v]? = some (ptV g i v)
  | 0, _, v, hv => by
    rw [oI, List.getElem?_replicate, if_pos hv, ptV, if_neg (by omega)]
  | i + 1, hi, v, hv => by
    have ih := oI_get hg i (by omega) v hv
    obtain ⟨a1, a2, a3⟩ := hg v (by omega) (by omega)
    rw [oI]
    by_cases h : g i = i
    · rw [if_pos h, setA_get (by rw [oI_len]; exact usI_in) _ (Nat.le_refl _) v (by rw [oI_len]; exact hv), List.take_length]
      by_cases hm : (v : Int) ∈ usI g i U
      · rw [if_pos hm]
        have := ((usI_mem g i U v).1 hm).2.2
        rw [ptV, if_pos (by omega), this]
        simp
      · rw [if_neg hm]
        have hne : ¬ g v = i := fun hc => hm ((usI_mem g i U v).2 ⟨by omega, by omega, hc⟩)
        rw [List.getD_eq_getElem?_getD, ih]
        simp only [Option.getD_some, Option.some.injEq, ptV]
        by_cases hc : 0 ≤ g v ∧ g v < i
        · rw [if_pos hc, if_pos (by omega)]
        · rw [if_neg hc, if_neg (by omega)]
    · rw [if_neg h, ih]
      have hne : ¬ g v = i := fun hc => h (by rw [← hc, a3])
      simp only [Option.some.injEq, ptV]
      by_cases hc : 0 ≤ g v ∧ g v < i
      · rw [if_pos hc, if_pos (by omega)]
      · rw [if_neg hc, if_neg (by omega)]
theorem outR_get {g : Int → Int} {U : Nat} (hg : ∀ v : Int, -1 ≤ v → v < U → -1 ≤ g v ∧ g v ≤ v ∧ g (g v) = g v) : ∀ i, i ≤ U → ∀ v : Nat, v < i → (outR g i)[v]? = some (ptV g U v)
  | 0, _, v, hv => by omega
  | i + 1, hi, v, hv => by
    have hl := outR_len g i
    rw [outR]
    by_cases h : v < i
    · rw [List.getElem?_append_left (by omega)]
      exact outR_get hg i (by omega) v h
    · have hvi : v = i := by omega
      subst hvi
      obtain ⟨a1, a2, a3⟩ := hg v (by omega) (by omega)
      rw [List.getElem?_append_right (by omega), hl, Nat.sub_self]
      simp only [List.getElem?_cons_zero, Option.some.injEq, outV]
      by_cases h1 : g v = -1
      · rw [if_pos h1, ptV, if_neg (by omega)]
      · rw [if_neg h1]
        by_cases h2 : g v = v
        · rw [if_pos h2, ptV, if_pos (by omega), h2]; simp
        · rw [if_neg h2, List.getD_eq_getElem?_getD, outR_get hg v (by omega) (g v).toNat (by omega)]
          simp only [Option.getD_some, ptV]
          rw [show (((g v).toNat : Nat) : Int) = g v by omega, a3]
theorem parts_eq {g : Int → Int} {U : Nat} (hg : ∀ v : Int, -1 ≤ v → v < U → -1 ≤ g v ∧ g v ≤ v ∧ g (g v) = g v) : oI g U U = outR g U := by
  apply List.ext_getElem?
  intro v
  by_cases hv : v < U
  · rw [oI_get hg U (Nat.le_refl _) v hv, outR_get hg U (Nat.le_refl _) v hv]
  · rw [List.getElem?_eq_none (by rw [oI_len]; omega), List.getElem?_eq_none (by rw [outR_len]; omega)]

theorem gI_ok {U : Nat} {l : List Fl} (h : checkP U l = 0) (wo : Int) (i : Nat) : ∀ v : Int, -1 ≤ v → v < U → -1 ≤ gI wo l i v ∧ gI wo l i v ≤ v ∧ gI wo l i (gI wo l i v) = gI wo l i v := by
  intro v h1 h2
  obtain ⟨a1, a2, a3, _, _⟩ := esI_inv (rngL_of h) (wo := wo) i v h1 h2
  exact ⟨a1, a2, a3⟩
theorem pt_same (U : Nat) (l : List Fl) : ptE U l = ptR U l := by
  unfold ptE ptR
  by_cases h : checkP U l = 0
  · rw [if_pos h, if_pos h, parts_eq (gI_ok h _ _)]
  · rw [if_neg h, if_neg h]

/-! ### Whatever the number of units -/
def ptI (U : Int) (l : List Fl) : Option (AV × XH) := if checkP U l = 0 then some (.tup [rI (outR (gI (-1) l l.length) U.toNat), I 0], []) else some (.tup [.fs [], I (checkP U l)], [])
theorem nat_or (U : Int) : (∃ n : Nat, U = n) ∨ U < 0 := by
  rcases Int.lt_or_le U 0 with h | h
  · exact .inr h
  · exact .inl ⟨U.toNat, by omega⟩
theorem neg_check {U : Int} (h : U < 0) (l : List Fl) : ¬ checkP U l = 0 := fun hc => by have := checkP_u hc; omega
theorem w13i (U : Int) (l : List Fl) (hn : l.length < 1000000) : runW progX 13 [plA U l] [] = ptI U l := by
  rcases nat_or U with ⟨n, rfl⟩ | h
  · rw [w13 n l hn, pt_same]; rfl
  · have c := w20 U l hn
    have h := neg_check h l
    have g := eq_false h
    rw [ptI, if_neg h]
    rw [r13 (by simp)]; unfold x13; dsimp only
    (sym => (simp [etaM, etaF, z00,z01,z05,z06,z07,z09,z0b,z0c,z0f,z0n,z0r,z0v,z1j,z1r,z1u,z20,z21,z2u,z4l,z4o,z4p,z4q,z54,z57,z59,z66,z69,z6a,z6b,z6p,z6t,z6z,z7r,z7u,z7v,z7w,z81,z8d,z9d,z9e,z9g,z9j,z9k,z9l,z9m,z9n,z9y,za2,za3,za5,za6,za7,za8,zaa,zab,zaq,zas,zat,zba,zbc,zbd,zbf,zbg,zbk,zbt,zbu,zbw,zbx,zby,zbz,zc2,zc3,zc4,zc5,zc6,zc8,zce,zcf,zcj,zcn,zco,zcq,zcr,zct,zcu,zcv,zd3,zd7,zdl,zdo,zds,zdt,zdu,zdv,zdw,zdx,zdy,zdz,ze2,ze3,zeo,zep,zf6,zf7,zfa,zfg,zfm,zfo,zfp,zft,zfv,zg0,zg1, c, g]; all_goals tactic => exact rfl))
theorem w14i (U : Int) (l : List Fl) (hn : l.length < 1000000) : runW progX 14 [plA U l] [] = ptI U l := by
  rcases nat_or U with ⟨n, rfl⟩ | h
  · rw [w14 n l hn]; rfl
  · have c := w21 U l hn
    have h := neg_check h l
    have g := eq_false h
    rw [ptI, if_neg h]
    rw [r14 (by simp)]; unfold x14; dsimp only
    (sym => (simp [etaM, etaF, z00,z01,z05,z06,z07,z09,z0b,z0c,z0f,z0n,z0r,z0v,z1j,z1r,z1u,z20,z21,z2u,z4l,z4o,z4p,z4q,z54,z57,z59,z66,z69,z6a,z6b,z6p,z6t,z6z,z7r,z7u,z7v,z7w,z81,z8d,z9d,z9e,z9g,z9j,z9k,z9l,z9m,z9n,z9y,za2,za3,za5,za6,za7,za8,zaa,zab,zaq,zas,zat,zba,zbc,zbd,zbf,zbg,zbk,zbt,zbu,zbw,zbx,zby,zbz,zc2,zc3,zc4,zc5,zc6,zc8,zce,zcf,zcj,zcn,zco,zcq,zcr,zct,zcu,zcv,zd3,zd7,zdl,zdo,zds,zdt,zdu,zdv,zdw,zdx,zdy,zdz,ze2,ze3,zeo,zep,zf6,zf7,zfa,zfg,zfm,zfo,zfp,zft,zfv,zg0,zg1, c, g]; all_goals tactic => exact rfl))
theorem chE_u {U : Int} {l : List Fl} {us : List Int} (h : chE U l us = 0) : checkP U l = 0 := by
  unfold chE at h
  by_cases hc : checkP U l = 0
  · exact hc
  · rw [if_neg hc] at h; exact h
theorem neg_che {U : Int} (h : U < 0) (l : List Fl) (us : List Int) : chE U l us = checkP U l := if_neg (neg_check h l)
theorem w40i (U : Int) (l : List Fl) (us : List Int) (hn : l.length < 1000000) (h : U < 0) : runW progX 40 [plA U l, rI us] [] = some (.tup [.fs [], I (checkP U l)], []) := by
  have c := w21 U l hn
  have g := eq_false (neg_check h l)
  rw [r40 (by simp)]; unfold x40; dsimp only
  (sym => (simp [etaM, etaF, z00,z01,z05,z06,z07,z09,z0b,z0c,z0f,z0n,z0r,z0v,z1j,z1r,z1u,z20,z21,z2u,z4l,z4o,z4p,z4q,z54,z57,z59,z66,z69,z6a,z6b,z6p,z6t,z6z,z7r,z7u,z7v,z7w,z81,z8d,z9d,z9e,z9g,z9j,z9k,z9l,z9m,z9n,z9y,za2,za3,za5,za6,za7,za8,zaa,zab,zaq,zas,zat,zba,zbc,zbd,zbf,zbg,zbk,zbt,zbu,zbw,zbx,zby,zbz,zc2,zc3,zc4,zc5,zc6,zc8,zce,zcf,zcj,zcn,zco,zcq,zcr,zct,zcu,zcv,zd3,zd7,zdl,zdo,zds,zdt,zdu,zdv,zdw,zdx,zdy,zdz,ze2,ze3,zeo,zep,zf6,zf7,zfa,zfg,zfm,zfo,zfp,zft,zfv,zg0,zg1, c, g]; all_goals tactic => exact rfl))
theorem w17i (U : Int) (l : List Fl) (us : List Int) (hn : l.length < 1000000) (hu : us.length < 1000000) : runW progX 17 [plA U l, rI us] [] = exR U l us := by
  rcases nat_or U with ⟨n, rfl⟩ | h
  · exact w17 n l us hn hu fun h => ⟨rngL_of (chE_u h), by have := checkP_u (chE_u h); omega⟩
  · have c := w40i U l us hn h
    have hh := neg_check h l
    have g := eq_false hh
    rw [exR, neg_che h, if_neg hh]
    rw [r17 (by simp)]; unfold x17; dsimp only
    (sym => (simp [etaM, etaF, z00,z01,z02,z05,z06,z07,z09,z0b,z0c,z0f,z0n,z0o,z0r,z0s,z0v,z1e,z1j,z1n,z1o,z1r,z1u,z20,z21,z2i,z2u,z4f,z4l,z4o,z4p,z4q,z54,z57,z59,z66,z69,z6a,z6b,z6p,z6s,z6t,z6u,z7r,z7u,z7v,z7w,z8d,z9d,z9e,z9g,z9i,z9j,z9k,z9l,z9m,z9n,z9p,z9y,za2,za3,za5,za6,za7,za8,zaa,zab,zaq,zas,zat,zba,zbc,zbd,zbe,zbf,zbg,zbk,zbt,zbu,zbw,zbx,zby,zbz,zc2,zc3,zc4,zc5,zc6,zc7,zc8,zce,zcf,zcj,zcn,zco,zcp,zcq,zcr,zct,zcu,zcv,zd3,zd7,zdd,zdl,zdo,zds,zdt,zdu,zdv,zdw,zdx,zdy,zdz,ze2,ze3,ze9,zea,zeo,zep,zf6,zf7,zfa,zfc,zfd,zfg,zfm,zfo,zfp,zft,zfv,zg0,zg1, c, g]; all_goals tactic => exact rfl))

theorem f_bbs {b : Bool} : (b == b) = true := by simp
theorem w3 (s : ByteArray) (U : Int) (l : List Fl) (us : List Int) : runW progX 3 [.str s, plA U l, rI us] [] = some (.bool true, []) := by
  by_cases h1 : 100 < s.size
  · have g1 : ((100 : Int) < (s.size : Int)) = True := eq_true (by omega)
    rw [r3 (by simp)]; unfold x3; dsimp only
    (sym => (simp [etaM, etaF, z00,z01,z02,z04,z05,z06,z07,z09,z0a,z0b,z0c,z0f,z0h,z0i,z0j,z0l,z0n,z0o,z0q,z0r,z0v,z0w,z0x,z12,z1e,z1f,z1j,z1k,z1m,z1n,z1o,z1p,z1r,z1u,z1v,z1w,z20,z21,z22,z23,z24,z29,z2b,z2e,z2i,z2t,z2x,z44,z46,z4l,z4m,z4n,z4o,z4q,z54,z57,z59,z66,z67,z68,z69,z6a,z6b,z6q,z6r,z6u,z7r,z7s,z7t,z7u,z7w,z8d,z9d,z9e,z9g,z9i,z9j,z9k,z9l,z9m,z9n,z9p,z9y,za2,za3,za5,za6,za7,za8,zaa,zab,zaq,zas,zat,zav,zaw,zax,zaz,zba,zbc,zbd,zbe,zbf,zbg,zbk,zbt,zbu,zbw,zbx,zby,zbz,zc0,zc3,zc4,zc5,zc6,zc8,zce,zcf,zcg,zcj,zcn,zco,zcp,zcq,zcr,zct,zcu,zcv,zcw,zd3,zd7,zd8,zd9,zdd,zdk,zdl,zdm,zdn,zdo,zds,zdt,zdu,zdv,zdw,zdx,ze2,ze3,ze9,zed,zeg,zeh,zei,zeo,zep,zf6,zf7,zfa,zfb,zfc,zfd,zfg,zfm,zfo,zfp,zfq,zft,zfv,zg0,zg1, g1, works_w]; all_goals tactic => exact rfl))
  have g1 : ((100 : Int) < (s.size : Int)) = False := eq_false (by omega)
  by_cases h2 : 40 < l.length
  · have g2 : ((40 : Int) < (l.length : Int)) = True := eq_true (by omega)
    rw [r3 (by simp)]; unfold x3; dsimp only
    (sym => (simp [etaM, etaF, z00,z01,z02,z04,z05,z06,z07,z09,z0a,z0b,z0c,z0f,z0h,z0i,z0j,z0l,z0n,z0o,z0q,z0r,z0v,z0w,z0x,z12,z1e,z1f,z1j,z1k,z1m,z1n,z1o,z1p,z1r,z1u,z1v,z1w,z20,z21,z22,z23,z24,z29,z2b,z2e,z2i,z2t,z2x,z44,z46,z4l,z4m,z4n,z4o,z4q,z54,z57,z59,z66,z67,z68,z69,z6a,z6b,z6q,z6r,z6u,z7r,z7s,z7t,z7u,z7w,z8d,z9d,z9e,z9g,z9i,z9j,z9k,z9l,z9m,z9n,z9p,z9y,za2,za3,za5,za6,za7,za8,zaa,zab,zaq,zas,zat,zav,zaw,zax,zaz,zba,zbc,zbd,zbe,zbf,zbg,zbk,zbt,zbu,zbw,zbx,zby,zbz,zc0,zc3,zc4,zc5,zc6,zc8,zce,zcf,zcg,zcj,zcn,zco,zcp,zcq,zcr,zct,zcu,zcv,zcw,zd3,zd7,zd8,zd9,zdd,zdk,zdl,zdm,zdn,zdo,zds,zdt,zdu,zdv,zdw,zdx,ze2,ze3,ze9,zed,zeg,zeh,zei,zeo,zep,zf6,zf7,zfa,zfb,zfc,zfd,zfg,zfm,zfo,zfp,zfq,zft,zfv,zg0,zg1, g1, g2, works_w]; all_goals tactic => exact rfl))
  have g2 : ((40 : Int) < (l.length : Int)) = False := eq_false (by omega)
  by_cases h3 : 40 < us.length
  · have g3 : ((40 : Int) < (us.length : Int)) = True := eq_true (by omega)
    rw [r3 (by simp)]; unfold x3; dsimp only
    (sym => (simp [etaM, etaF, z00,z01,z02,z04,z05,z06,z07,z09,z0a,z0b,z0c,z0f,z0h,z0i,z0j,z0l,z0n,z0o,z0q,z0r,z0v,z0w,z0x,z12,z1e,z1f,z1j,z1k,z1m,z1n,z1o,z1p,z1r,z1u,z1v,z1w,z20,z21,z22,z23,z24,z29,z2b,z2e,z2i,z2t,z2x,z44,z46,z4l,z4m,z4n,z4o,z4q,z54,z57,z59,z66,z67,z68,z69,z6a,z6b,z6q,z6r,z6u,z7r,z7s,z7t,z7u,z7w,z8d,z9d,z9e,z9g,z9i,z9j,z9k,z9l,z9m,z9n,z9p,z9y,za2,za3,za5,za6,za7,za8,zaa,zab,zaq,zas,zat,zav,zaw,zax,zaz,zba,zbc,zbd,zbe,zbf,zbg,zbk,zbt,zbu,zbw,zbx,zby,zbz,zc0,zc3,zc4,zc5,zc6,zc8,zce,zcf,zcg,zcj,zcn,zco,zcp,zcq,zcr,zct,zcu,zcv,zcw,zd3,zd7,zd8,zd9,zdd,zdk,zdl,zdm,zdn,zdo,zds,zdt,zdu,zdv,zdw,zdx,ze2,ze3,ze9,zed,zeg,zeh,zei,zeo,zep,zf6,zf7,zfa,zfb,zfc,zfd,zfg,zfm,zfo,zfp,zfq,zft,zfv,zg0,zg1, g1, g2, g3, works_w]; all_goals tactic => exact rfl))
  have g3 : ((40 : Int) < (us.length : Int)) = False := eq_false (by omega)
  have c13 := w13i U l (by omega)
  have c14 := w14i U l (by omega)
  have c15 := w15 U l (by omega)
  have c16 := w16 U l us (by omega) (by omega)
  have c17 := w17i U l us (by omega) (by omega)
  have c18 := w18 s (by omega)
  have c19 := w19 s (by omega)
  have c20 := w20 U l (by omega)
  have c21 := w21 U l (by omega)
  have n0 : runW progX 22 [.fs [], .fs []] [] = some (.bool true, []) := w22 [] [] (by simp) (by simp)
  have hk : checkP U l = 0 → (outR (gI (-1) l l.length) U.toNat).length < 1000000 := fun h => by rw [outR_len]; have := checkP_u h; omega
  unfold ptI at c13 c14
  unfold exR at c16 c17
  by_cases h4 : checkP U l = 0
  · rw [if_pos h4] at c13 c14
    have n1 := w22 _ _ (hk h4) (hk h4)
    rw [decide_eq_true rfl] at n1
    by_cases h5 : chE U l us = 0
    · rw [if_pos h5] at c16 c17
      rw [r3 (by simp)]; unfold x3; dsimp only
      (sym => (simp [etaM, etaF, z00,z01,z02,z04,z05,z06,z07,z09,z0a,z0b,z0c,z0f,z0h,z0i,z0j,z0l,z0n,z0o,z0q,z0r,z0v,z0w,z0x,z12,z1e,z1f,z1j,z1k,z1m,z1n,z1o,z1p,z1r,z1u,z1v,z1w,z20,z21,z22,z23,z24,z29,z2b,z2e,z2i,z2t,z2x,z44,z46,z4l,z4m,z4n,z4o,z4q,z54,z57,z59,z66,z67,z68,z69,z6a,z6b,z6q,z6r,z6u,z7r,z7s,z7t,z7u,z7w,z8d,z9d,z9e,z9g,z9i,z9j,z9k,z9l,z9m,z9n,z9p,z9y,za2,za3,za5,za6,za7,za8,zaa,zab,zaq,zas,zat,zav,zaw,zax,zaz,zba,zbc,zbd,zbe,zbf,zbg,zbk,zbt,zbu,zbw,zbx,zby,zbz,zc0,zc3,zc4,zc5,zc6,zc8,zce,zcf,zcg,zcj,zcn,zco,zcp,zcq,zcr,zct,zcu,zcv,zcw,zd3,zd7,zd8,zd9,zdd,zdk,zdl,zdm,zdn,zdo,zds,zdt,zdu,zdv,zdw,zdx,ze2,ze3,ze9,zed,zeg,zeh,zei,zeo,zep,zf6,zf7,zfa,zfb,zfc,zfd,zfg,zfm,zfo,zfp,zfq,zft,zfv,zg0,zg1, g1, g2, g3, works_w, c13, c14, c15, c16, c17, c18, c19, c20, c21, n1, n0, f_bbs]; all_goals tactic => exact rfl))
    · rw [if_neg h5] at c16 c17
      rw [r3 (by simp)]; unfold x3; dsimp only
      (sym => (simp [etaM, etaF, z00,z01,z02,z04,z05,z06,z07,z09,z0a,z0b,z0c,z0f,z0h,z0i,z0j,z0l,z0n,z0o,z0q,z0r,z0v,z0w,z0x,z12,z1e,z1f,z1j,z1k,z1m,z1n,z1o,z1p,z1r,z1u,z1v,z1w,z20,z21,z22,z23,z24,z29,z2b,z2e,z2i,z2t,z2x,z44,z46,z4l,z4m,z4n,z4o,z4q,z54,z57,z59,z66,z67,z68,z69,z6a,z6b,z6q,z6r,z6u,z7r,z7s,z7t,z7u,z7w,z8d,z9d,z9e,z9g,z9i,z9j,z9k,z9l,z9m,z9n,z9p,z9y,za2,za3,za5,za6,za7,za8,zaa,zab,zaq,zas,zat,zav,zaw,zax,zaz,zba,zbc,zbd,zbe,zbf,zbg,zbk,zbt,zbu,zbw,zbx,zby,zbz,zc0,zc3,zc4,zc5,zc6,zc8,zce,zcf,zcg,zcj,zcn,zco,zcp,zcq,zcr,zct,zcu,zcv,zcw,zd3,zd7,zd8,zd9,zdd,zdk,zdl,zdm,zdn,zdo,zds,zdt,zdu,zdv,zdw,zdx,ze2,ze3,ze9,zed,zeg,zeh,zei,zeo,zep,zf6,zf7,zfa,zfb,zfc,zfd,zfg,zfm,zfo,zfp,zfq,zft,zfv,zg0,zg1, g1, g2, g3, works_w, c13, c14, c15, c16, c17, c18, c19, c20, c21, n1, n0, f_bbs]; all_goals tactic => exact rfl))
  · rw [if_neg h4] at c13 c14
    have h5 : ¬ chE U l us = 0 := fun h => h4 (chE_u h)
    rw [if_neg h5] at c16 c17
    rw [r3 (by simp)]; unfold x3; dsimp only
    (sym => (simp [etaM, etaF, z00,z01,z02,z04,z05,z06,z07,z09,z0a,z0b,z0c,z0f,z0h,z0i,z0j,z0l,z0n,z0o,z0q,z0r,z0v,z0w,z0x,z12,z1e,z1f,z1j,z1k,z1m,z1n,z1o,z1p,z1r,z1u,z1v,z1w,z20,z21,z22,z23,z24,z29,z2b,z2e,z2i,z2t,z2x,z44,z46,z4l,z4m,z4n,z4o,z4q,z54,z57,z59,z66,z67,z68,z69,z6a,z6b,z6q,z6r,z6u,z7r,z7s,z7t,z7u,z7w,z8d,z9d,z9e,z9g,z9i,z9j,z9k,z9l,z9m,z9n,z9p,z9y,za2,za3,za5,za6,za7,za8,zaa,zab,zaq,zas,zat,zav,zaw,zax,zaz,zba,zbc,zbd,zbe,zbf,zbg,zbk,zbt,zbu,zbw,zbx,zby,zbz,zc0,zc3,zc4,zc5,zc6,zc8,zce,zcf,zcg,zcj,zcn,zco,zcp,zcq,zcr,zct,zcu,zcv,zcw,zd3,zd7,zd8,zd9,zdd,zdk,zdl,zdm,zdn,zdo,zds,zdt,zdu,zdv,zdw,zdx,ze2,ze3,ze9,zed,zeg,zeh,zei,zeo,zep,zf6,zf7,zfa,zfb,zfc,zfd,zfg,zfm,zfo,zfp,zfq,zft,zfv,zg0,zg1, g1, g2, g3, works_w, c13, c14, c15, c16, c17, c18, c19, c20, c21, n0, f_bbs]; all_goals tactic => exact rfl))
end Go.Proofs.Ytdbikamciedfdaa
