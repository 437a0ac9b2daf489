/- The table of the functions. No statement of the seed is proved here. -/
import Derived.Test.YtdbikamciedfdaaG0
import Derived.Test.YtdbikamciedfdaaG1
import Derived.Test.YtdbikamciedfdaaG2
import Derived.Test.YtdbikamciedfdaaG3
namespace Go.Proofs.Ytdbikamciedfdaa
open Go Go.DL Go.Proofs.Try

def progX : Nat → Option XFn
  | 3 => some x3
  | 4 => some x4
  | 5 => some x5
  | 6 => some x6
  | 7 => some x7
  | 8 => some x8
  | 9 => some x9
  | 10 => some x10
  | 11 => some x11
  | 12 => some x12
  | 13 => some x13
  | 14 => some x14
  | 15 => some x15
  | 16 => some x16
  | 17 => some x17
  | 18 => some x18
  | 19 => some x19
  | 20 => some x20
  | 21 => some x21
  | 22 => some x22
  | 23 => some x23
  | 24 => some x24
  | 25 => some x25
  | 26 => some x26
  | 27 => some x27
  | 28 => some x28
  | 29 => some x29
  | 30 => some x30
  | 31 => some x31
  | 32 => some x32
  | 33 => some x33
  | 34 => some x34
  | 35 => some x35
  | 36 => some x36
  | 37 => some x37
  | 38 => some x38
  | 39 => some x39
  | 40 => some x40
  | 41 => some x41
  | 42 => some x42
  | 43 => some x43
  | 44 => some x44
  | 45 => some x45
  | 46 => some x46
  | 47 => some x47
  | 48 => some x48
  | 49 => some x49
  | 50 => some x50
  | 51 => some x51
  | 52 => some x52
  | 53 => some x53
  | 54 => some x54
  | 55 => some x55
  | 56 => some x56
  | 57 => some x57
  | 58 => some x58
  | 59 => some x59
  | 60 => some x60
  | 61 => some x61
  | 62 => some x62
  | 63 => some x63
  | 64 => some x64
  | 65 => some x65
  | 66 => some x66
  | 67 => some x67
  | 68 => some x68
  | 69 => some x69
  | 70 => some x70
  | 71 => some x71
  | 72 => some x72
  | 73 => some x73
  | 74 => some x74
  | 75 => some x75
  | 76 => some x76
  | 77 => some x77
  | 78 => some x78
  | 79 => some x79
  | 80 => some x80
  | _ => none
theorem progX_ok : XOk prog progX := by
  refine ⟨rfl, fun k d h => ?_, fun k d h => ?_, fun k d h => ?_⟩
  · unfold progX at h
    split at h <;> first | (cases h; done) | (simp only [Option.some.injEq] at h; subst h; first | exact is3 | exact is4 | exact is5 | exact is6 | exact is7 | exact is8 | exact is9 | exact is10 | exact is11 | exact is12 | exact is13 | exact is14 | exact is15 | exact is16 | exact is17 | exact is18 | exact is19 | exact is20 | exact is21 | exact is22 | exact is23 | exact is24 | exact is25 | exact is26 | exact is27 | exact is28 | exact is29 | exact is30 | exact is31 | exact is32 | exact is33 | exact is34 | exact is35 | exact is36 | exact is37 | exact is38 | exact is39 | exact is40 | exact is41 | exact is42 | exact is43 | exact is44 | exact is45 | exact is46 | exact is47 | exact is48 | exact is49 | exact is50 | exact is51 | exact is52 | exact is53 | exact is54 | exact is55 | exact is56 | exact is57 | exact is58 | exact is59 | exact is60 | exact is61 | exact is62 | exact is63 | exact is64 | exact is65 | exact is66 | exact is67 | exact is68 | exact is69 | exact is70 | exact is71 | exact is72 | exact is73 | exact is74 | exact is75 | exact is76 | exact is77 | exact is78 | exact is79 | exact is80)
  · unfold progX at h
    split at h <;> first | (cases h; done) | (simp only [Option.some.injEq] at h; subst h; first | exact ok3 | exact ok4 | exact ok5 | exact ok6 | exact ok7 | exact ok8 | exact ok9 | exact ok10 | exact ok11 | exact ok12 | exact ok13 | exact ok14 | exact ok15 | exact ok16 | exact ok17 | exact ok18 | exact ok19 | exact ok20 | exact ok21 | exact ok22 | exact ok23 | exact ok24 | exact ok25 | exact ok26 | exact ok27 | exact ok28 | exact ok29 | exact ok30 | exact ok31 | exact ok32 | exact ok33 | exact ok34 | exact ok35 | exact ok36 | exact ok37 | exact ok38 | exact ok39 | exact ok40 | exact ok41 | exact ok42 | exact ok43 | exact ok44 | exact ok45 | exact ok46 | exact ok47 | exact ok48 | exact ok49 | exact ok50 | exact ok51 | exact ok52 | exact ok53 | exact ok54 | exact ok55 | exact ok56 | exact ok57 | exact ok58 | exact ok59 | exact ok60 | exact ok61 | exact ok62 | exact ok63 | exact ok64 | exact ok65 | exact ok66 | exact ok67 | exact ok68 | exact ok69 | exact ok70 | exact ok71 | exact ok72 | exact ok73 | exact ok74 | exact ok75 | exact ok76 | exact ok77 | exact ok78 | exact ok79 | exact ok80)
  · unfold progX at h
    split at h <;> first | (cases h; done) | (simp only [Option.some.injEq] at h; subst h; first | exact st3 | exact st4 | exact st5 | exact st6 | exact st7 | exact st8 | exact st9 | exact st10 | exact st11 | exact st12 | exact st13 | exact st14 | exact st15 | exact st16 | exact st17 | exact st18 | exact st19 | exact st20 | exact st21 | exact st22 | exact st23 | exact st24 | exact st25 | exact st26 | exact st27 | exact st28 | exact st29 | exact st30 | exact st31 | exact st32 | exact st33 | exact st34 | exact st35 | exact st36 | exact st37 | exact st38 | exact st39 | exact st40 | exact st41 | exact st42 | exact st43 | exact st44 | exact st45 | exact st46 | exact st47 | exact st48 | exact st49 | exact st50 | exact st51 | exact st52 | exact st53 | exact st54 | exact st55 | exact st56 | exact st57 | exact st58 | exact st59 | exact st60 | exact st61 | exact st62 | exact st63 | exact st64 | exact st65 | exact st66 | exact st67 | exact st68 | exact st69 | exact st70 | exact st71 | exact st72 | exact st73 | exact st74 | exact st75 | exact st76 | exact st77 | exact st78 | exact st79 | exact st80)

end Go.Proofs.Ytdbikamciedfdaa
