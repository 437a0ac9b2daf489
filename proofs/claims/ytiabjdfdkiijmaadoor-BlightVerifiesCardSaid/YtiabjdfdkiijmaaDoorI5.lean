/- Parts of a proof, joined: GT E0 K1 K2 K3 K4 K5 K6 K7 K8 K9 K10 K11 K12 K13 K14 K15 K16 K17 K18 K19 K20 K21 K22 K23 K24 K25 K26 K27 K28 K29 K30 K31 K32 K33 K34 K35 K36 K37 K38 K39 K40 K41 K42 K43 K44. No statement of the seed is proved here. -/
import Derived.KernelRfl
import Derived.Test.YtiabjdfdkiijmaaDoorI4
set_option linter.unusedSimpArgs false
set_option linter.unusedVariables false
set_option linter.unusedSectionVars false
namespace Go.Proofs.YtiabjdfdkiijmaaDoor
open Go Go.DL Go.Proofs.Tryd

def aA:Nat→Option XFn
 | 6=>some x6
 | 15=>some x15
 | 16=>some x16
 | 17=>some x17
 | 18=>some x18
 | 20=>some x20
 | 22=>some x22
 | 23=>some x23
 | 24=>some x24
 | 25=>some x25
 | 27=>some x27
 | 29=>some x29
 | 31=>some x31
 | 33=>some x33
 | 34=>some x34
 | 35=>some x35
 | 44=>some x44
 | 45=>some x45
 | 46=>some x46
 | 47=>some x47
 | 50=>some x50
 | 51=>some x51
 | 52=>some x52
 | 53=>some x53
 | 54=>some x54
 | 56=>some x56
 | 57=>some x57
 | 59=>some x59
 | 60=>some x60
 | 61=>some x61
 | 62=>some x62
 | 63=>some x63
 | 65=>some x65
 | 66=>some x66
 | 67=>some x67
 | 68=>some x68
 | 69=>some x69
 | 70=>some x70
 | 71=>some x71
 | 72=>some x72
 | 74=>some x74
 | 75=>some x75
 | 76=>some x76
 | 77=>some x77
 | 78=>some x78
 | 79=>some x79
 | 80=>some x80
 | 81=>some x81
 | 82=>some x82
 | 83=>some x83
 | 84=>some x84
 | 85=>some x85
 | 86=>some x86
 | 87=>some x87
 | 88=>some x88
 | 89=>some x89
 | 90=>some x90
 | 91=>some x91
 | _=>none
theorem aFs:XOk prog aA:=by
 refine⟨rfl,fun k d h=>?_,fun k d h=>?_,fun k d h=>?_⟩
 ·unfold aA at h
  split at h
  ·simp only[oSI]at h;subst h;exact is6
  ·simp only[oSI]at h;subst h;exact aOL
  ·simp only[oSI]at h;subst h;exact aOK
  ·simp only[oSI]at h;subst h;exact aOJ
  ·simp only[oSI]at h;subst h;exact aOI
  ·simp only[oSI]at h;subst h;exact aOH
  ·simp only[oSI]at h;subst h;exact aOG
  ·simp only[oSI]at h;subst h;exact aOF
  ·simp only[oSI]at h;subst h;exact aOE
  ·simp only[oSI]at h;subst h;exact aOD
  ·simp only[oSI]at h;subst h;exact aOC
  ·simp only[oSI]at h;subst h;exact aOB
  ·simp only[oSI]at h;subst h;exact aOA
  ·simp only[oSI]at h;subst h;exact aOz
  ·simp only[oSI]at h;subst h;exact aOy
  ·simp only[oSI]at h;subst h;exact aOx
  ·simp only[oSI]at h;subst h;exact aOw
  ·simp only[oSI]at h;subst h;exact aOv
  ·simp only[oSI]at h;subst h;exact aOu
  ·simp only[oSI]at h;subst h;exact aOt
  ·simp only[oSI]at h;subst h;exact aOs
  ·simp only[oSI]at h;subst h;exact aOr
  ·simp only[oSI]at h;subst h;exact aOq
  ·simp only[oSI]at h;subst h;exact aOp
  ·simp only[oSI]at h;subst h;exact aOo
  ·simp only[oSI]at h;subst h;exact aOn
  ·simp only[oSI]at h;subst h;exact aOm
  ·simp only[oSI]at h;subst h;exact aOl
  ·simp only[oSI]at h;subst h;exact aOk
  ·simp only[oSI]at h;subst h;exact aOj
  ·simp only[oSI]at h;subst h;exact aOi
  ·simp only[oSI]at h;subst h;exact aOh
  ·simp only[oSI]at h;subst h;exact aOg
  ·simp only[oSI]at h;subst h;exact aOf
  ·simp only[oSI]at h;subst h;exact aOe
  ·simp only[oSI]at h;subst h;exact aOd
  ·simp only[oSI]at h;subst h;exact aOc
  ·simp only[oSI]at h;subst h;exact aOb
  ·simp only[oSI]at h;subst h;exact aOa
  ·simp only[oSI]at h;subst h;exact aNZ
  ·simp only[oSI]at h;subst h;exact aNY
  ·simp only[oSI]at h;subst h;exact aNX
  ·simp only[oSI]at h;subst h;exact aNW
  ·simp only[oSI]at h;subst h;exact aNV
  ·simp only[oSI]at h;subst h;exact aNU
  ·simp only[oSI]at h;subst h;exact aNT
  ·simp only[oSI]at h;subst h;exact aNS
  ·simp only[oSI]at h;subst h;exact aNR
  ·simp only[oSI]at h;subst h;exact aNQ
  ·simp only[oSI]at h;subst h;exact aNP
  ·simp only[oSI]at h;subst h;exact aNO
  ·simp only[oSI]at h;subst h;exact aNN
  ·simp only[oSI]at h;subst h;exact aNM
  ·simp only[oSI]at h;subst h;exact aNL
  ·simp only[oSI]at h;subst h;exact aNK
  ·simp only[oSI]at h;subst h;exact aNJ
  ·simp only[oSI]at h;subst h;exact aNI
  ·simp only[oSI]at h;subst h;exact aNH
  ·cases h
 ·unfold aA at h
  split at h
  ·simp only[oSI]at h;subst h;exact ok6
  ·simp only[oSI]at h;subst h;exact aNF
  ·simp only[oSI]at h;subst h;exact aNE
  ·simp only[oSI]at h;subst h;exact aND
  ·simp only[oSI]at h;subst h;exact aNC
  ·simp only[oSI]at h;subst h;exact aNB
  ·simp only[oSI]at h;subst h;exact aNA
  ·simp only[oSI]at h;subst h;exact aNz
  ·simp only[oSI]at h;subst h;exact aNy
  ·simp only[oSI]at h;subst h;exact aNx
  ·simp only[oSI]at h;subst h;exact aNw
  ·simp only[oSI]at h;subst h;exact aNv
  ·simp only[oSI]at h;subst h;exact aNu
  ·simp only[oSI]at h;subst h;exact aNt
  ·simp only[oSI]at h;subst h;exact aNs
  ·simp only[oSI]at h;subst h;exact aNr
  ·simp only[oSI]at h;subst h;exact aNq
  ·simp only[oSI]at h;subst h;exact aNp
  ·simp only[oSI]at h;subst h;exact aNo
  ·simp only[oSI]at h;subst h;exact aNn
  ·simp only[oSI]at h;subst h;exact aNm
  ·simp only[oSI]at h;subst h;exact aNl
  ·simp only[oSI]at h;subst h;exact aNk
  ·simp only[oSI]at h;subst h;exact aNj
  ·simp only[oSI]at h;subst h;exact aNi
  ·simp only[oSI]at h;subst h;exact aNh
  ·simp only[oSI]at h;subst h;exact aNg
  ·simp only[oSI]at h;subst h;exact aNf
  ·simp only[oSI]at h;subst h;exact aNe
  ·simp only[oSI]at h;subst h;exact aNd
  ·simp only[oSI]at h;subst h;exact aNc
  ·simp only[oSI]at h;subst h;exact aNb
  ·simp only[oSI]at h;subst h;exact aNa
  ·simp only[oSI]at h;subst h;exact aMZ
  ·simp only[oSI]at h;subst h;exact aMY
  ·simp only[oSI]at h;subst h;exact aMX
  ·simp only[oSI]at h;subst h;exact aMW
  ·simp only[oSI]at h;subst h;exact aMV
  ·simp only[oSI]at h;subst h;exact aMU
  ·simp only[oSI]at h;subst h;exact aMT
  ·simp only[oSI]at h;subst h;exact aMS
  ·simp only[oSI]at h;subst h;exact aMR
  ·simp only[oSI]at h;subst h;exact aMQ
  ·simp only[oSI]at h;subst h;exact aMP
  ·simp only[oSI]at h;subst h;exact aMO
  ·simp only[oSI]at h;subst h;exact aMN
  ·simp only[oSI]at h;subst h;exact aMM
  ·simp only[oSI]at h;subst h;exact aML
  ·simp only[oSI]at h;subst h;exact aMK
  ·simp only[oSI]at h;subst h;exact aMJ
  ·simp only[oSI]at h;subst h;exact aMI
  ·simp only[oSI]at h;subst h;exact aMH
  ·simp only[oSI]at h;subst h;exact aMG
  ·simp only[oSI]at h;subst h;exact aMF
  ·simp only[oSI]at h;subst h;exact aME
  ·simp only[oSI]at h;subst h;exact aMD
  ·simp only[oSI]at h;subst h;exact aMC
  ·simp only[oSI]at h;subst h;exact aMB
  ·cases h
 ·unfold aA at h
  split at h
  ·simp only[oSI]at h;subst h;exact st6
  ·simp only[oSI]at h;subst h;exact aMy
  ·simp only[oSI]at h;subst h;exact aMx
  ·simp only[oSI]at h;subst h;exact aMw
  ·simp only[oSI]at h;subst h;exact aMv
  ·simp only[oSI]at h;subst h;exact aMu
  ·simp only[oSI]at h;subst h;exact aMt
  ·simp only[oSI]at h;subst h;exact aMs
  ·simp only[oSI]at h;subst h;exact aMr
  ·simp only[oSI]at h;subst h;exact aMq
  ·simp only[oSI]at h;subst h;exact aMp
  ·simp only[oSI]at h;subst h;exact aMo
  ·simp only[oSI]at h;subst h;exact aMn
  ·simp only[oSI]at h;subst h;exact aMm
  ·simp only[oSI]at h;subst h;exact aMl
  ·simp only[oSI]at h;subst h;exact aMk
  ·simp only[oSI]at h;subst h;exact aMj
  ·simp only[oSI]at h;subst h;exact aMi
  ·simp only[oSI]at h;subst h;exact aMh
  ·simp only[oSI]at h;subst h;exact aMg
  ·simp only[oSI]at h;subst h;exact aMf
  ·simp only[oSI]at h;subst h;exact aMe
  ·simp only[oSI]at h;subst h;exact aMd
  ·simp only[oSI]at h;subst h;exact aMc
  ·simp only[oSI]at h;subst h;exact aMb
  ·simp only[oSI]at h;subst h;exact aMa
  ·simp only[oSI]at h;subst h;exact aLZ
  ·simp only[oSI]at h;subst h;exact aLY
  ·simp only[oSI]at h;subst h;exact aLX
  ·simp only[oSI]at h;subst h;exact aLW
  ·simp only[oSI]at h;subst h;exact aLV
  ·simp only[oSI]at h;subst h;exact aLU
  ·simp only[oSI]at h;subst h;exact aLT
  ·simp only[oSI]at h;subst h;exact aLS
  ·simp only[oSI]at h;subst h;exact aLR
  ·simp only[oSI]at h;subst h;exact aLQ
  ·simp only[oSI]at h;subst h;exact aLP
  ·simp only[oSI]at h;subst h;exact aLO
  ·simp only[oSI]at h;subst h;exact aLN
  ·simp only[oSI]at h;subst h;exact aLM
  ·simp only[oSI]at h;subst h;exact aLL
  ·simp only[oSI]at h;subst h;exact aLK
  ·simp only[oSI]at h;subst h;exact aLJ
  ·simp only[oSI]at h;subst h;exact aLI
  ·simp only[oSI]at h;subst h;exact aLH
  ·simp only[oSI]at h;subst h;exact aLG
  ·simp only[oSI]at h;subst h;exact aLF
  ·simp only[oSI]at h;subst h;exact aLE
  ·simp only[oSI]at h;subst h;exact aLD
  ·simp only[oSI]at h;subst h;exact aLC
  ·simp only[oSI]at h;subst h;exact aLB
  ·simp only[oSI]at h;subst h;exact aLA
  ·simp only[oSI]at h;subst h;exact aLz
  ·simp only[oSI]at h;subst h;exact aLy
  ·simp only[oSI]at h;subst h;exact aLx
  ·simp only[oSI]at h;subst h;exact aLw
  ·simp only[oSI]at h;subst h;exact aLv
  ·simp only[oSI]at h;subst h;exact aLu
  ·cases h
theorem r6 {vs:List AV} {h:XH} (hl:vs.length≤38):runW aA 6 vs h=bD none x6.res x6.ownR h.length (execW aA 6 h.length none x6.body (aN (if x6.ownA then vs else eL vs)) h):=aU rfl hl h rfl
theorem r15 {vs:List AV} {h:XH} (hl:vs.length≤13):runW aA 15 vs h=bD none x15.res x15.ownR h.length (execW aA 15 h.length none x15.body (aN (if x15.ownA then vs else eL vs)) h):=aU rfl hl h rfl
theorem r16 {vs:List AV} {h:XH} (hl:vs.length≤168):runW aA 16 vs h=bD none x16.res x16.ownR h.length (execW aA 16 h.length none x16.body (aN (if x16.ownA then vs else eL vs)) h):=aU rfl hl h rfl
theorem r17 {vs:List AV} {h:XH} (hl:vs.length≤34):runW aA 17 vs h=bD none x17.res x17.ownR h.length (execW aA 17 h.length none x17.body (aN (if x17.ownA then vs else eL vs)) h):=aU rfl hl h rfl
theorem r20 {vs:List AV} {h:XH} (hl:vs.length≤26):runW aA 20 vs h=bD none x20.res x20.ownR h.length (execW aA 20 h.length none x20.body (aN (if x20.ownA then vs else eL vs)) h):=aU rfl hl h rfl
theorem r23 {vs:List AV} {h:XH} (hl:vs.length≤83):runW aA 23 vs h=bD none x23.res x23.ownR h.length (execW aA 23 h.length none x23.body (aN (if x23.ownA then vs else eL vs)) h):=aU rfl hl h rfl
theorem r24 {vs:List AV} {h:XH} (hl:vs.length≤117):runW aA 24 vs h=bD none x24.res x24.ownR h.length (execW aA 24 h.length none x24.body (aN (if x24.ownA then vs else eL vs)) h):=aU rfl hl h rfl
theorem r29 {vs:List AV} {h:XH} (hl:vs.length≤50):runW aA 29 vs h=bD none x29.res x29.ownR h.length (execW aA 29 h.length none x29.body (aN (if x29.ownA then vs else eL vs)) h):=aU rfl hl h rfl
theorem r31 {vs:List AV} {h:XH} (hl:vs.length≤57):runW aA 31 vs h=bD none x31.res x31.ownR h.length (execW aA 31 h.length none x31.body (aN (if x31.ownA then vs else eL vs)) h):=aU rfl hl h rfl
theorem r33 {vs:List AV} {h:XH} (hl:vs.length≤82):runW aA 33 vs h=bD none x33.res x33.ownR h.length (execW aA 33 h.length none x33.body (aN (if x33.ownA then vs else eL vs)) h):=aU rfl hl h rfl
theorem r34 {vs:List AV} {h:XH} (hl:vs.length≤118):runW aA 34 vs h=bD none x34.res x34.ownR h.length (execW aA 34 h.length none x34.body (aN (if x34.ownA then vs else eL vs)) h):=aU rfl hl h rfl
theorem r35 {vs:List AV} {h:XH} (hl:vs.length≤75):runW aA 35 vs h=bD none x35.res x35.ownR h.length (execW aA 35 h.length none x35.body (aN (if x35.ownA then vs else eL vs)) h):=aU rfl hl h rfl
theorem r45 {vs:List AV} {h:XH} (hl:vs.length≤15):runW aA 45 vs h=bD none x45.res x45.ownR h.length (execW aA 45 h.length none x45.body (aN (if x45.ownA then vs else eL vs)) h):=aU rfl hl h rfl
theorem r47 {vs:List AV} {h:XH} (hl:vs.length≤11):runW aA 47 vs h=bD none x47.res x47.ownR h.length (execW aA 47 h.length none x47.body (aN (if x47.ownA then vs else eL vs)) h):=aU rfl hl h rfl
theorem r51 {vs:List AV} {h:XH} (hl:vs.length≤8):runW aA 51 vs h=bD none x51.res x51.ownR h.length (execW aA 51 h.length none x51.body (aN (if x51.ownA then vs else eL vs)) h):=aU rfl hl h rfl
theorem r52 {vs:List AV} {h:XH} (hl:vs.length≤10):runW aA 52 vs h=bD none x52.res x52.ownR h.length (execW aA 52 h.length none x52.body (aN (if x52.ownA then vs else eL vs)) h):=aU rfl hl h rfl
theorem r53 {vs:List AV} {h:XH} (hl:vs.length≤26):runW aA 53 vs h=bD none x53.res x53.ownR h.length (execW aA 53 h.length none x53.body (aN (if x53.ownA then vs else eL vs)) h):=aU rfl hl h rfl
theorem r56 {vs:List AV} {h:XH} (hl:vs.length≤77):runW aA 56 vs h=bD none x56.res x56.ownR h.length (execW aA 56 h.length none x56.body (aN (if x56.ownA then vs else eL vs)) h):=aU rfl hl h rfl
theorem r57 {vs:List AV} {h:XH} (hl:vs.length≤15):runW aA 57 vs h=bD none x57.res x57.ownR h.length (execW aA 57 h.length none x57.body (aN (if x57.ownA then vs else eL vs)) h):=aU rfl hl h rfl
theorem r59 {vs:List AV} {h:XH} (hl:vs.length≤24):runW aA 59 vs h=bD none x59.res x59.ownR h.length (execW aA 59 h.length none x59.body (aN (if x59.ownA then vs else eL vs)) h):=aU rfl hl h rfl
theorem r60 {vs:List AV} {h:XH} (hl:vs.length≤10):runW aA 60 vs h=bD none x60.res x60.ownR h.length (execW aA 60 h.length none x60.body (aN (if x60.ownA then vs else eL vs)) h):=aU rfl hl h rfl
theorem r61 {vs:List AV} {h:XH} (hl:vs.length≤36):runW aA 61 vs h=bD none x61.res x61.ownR h.length (execW aA 61 h.length none x61.body (aN (if x61.ownA then vs else eL vs)) h):=aU rfl hl h rfl
theorem r62 {vs:List AV} {h:XH} (hl:vs.length≤5):runW aA 62 vs h=bD none x62.res x62.ownR h.length (execW aA 62 h.length none x62.body (aN (if x62.ownA then vs else eL vs)) h):=aU rfl hl h rfl
theorem r63 {vs:List AV} {h:XH} (hl:vs.length≤6):runW aA 63 vs h=bD none x63.res x63.ownR h.length (execW aA 63 h.length none x63.body (aN (if x63.ownA then vs else eL vs)) h):=aU rfl hl h rfl
theorem r65 {vs:List AV} {h:XH} (hl:vs.length≤27):runW aA 65 vs h=bD none x65.res x65.ownR h.length (execW aA 65 h.length none x65.body (aN (if x65.ownA then vs else eL vs)) h):=aU rfl hl h rfl
theorem r66 {vs:List AV} {h:XH} (hl:vs.length≤19):runW aA 66 vs h=bD none x66.res x66.ownR h.length (execW aA 66 h.length none x66.body (aN (if x66.ownA then vs else eL vs)) h):=aU rfl hl h rfl
theorem r67 {vs:List AV} {h:XH} (hl:vs.length≤5):runW aA 67 vs h=bD none x67.res x67.ownR h.length (execW aA 67 h.length none x67.body (aN (if x67.ownA then vs else eL vs)) h):=aU rfl hl h rfl
theorem r68 {vs:List AV} {h:XH} (hl:vs.length≤19):runW aA 68 vs h=bD none x68.res x68.ownR h.length (execW aA 68 h.length none x68.body (aN (if x68.ownA then vs else eL vs)) h):=aU rfl hl h rfl
theorem r69 {vs:List AV} {h:XH} (hl:vs.length≤61):runW aA 69 vs h=bD none x69.res x69.ownR h.length (execW aA 69 h.length none x69.body (aN (if x69.ownA then vs else eL vs)) h):=aU rfl hl h rfl
theorem r70 {vs:List AV} {h:XH} (hl:vs.length≤9):runW aA 70 vs h=bD none x70.res x70.ownR h.length (execW aA 70 h.length none x70.body (aN (if x70.ownA then vs else eL vs)) h):=aU rfl hl h rfl
theorem r71 {vs:List AV} {h:XH} (hl:vs.length≤10):runW aA 71 vs h=bD none x71.res x71.ownR h.length (execW aA 71 h.length none x71.body (aN (if x71.ownA then vs else eL vs)) h):=aU rfl hl h rfl
theorem r72 {vs:List AV} {h:XH} (hl:vs.length≤65):runW aA 72 vs h=bD none x72.res x72.ownR h.length (execW aA 72 h.length none x72.body (aN (if x72.ownA then vs else eL vs)) h):=aU rfl hl h rfl
theorem r74 {vs:List AV} {h:XH} (hl:vs.length≤15):runW aA 74 vs h=bD none x74.res x74.ownR h.length (execW aA 74 h.length none x74.body (aN (if x74.ownA then vs else eL vs)) h):=aU rfl hl h rfl
theorem r76 {vs:List AV} {h:XH} (hl:vs.length≤21):runW aA 76 vs h=bD none x76.res x76.ownR h.length (execW aA 76 h.length none x76.body (aN (if x76.ownA then vs else eL vs)) h):=aU rfl hl h rfl
theorem r77 {vs:List AV} {h:XH} (hl:vs.length≤98):runW aA 77 vs h=pD 19 h.length (eK (runW aA) (runYW aA) [⟨0,(some 4),(.box (.t 0)),none⟩,⟨0,(some 7),(.box (.t 3)),none⟩,⟨0,(some 19),(.load false 1 (.t 7)),none⟩] (aN (if x77.ownA then vs else eL vs)) h) fun b e1 h1=>bD (some b) x77.res x77.ownR h.length (execW aA 77 h.length none x77.body e1 h1):=aEI rfl hl h rfl
theorem r78 {vs:List AV} {h:XH} (hl:vs.length≤20):runW aA 78 vs h=bD none x78.res x78.ownR h.length (execW aA 78 h.length none x78.body (aN (if x78.ownA then vs else eL vs)) h):=aU rfl hl h rfl
theorem r79 {vs:List AV} {h:XH} (hl:vs.length≤5):runW aA 79 vs h=bD none x79.res x79.ownR h.length (execW aA 79 h.length none x79.body (aN (if x79.ownA then vs else eL vs)) h):=aU rfl hl h rfl
theorem r80 {vs:List AV} {h:XH} (hl:vs.length≤4):runW aA 80 vs h=bD none x80.res x80.ownR h.length (execW aA 80 h.length none x80.body (aN (if x80.ownA then vs else eL vs)) h):=aU rfl hl h rfl
theorem r81 {vs:List AV} {h:XH} (hl:vs.length≤8):runW aA 81 vs h=bD none x81.res x81.ownR h.length (execW aA 81 h.length none x81.body (aN (if x81.ownA then vs else eL vs)) h):=aU rfl hl h rfl
theorem r84 {vs:List AV} {h:XH} (hl:vs.length≤30):runW aA 84 vs h=bD none x84.res x84.ownR h.length (execW aA 84 h.length none x84.body (aN (if x84.ownA then vs else eL vs)) h):=aU rfl hl h rfl
theorem r85 {vs:List AV} {h:XH} (hl:vs.length≤13):runW aA 85 vs h=bD none x85.res x85.ownR h.length (execW aA 85 h.length none x85.body (aN (if x85.ownA then vs else eL vs)) h):=aU rfl hl h rfl
theorem r86 {vs:List AV} {h:XH} (hl:vs.length≤15):runW aA 86 vs h=bD none x86.res x86.ownR h.length (execW aA 86 h.length none x86.body (aN (if x86.ownA then vs else eL vs)) h):=aU rfl hl h rfl
theorem r87 {vs:List AV} {h:XH} (hl:vs.length≤8):runW aA 87 vs h=bD none x87.res x87.ownR h.length (execW aA 87 h.length none x87.body (aN (if x87.ownA then vs else eL vs)) h):=aU rfl hl h rfl
theorem r88 {vs:List AV} {h:XH} (hl:vs.length≤66):runW aA 88 vs h=bD none x88.res x88.ownR h.length (execW aA 88 h.length none x88.body (aN (if x88.ownA then vs else eL vs)) h):=aU rfl hl h rfl
theorem r89 {vs:List AV} {h:XH} (hl:vs.length≤126):runW aA 89 vs h=bD none x89.res x89.ownR h.length (execW aA 89 h.length none x89.body (aN (if x89.ownA then vs else eL vs)) h):=aU rfl hl h rfl
theorem r91 {vs:List AV} {h:XH} (hl:vs.length≤14):runW aA 91 vs h=bD none x91.res x91.ownR h.length (execW aA 91 h.length none x91.body (aN (if x91.ownA then vs else eL vs)) h):=aU rfl hl h rfl

end Go.Proofs.YtiabjdfdkiijmaaDoor
namespace Go.Proofs.YtiabjdfdkiijmaaDoor
open Go Go.DL
theorem aLj:runW aA 44 [I (0)] []=some (.agg [I (8),.fs [[I (0),I (1)],[I (0),I (2)],[I (1),I (3)],[I (2),I (3)],[I (3),I (4)],[I (3),I (5)],[I (4),I (6)],[I (5),I (6)]],.fs [[I (0),I (2),I (7)],[I (3),I (4),I (7)]],I (1),I (192),I (0)],[]):=aT.2 ⟨400,by kernel_rfl⟩
theorem aLi:runW aA 18 [.agg [I (8),.fs [[I (0),I (1)],[I (0),I (2)],[I (1),I (3)],[I (2),I (3)],[I (3),I (4)],[I (3),I (5)],[I (4),I (6)],[I (5),I (6)]],.fs [[I (0),I (2),I (7)],[I (3),I (4),I (7)]],I (1),I (192),I (0)],I (2)] []=some (.tup [.fs [[I (0)],[I (1)],[I (2)],[I (3)],[I (7)]],I (0)],[]):=aT.2 ⟨400,by kernel_rfl⟩
theorem aLf:runW aA 44 [I (9)] []=some (.agg [I (8),.fs [[I (0),I (1)],[I (0),I (2)],[I (1),I (3)],[I (2),I (3)],[I (3),I (4)],[I (3),I (5)],[I (4),I (6)],[I (5),I (6)]],.fs [[I (0),I (2),I (7)],[I (3),I (4),I (7)]],I (1),I (192),I (9)],[]):=aT.2 ⟨400,by kernel_rfl⟩
theorem aLd:runW aA 44 [I (79)] []=some (.agg [I (8),.fs [[I (0),I (1)],[I (0),I (2)],[I (1),I (3)],[I (2),I (3)],[I (3),I (4)],[I (3),I (5)],[I (4),I (6)],[I (5),I (6)]],.fs [[I (0),I (2),I (7)],[I (3),I (4),I (7)]],I (1),I (192),I (79)],[]):=aT.2 ⟨400,by kernel_rfl⟩
theorem aLb:runW aA 44 [I (15)] []=some (.agg [I (8),.fs [[I (0),I (1)],[I (0),I (2)],[I (1),I (3)],[I (2),I (3)],[I (3),I (4)],[I (3),I (5)],[I (4),I (6)],[I (5),I (6)]],.fs [[I (0),I (2),I (7)],[I (3),I (4),I (7)]],I (1),I (192),I (15)],[]):=aT.2 ⟨400,by kernel_rfl⟩
theorem aKh:runW aA 25 [.agg [I (8),.fs [[I (0),I (1)],[I (0),I (2)],[I (1),I (3)],[I (2),I (3)],[I (3),I (4)],[I (3),I (5)],[I (4),I (6)],[I (5),I (6)]],.fs [[I (0),I (2),I (7)],[I (3),I (4),I (7)]],I (1),I (192),I (0)],.sl 0 0 1 2,I (4)] [some (.blk true (.cells true [I (2),I (3)]))]=some (.tup [.fs [[I (0)],[I (1)]],I (0)],[none]):=aT.2 ⟨400,by kernel_rfl⟩
theorem aKg:runW aA 22 [.fs [[I (0)],[I (1)],[I (2)],[I (3)],[I (7)]],.sl 0 0 1 5] [some (.blk true (.cells true [I (0),I (1),I (2),I (3),I (7)]))]=some (.bool true,[some (.blk true (.cells true [I (0),I (1),I (2),I (3),I (7)]))]):=aT.2 ⟨400,by kernel_rfl⟩
theorem aKf:runW aA 22 [.fs [[I (0)],[I (1)],[I (1)],[I (2)],[I (3)],[I (3)],[I (4)],[I (1)]],.sl 0 0 1 8] [some (.blk true (.cells true [I (0),I (1),I (1),I (2),I (3),I (3),I (4),I (1)]))]=some (.bool true,[some (.blk true (.cells true [I (0),I (1),I (1),I (2),I (3),I (3),I (4),I (1)]))]):=aT.2 ⟨400,by kernel_rfl⟩
theorem aKe:runW aA 22 [.fs [[I (0)]],.sl 0 0 1 1] [some (.blk true (.cells true [I (0)]))]=some (.bool true,[some (.blk true (.cells true [I (0)]))]):=aT.2 ⟨400,by kernel_rfl⟩
theorem aKd:runW aA 22 [.fs [[I (1)],[I (2)]],.sl 0 0 1 2] [some (.blk true (.cells true [I (1),I (2)]))]=some (.bool true,[some (.blk true (.cells true [I (1),I (2)]))]):=aT.2 ⟨400,by kernel_rfl⟩
theorem aKc:runW aA 22 [.fs [[I (4)],[I (5)],[I (7)]],.sl 0 0 1 3] [some (.blk true (.cells true [I (4),I (5),I (7)]))]=some (.bool true,[some (.blk true (.cells true [I (4),I (5),I (7)]))]):=aT.2 ⟨400,by kernel_rfl⟩
theorem aKb:runW aA 22 [.fs [[I (6)],[I (7)]],.sl 0 0 1 2] [some (.blk true (.cells true [I (6),I (7)]))]=some (.bool true,[some (.blk true (.cells true [I (6),I (7)]))]):=aT.2 ⟨400,by kernel_rfl⟩
theorem aKa:runW aA 22 [.fs [[I (0)],[I (1)]],.sl 0 0 1 2] [some (.blk true (.cells true [I (0),I (1)]))]=some (.bool true,[some (.blk true (.cells true [I (0),I (1)]))]):=aT.2 ⟨400,by kernel_rfl⟩
theorem aJZ:runW aA 27 [.agg [I (8),.fs [[I (0),I (1)],[I (0),I (2)],[I (1),I (3)],[I (2),I (3)],[I (3),I (4)],[I (3),I (5)],[I (4),I (6)],[I (5),I (6)]],.fs [[I (0),I (2),I (7)],[I (3),I (4),I (7)]],I (1),I (192),I (0)],.sl 0 0 1 2] [some (.blk true (.cells true [I (3),I (7)]))]=some (I (0),[none]):=aT.2 ⟨400,by kernel_rfl⟩
theorem aJY:runW aA 27 [.agg [I (8),.fs [[I (0),I (1)],[I (0),I (2)],[I (1),I (3)],[I (2),I (3)],[I (3),I (4)],[I (3),I (5)],[I (4),I (6)],[I (5),I (6)]],.fs [[I (0),I (2),I (7)],[I (3),I (4),I (7)]],I (1),I (192),I (0)],.sl 0 0 1 2] [some (.blk true (.cells true [I (3),I (4)]))]=some (I (11),[none]):=aT.2 ⟨400,by kernel_rfl⟩
theorem aJX:runW aA 35 [.agg [I (8),.fs [[I (0),I (1)],[I (0),I (2)],[I (1),I (3)],[I (2),I (3)],[I (3),I (4)],[I (3),I (5)],[I (4),I (6)],[I (5),I (6)]],.fs [[I (0),I (2),I (7)],[I (3),I (4),I (7)]],I (1),I (192),I (9)],.sl 0 0 1 2] [some (.blk false (.cells true [.sl 1 0 1 3,.sl 2 0 1 5])),some (.blk true (.cells true [I (0),I (2),I (7)])),some (.blk true (.cells true [I (0),I (1),I (3),I (4),I (7)]))]=some (I (6),[some (.blk true (.cells true [.fs [[I (0)],[I (2)],[I (7)]],.fs [[I (0)],[I (1)],[I (3)],[I (4)],[I (7)]]])),none,none]):=aT.2 ⟨400,by kernel_rfl⟩
end Go.Proofs.YtiabjdfdkiijmaaDoor
namespace Go.Proofs.YtiabjdfdkiijmaaDoor
open Go Go.DL
set_option maxRecDepth 100000
set_option maxHeartbeats 1000000
theorem ptf (p:Prop):p=True∨p=False:=by
 by_cases h:p
 ·exact .inl (eq_true h)
 ·exact .inr (eq_false h)
theorem bK {α:Type} {l:List α} {i:Nat} (h:i<l.length):∃ x,l[i]?=some x:=⟨_,List.getElem?_eq_getElem h⟩
theorem cT {α:Type} {l:List α} {i:Nat} (h:i<l.length):((i:Int)<(l.length:Int))=True:=eq_true (by omega)
theorem fD {n i:Nat} (h:i<n) (hn:n≤9223372036854775807):IntKind.i64.wrap ((i:Int)+1)=(i:Int)+1:=aE (by omega) (by omega)
theorem eI {α:Type} {l:List α} {i:Nat} {x:α} (h:l[i]?=some x):i<l.length:=(List.getElem?_eq_some_iff.1 h).1

def bJ (f:Nat→Int):Nat→Int
 | 0=>0
 | n+1=>if bJ f n=0 then f n else bJ f n
theorem cH (f:Nat→Int):∀ n,∃ m,m≤n∧(∀ i,i<m→f i=0)∧((m=n∧bJ f n=0)∨(m<n∧f m≠0∧bJ f n=f m))
 | 0=>⟨0,Nat.le_refl _,fun i hi=>by omega,.inl ⟨rfl,rfl⟩⟩
 | n+1=>by
   obtain⟨m,h1,h2,h3⟩:=cH f n
   rcases h3 with ⟨rfl,h4⟩|⟨h4,h5,h6⟩
   ·by_cases hf:f m=0
    ·refine⟨m+1,Nat.le_refl _,fun i hi=>?_,.inl ⟨rfl,by rw[bJ,if_pos h4,hf]⟩⟩
     by_cases hi2:i=m
     ·rw[hi2];exact hf
     ·exact h2 i (by omega)
    ·exact⟨m,by omega,h2,.inr ⟨by omega,hf,by rw[bJ,if_pos h4]⟩⟩
   ·exact⟨m,by omega,h2,.inr ⟨by omega,h5,by rw[bJ,if_neg (by rw[h6];exact h5),h6]⟩⟩
theorem dS {f:Nat→Int}:∀ {n},bJ f n=0→∀ i,i<n→f i=0
 | 0,_,i,hi=>by omega
 | n+1,h,i,hi=>by
   rw[bJ]at h
   by_cases h0:bJ f n=0
   ·rw[if_pos h0]at h
    by_cases hin:i=n
    ·rw[hin];exact h
    ·exact dS h0 i (by omega)
   ·rw[if_neg h0]at h
    exact absurd h h0

theorem bU {res:List (Nat×Option (Bool×Nat))} {own:Bool} {k:Nat} {r:Option (DX×aH×XH)} {v:AV×XH} (h1:dJ r=true) (h2:bD none res own k r=some v):∃ e h,r=some (.ret,e,h)∧bD none res own k (some (.ret,e,h))=some v:=by
 match r with
 | none=>simp[dJ]at h1
 | some (.normal,e,h)=>simp[dJ]at h1
 | some (.exit _,e,h)=>simp[bD]at h2
 | some (.ret,e,h)=>exact⟨e,h,rfl,h2⟩
def big (k:IntKind):Prop:=k = .u64∨k = .i64
theorem aDf:big .u64:=.inl rfl
theorem cN:big .i64:=.inr rfl
theorem lB {k:IntKind} (h:big k):k.bits=64:=by rcases h with rfl|rfl<;>rfl
theorem hG {k:IntKind} (h:big k) {a:Nat} (ha:a<2^63):k.wrap (a:Int)=(a:Int):=by
 rcases h with rfl|rfl
 ·simp[IntKind.wrap,IntKind.bits,IntKind.signed];omega
 ·simp[IntKind.wrap,IntKind.bits,IntKind.signed];omega
theorem eZ {w:Nat} (a:Nat):BitVec.ofInt w (a:Int)=BitVec.ofNat w a:=by
 apply BitVec.eq_of_toNat_eq
 simp
theorem nK {k:IntKind} (h:big k) {a b:Nat} (ha:a<2^63) (hb:b<2^63):bZ .and k (a:Int) (b:Int)=((a&&&b:Nat):Int):=by
 unfold bZ
 dsimp only
 rw[eZ,eZ,lB h,BitVec.toNat_and,BitVec.toNat_ofNat,BitVec.toNat_ofNat,Nat.mod_eq_of_lt (by omega),Nat.mod_eq_of_lt (by omega)]
 exact hG h (Nat.lt_of_le_of_lt Nat.and_le_left ha)
theorem dH {k:IntKind} (h:big k) {a b:Nat} (ha:a<2^63) (hb:b<2^63):bZ .or k (a:Int) (b:Int)=((a|||b:Nat):Int):=by
 unfold bZ
 dsimp only
 rw[eZ,eZ,lB h,BitVec.toNat_or,BitVec.toNat_ofNat,BitVec.toNat_ofNat,Nat.mod_eq_of_lt (by omega),Nat.mod_eq_of_lt (by omega)]
 exact hG h (Nat.or_lt_two_pow ha hb)
def jP (a b:Nat):Nat:=a&&&(2^64-(b+1))
theorem iR (a b:Nat):jP a b≤a:=Nat.and_le_left
theorem jR {k:IntKind} (h:big k) {a b:Nat} (ha:a<2^63) (hb:b<2^63):bZ .andNot k (a:Int) (b:Int)=((jP a b:Nat):Int):=by
 unfold bZ
 dsimp only
 rw[eZ,eZ,lB h,BitVec.toNat_and,BitVec.toNat_not,BitVec.toNat_ofNat,BitVec.toNat_ofNat,Nat.mod_eq_of_lt (by omega),Nat.mod_eq_of_lt (by omega),show 2^64-1-b=2^64-(b+1) by omega]
 exact hG h (Nat.lt_of_le_of_lt (iR a b) ha)
theorem bS {a b:Nat} (hb:b<2^64) {i:Nat}:(jP a b).testBit i=(a.testBit i&&(decide (i<64) && !b.testBit i)):=by
 unfold jP
 rw[Nat.testBit_and,Nat.testBit_two_pow_sub_succ hb]
theorem pL {a n:Nat} (h:a<2^n) {i:Nat} (hi:n≤i):a.testBit i=false:=Nat.testBit_lt_two_pow (Nat.lt_of_lt_of_le h (Nat.pow_le_pow_right (by omega) hi))
theorem aGd {a b:Nat} (ha:a<2^63) (hb:b<2^63):jP a b=0↔∀ i,a.testBit i=true→b.testBit i=true:=by
 constructor
 ·intro h i hi
  have hlt:i<64:=by
   by_cases hc:i<64
   ·exact hc
   ·rw[pL ha (by omega)]at hi;simp at hi
  have:=bS (a:=a) (b:=b) (by omega) (i:=i)
  rw[h,hi,Nat.zero_testBit,decide_eq_true hlt]at this
  simpa using this.symm
 ·intro h
  apply Nat.eq_of_testBit_eq
  intro i
  rw[bS (by omega),Nat.zero_testBit]
  cases hi:a.testBit i with
  | false=>rfl
  | true=>rw[h i hi];simp
theorem tR {k:IntKind} (h:big k) {i:Nat} (hi:i<63):k.wrap (1*2^min i k.bits)=((2^i:Nat):Int):=by
 rw[lB h,Nat.min_eq_left (by omega),Int.one_mul,show (2:Int)^i=((2^i:Nat):Int) by norm_cast]
 exact hG h (Nat.pow_lt_pow_right (by omega) hi)
theorem aKv {k:IntKind} (h:big k) {i:Nat} (hi:i<63):k.wrap (2^min i k.bits)=((2^i:Nat):Int):=by
 rw[←tR h hi,Int.one_mul]
theorem aGP {k:IntKind} (h:big k) {a i:Nat} (hi:i<64):(a:Int).fdiv (2^min i k.bits)=((a>>>i:Nat):Int):=by
 rw[lB h,Nat.min_eq_left (by omega),show (2:Int)^i=((2^i:Nat):Int) by norm_cast,Int.fdiv_eq_ediv_of_nonneg _ (Int.natCast_nonneg _),Nat.shiftRight_eq_div_pow]
 exact(Int.natCast_ediv a (2^i)).symm
theorem aJK {k:IntKind} (h:big k) {a i:Nat} (ha:a<2^63) (hi:i<64):bZ .and k ((a:Int).fdiv (2^min i k.bits)) 1=if a.testBit i then 1 else 0:=by
 have:a>>>i≤a:=Nat.shiftRight_le a i
 rw[aGP h hi,show (1:Int)=((1:Nat):Int) from rfl,nK h (by omega) (by omega)]
 unfold Nat.testBit
 rw[Nat.and_comm,Nat.one_and_eq_mod_two]
 by_cases hb:(a>>>i)%2=0
 ·simp[hb]
 ·have:(a>>>i)%2=1:=by omega
  simp[this]
theorem aGs {k:IntKind} (h:big k) {a i:Nat} (ha:a<2^63) (hi:i<64):(bZ .and k ((a:Int).fdiv (2^min i k.bits)) 1=1)=(a.testBit i=true):=by
 rw[aJK h ha hi]
 cases a.testBit i<;>simp
theorem vL {a i n:Nat} (ha:a<2^n) (hi:i<n):a|||2^i<2^n:=Nat.or_lt_two_pow ha (Nat.pow_lt_pow_right (by omega) hi)
theorem eP (a i j:Nat):(a|||2^i).testBit j=(a.testBit j||decide (i=j)):=by
 rw[Nat.testBit_or,Nat.testBit_two_pow]


def btw (a b c:Int):Bool:=decide (a≤b)&&decide (b≤c)
theorem oE {a b c:Int}:btw a b c=true↔a≤b∧b≤c:=by simp[btw]
theorem w45 (a b c:Int):runW aA 45 [I a,I b,I c] []=some (.bool (btw a b c),[]):=by
 rw[r45 (by simp)];unfold x45;dsimp only
 rcases ptf (a≤b)with h|h
 ·(sym=>(simp[Za,Zb,Zf,Zh,Zl,Zm,Zp,Zq,Zv,Zy,Z3,ZV,Yt,YY,Xs,XK,We,Wf,WB,WK,WO,WP,WR,WS,Vv,V9,VA,VC,VD,VE,VF,VG,VJ,VK,VL,VM,VO,VY,Ua,Ud,Uf,Uh,Ul,Uy,U2,U3,U4,UD,UE,Tt,Tu,Tv,Tz,T6,T7,Su,h,btw.eq_1];all_goals tactic=>exact rfl))
 ·(sym=>(simp[Za,Zb,Zf,Zh,Zl,Zm,Zp,Zs,Zv,Zy,Z3,ZW,Yt,YY,Xs,XK,We,Wf,WB,WK,WO,WP,WR,WS,Vv,V9,VA,VC,VD,VE,VF,VG,VJ,VK,VL,VM,VO,VY,Ua,Ud,Uf,Uh,Un,Uz,U2,U3,U4,UD,UE,Tt,Tu,Tv,Tz,T6,T7,Su,h,btw.eq_1];all_goals tactic=>exact rfl))
theorem w74 (a b c:Int):runW aA 74 [I b,I a,I c] []=some (.bool (btw a b c),[]):=by
 rw[r74 (by simp)];unfold x74;dsimp only
 rcases ptf (a≤b)with h|h
 ·(sym=>(simp[Za,Zb,Zf,Zh,Zl,Zm,Zp,Zq,Zv,Zy,Z3,ZV,Yt,Yv,YY,Xs,XK,We,Wf,WB,WK,WO,WP,WR,WS,Vv,V9,VA,VC,VD,VE,VF,VG,VJ,VK,VL,VM,VO,VY,Ua,Ud,Uf,Uh,Ul,Uy,U2,U3,U4,UD,UE,Tt,Tu,Tv,Tz,T6,T7,Su,h,btw.eq_1];all_goals tactic=>exact rfl))
 ·(sym=>(simp[Za,Zb,Zf,Zh,Zl,Zm,Zp,Zs,Zv,Zy,Z3,ZW,Yv,YY,Xs,XK,We,Wf,WB,WK,WO,WP,WR,WS,Vv,V9,VA,VC,VD,VE,VF,VG,VJ,VK,VL,VM,VO,VY,Ua,Ud,Uf,Uh,Un,Uz,U2,U3,U4,UD,UE,Tt,Tu,Tv,Tz,T6,T7,Su,h,btw.eq_1];all_goals tactic=>exact rfl))
theorem w47 (a b c:Int):runW aA 47 [I b,I a,I c] []=some (.bool (btw a b c),[]):=by
 have e:=w74 a b c
 rw[r47 (by simp)];unfold x47;dsimp only
 (sym=>(simp[Za,Zb,Zf,Zg,Zh,Zj,Zl,Zv,ZO,ZP,ZT,ZU,YX,YY,Xr,Xs,XJ,XK,We,Wf,WA,WB,WK,WN,WO,WP,WR,WS,WU,WV,Vi,Vj,Vk,Vv,Vx,Vy,Vz,V9,VA,VC,VD,VE,VF,VG,VJ,VK,VL,VM,VO,VY,VZ,Ua,Uc,Ud,Uf,Uh,U2,U3,U4,U5,U6,UD,UE,Tu,Tv,Tz,T6,T7,Su,SB,SC,SE,SF,SG,SI,e];all_goals tactic=>exact rfl))
theorem pM {a j:Nat} (ha:a<2^63) (hj:j<64):runW aA 60 [I a,I j] []=some (.bool (a.testBit j),[]):=by
 have e:=aGs cN (a:=a) (i:=j) ha hj
 have n0:((j:Int)<0)=False:=eq_false (by omega)
 rw[r60 (by simp)];unfold x60;dsimp only
 cases hb:a.testBit j
 ·rw[hb]at e
  have e:=e.trans (eq_false (by simp))
  (sym=>(simp[Za,Zb,Zf,Zh,Zl,Zm,Zv,Z3,Ym,Yp,Yq,Yx,YY,Xs,XK,We,Wf,WB,WK,WO,WP,WR,WS,Vv,V9,VA,VC,VD,VE,VF,VG,VJ,VK,VL,VM,VO,VY,Ua,Ud,Uf,Uh,Uz,U2,U3,U4,UD,UE,Tt,Tu,Tv,Tz,T6,T7,Su,n0,e];all_goals tactic=>exact rfl))
 ·rw[hb]at e
  have e:=e.trans (eq_true rfl)
  (sym=>(simp[Za,Zb,Zf,Zh,Zl,Zm,Zv,Z3,Ym,Yp,Yq,Yx,YY,Xs,XK,We,Wf,WB,WK,WO,WP,WR,WS,Vv,V9,VA,VC,VD,VE,VF,VG,VJ,VK,VL,VM,VO,VY,Ua,Ud,Uf,Uh,Uy,U2,U3,U4,UD,UE,Tt,Tu,Tv,Tz,T6,T7,Su,n0,e];all_goals tactic=>exact rfl))
theorem w52 {a j:Nat} (ha:a<2^63) (hj:j<64):runW aA 52 [I a,I j] []=some (.bool (a.testBit j),[]):=by
 have e:=aGs cN (a:=a) (i:=j) ha hj
 have n0:((j:Int)<0)=False:=eq_false (by omega)
 rw[r52 (by simp)];unfold x52;dsimp only
 cases hb:a.testBit j
 ·rw[hb]at e
  have e:=e.trans (eq_false (by simp))
  (sym=>(simp[Za,Zb,Zf,Zh,Zl,Zm,Zv,Z3,Ym,Yp,Yq,Yx,YY,Xs,XK,We,Wf,WB,WK,WO,WP,WR,WS,Vv,V9,VA,VC,VD,VE,VF,VG,VJ,VK,VL,VM,VO,VY,Ua,Ud,Uf,Uh,Uz,U2,U3,U4,UD,UE,Tt,Tu,Tv,Tz,T6,T7,Su,n0,e];all_goals tactic=>exact rfl))
 ·rw[hb]at e
  have e:=e.trans (eq_true rfl)
  (sym=>(simp[Za,Zb,Zf,Zh,Zl,Zm,Zv,Z3,Ym,Yp,Yq,Yx,YY,Xs,XK,We,Wf,WB,WK,WO,WP,WR,WS,Vv,V9,VA,VC,VD,VE,VF,VG,VJ,VK,VL,VM,VO,VY,Ua,Ud,Uf,Uh,Uy,U2,U3,U4,UD,UE,Tt,Tu,Tv,Tz,T6,T7,Su,n0,e];all_goals tactic=>exact rfl))
theorem w62 {j:Nat} (hj:j<63):runW aA 62 [I j] []=some (I (2^j:Nat),[]):=by
 have e:=tR cN hj
 have n0:((j:Int)<0)=False:=eq_false (by omega)
 rw[r62 (by simp)];unfold x62;dsimp only
 (sym=>(simp[Za,Zb,Zf,Zh,Zl,Zm,Zv,Z3,Yo,Yx,YX,Xr,XJ,We,WB,WK,WO,WP,WR,WS,Vv,V9,VA,VC,VD,VE,VF,VG,VJ,VK,VL,VM,VO,VY,Ua,Ud,Uf,Uh,U2,U3,U4,UD,UE,Tt,Tu,Tv,Tz,T6,T7,Su,n0,e];all_goals tactic=>exact rfl))
abbrev nL (l:List Int):AV:=.fs (l.map fun n=>[I n])
end Go.Proofs.YtiabjdfdkiijmaaDoor
namespace Go.Proofs.YtiabjdfdkiijmaaDoor
open Go Go.DL
set_option maxRecDepth 100000
set_option maxHeartbeats 4000000

theorem aIW:∀ a:Nat,a≠0→∃ p m,a=2^p*(2*m+1):=by
 intro a
 induction a using Nat.strongRecOn with
 | _ a ih =>
   intro h0
   by_cases h:a%2=1
   ·exact⟨0,a/2,by omega⟩
   ·obtain⟨p,m,hm⟩:=ih (a/2) (by omega) (by omega)
    refine⟨p+1,m,?_⟩
    rw[Nat.pow_succ,Nat.mul_comm (2^p) 2,Nat.mul_assoc,←hm]
    omega
theorem yU (m j:Nat):(2*m+1).testBit j=if j=0 then true else m.testBit (j-1):=by
 cases j with
 | zero=>simp[Nat.testBit]
 | succ j=>simp only[Nat.add_one_ne_zero,if_false,Nat.add_sub_cancel];rw[Nat.testBit_succ];congr 1;omega
theorem yV (m j:Nat):(2*m).testBit j=if j=0 then false else m.testBit (j-1):=by
 cases j with
 | zero=>simp[Nat.testBit]
 | succ j=>simp only[Nat.add_one_ne_zero,if_false,Nat.add_sub_cancel];rw[Nat.testBit_succ];congr 1;omega
theorem lF (p x i:Nat):(2^p*x).testBit i=if i<p then false else x.testBit (i-p):=by
 have:=Nat.testBit_two_pow_mul_add x (b:=0) (i:=p) (Nat.two_pow_pos p) i
 rw[Nat.add_zero,Nat.zero_testBit]at this
 exact this
theorem aDV (p m:Nat):2^p*(2*m+1)&&&(2^p*(2*m+1)-1)=2^p*(2*m):=by
 have h1:2^p*(2*m+1)-1=2^p*(2*m)+(2^p-1):=by
  have:=Nat.two_pow_pos p
  rw[Nat.mul_add,Nat.mul_one];omega
 apply Nat.eq_of_testBit_eq
 intro i
 rw[Nat.testBit_and,lF,h1,Nat.testBit_two_pow_mul_add _ (by have:=Nat.two_pow_pos p;omega),lF]
 by_cases hi:i<p
 ·simp[hi]
 ·simp only[hi,if_false,yU,yV]
  by_cases h0:i-p=0
  ·simp[h0]
  ·simp[h0]
theorem aHB (p m:Nat) (h:2^p*(2*m+1)<2^64):2^p*(2*m+1)&&&(2^64-2^p*(2*m+1))=2^p:=by
 have hp:p<64:=by
  by_cases hp:p<64
  ·exact hp
  ·have h1:2^64≤2^p:=Nat.pow_le_pow_right (by omega) (by omega)
   have h2:2^p*1≤2^p*(2*m+1):=Nat.mul_le_mul_left _ (by omega)
   omega
 have e64:(2:Nat)^64=2^p*(2*2^(63-p)):=by
  rw[←Nat.pow_succ',←Nat.pow_add];congr 1;omega
 have hm:m<2^(63-p):=by
  rw[e64]at h
  have:=Nat.lt_of_mul_lt_mul_left h
  omega
 have h1:2^64-2^p*(2*m+1)=2^p*(2*(2^(63-p)-(m+1))+1):=by
  rw[e64,←Nat.mul_sub];congr 1;omega
 rw[h1]
 apply Nat.eq_of_testBit_eq
 intro i
 rw[Nat.testBit_and,lF,lF,Nat.testBit_two_pow]
 by_cases hi:i<p
 ·simp[hi];omega
 ·simp only[hi,if_false,yU]
  by_cases h0:i-p=0
  ·have:p=i:=by omega
   simp[h0,this]
  ·have:p≠i:=by omega
   simp only[h0,if_false,Nat.testBit_two_pow_sub_succ hm]
   cases m.testBit (i-p-1)<;>simp[this]

def el (a:Nat):List Nat:=(List.range 16).filter (a.testBit ·)
def qM (a:Nat):Nat:=(el a).headD 0
theorem jO {a k:Nat}:k∈el a↔k<16∧a.testBit k=true:=by simp[el]
theorem aFY {a:Nat} (ha:a<65536) (h0:a≠0):∃ p m,p<16∧a=2^p*(2*m+1)∧el a=p::el (a&&&(a-1)):=by
 obtain⟨p,m,rfl⟩:=aIW a h0
 have hp:p<16:=by
  by_cases hp:p<16
  ·exact hp
  ·have h1:2^16≤2^p:=Nat.pow_le_pow_right (by omega) (by omega)
   have h2:2^p*1≤2^p*(2*m+1):=Nat.mul_le_mul_left _ (by omega)
   omega
 refine⟨p,m,hp,rfl,?_⟩
 rw[aDV]
 unfold el
 have hr:List.range 16=List.range p++p::List.range' (p+1) (15-p):=by
  rw[List.range_eq_range',List.range_eq_range',show (16:Nat)=p+(1+(15-p)) by omega,←List.range'_append_1,←List.range'_append_1]
  simp
 rw[hr,List.filter_append,List.filter_append,List.filter_cons,List.filter_cons]
 have f1:∀ x:Nat,(List.range p).filter (fun i=>(2^p*x).testBit i)=[]:=fun x=>by
  rw[List.filter_eq_nil_iff]
  intro i hi
  rw[List.mem_range]at hi
  rw[lF,if_pos hi];simp
 have t1:(2^p*(2*m+1)).testBit p=true:=by rw[lF,if_neg (by omega),Nat.sub_self,yU];rfl
 have t2:(2^p*(2*m)).testBit p=false:=by rw[lF,if_neg (by omega),Nat.sub_self,yV];rfl
 rw[f1,f1]
 simp only[t1,t2,if_true,List.nil_append,Bool.false_eq_true,if_false]
 congr 1
 refine List.filter_congr fun i hi=>?_
 rw[List.mem_range'_1]at hi
 rw[lF,lF,if_neg (by omega),if_neg (by omega),yU,yV,if_neg (by omega),if_neg (by omega)]
theorem uE {a:Nat} (ha:a<65536) (h0:a≠0):el a=qM a::el (a&&&(a-1)):=by
 obtain⟨p,m,_,_,h⟩:=aFY ha h0
 rw[qM,h];rfl
theorem aON {a:Nat} (ha:a<65536):el a=[]↔a=0:=by
 constructor
 ·intro h
  by_cases h0:a=0
  ·exact h0
  ·rw[uE ha h0]at h;simp at h
 ·rintro rfl;rfl
theorem aFz {a:Nat} (ha:a<65536) (h0:a≠0):qM a<16∧a.testBit (qM a)=true:=by
 have:=uE ha h0
 exact jO.1 (by rw[this];simp)
theorem aIm {a:Nat} (ha:a<65536) (h0:a≠0):a&&&(2^64-a)=2^qM a:=by
 obtain⟨p,m,hp,e,h⟩:=aFY ha h0
 have hl:qM a=p:=by rw[qM,h];rfl
 rw[hl]
 conv=>lhs;rw[e]
 exact aHB p m (by rw[←e];omega)

abbrev U (a:Nat):AV:=.int .u64 (a:Int)
theorem w91 {a:Nat} (ha:a<65536) (h0:a≠0):runW aA 91 [U a] []=some (I (qM a:Nat),[]):=by
 have n0:((a:Int)=0)=False:=eq_false (by omega)
 have u1:IntKind.u64.wrap (0-(a:Int))=((2^64-a:Nat):Int):=by
  simp[IntKind.wrap,IntKind.bits,IntKind.signed];omega
 have u2:bZ .and .u64 (a:Int) ((2^64-a:Nat):Int)=((2^qM a:Nat):Int):=by
  unfold bZ
  dsimp only
  rw[eZ,eZ,lB aDf,BitVec.toNat_and,BitVec.toNat_ofNat,BitVec.toNat_ofNat,Nat.mod_eq_of_lt (by omega),Nat.mod_eq_of_lt (by omega),aIm ha h0]
  exact hG aDf (Nat.pow_lt_pow_right (by omega) (by have:=(aFz ha h0).1;omega))
 obtain⟨p,hp⟩:∃ p,qM a=p:=⟨_,rfl⟩
 have hp16:=(aFz ha h0).1
 rw[hp]at u2 hp16 ⊢
 generalize 2^64-a=na at u1 u2
 rw[r91 (by simp)];unfold x91;dsimp only
 have fin:p=0∨p=1∨p=2∨p=3∨p=4∨p=5∨p=6∨p=7∨p=8∨p=9∨p=10∨p=11∨p=12∨p=13∨p=14∨p=15:=by omega
 rcases fin with rfl|rfl|rfl|rfl|rfl|rfl|rfl|rfl|rfl|rfl|rfl|rfl|rfl|rfl|rfl|rfl
 ·have u2:bZ .and .u64 (a:Int) (na:Int)=1:=u2
  have u3:IntKind.u64.wrap 285870213051353865=285870213051353865:=by decide
  have u4:(285870213051353865:Int).fdiv (2^min (Int.toNat 58) IntKind.u64.bits)=0:=by decide
  have u5:Int.toNat 0=0:=rfl
  (sym=>(simp[Za,Zb,Zf,Zh,Zl,Zm,Zv,Z3,Z6,Z7,Z9,ZG,ZY,ZZ,Yl,Ym,Yp,Yq,Yy,Y8,Y9,YP,YX,Xr,XJ,We,WB,WC,WK,WO,WP,WR,WS,Vv,V9,VA,VC,VD,VE,VF,VG,VJ,VK,VL,VM,VO,VT,VV,VY,Ua,Ud,Uf,Uh,Uu,Uz,U2,U3,U4,UD,UE,Th,Ti,Tk,Tt,Tu,Tv,Tw,Tz,T6,T7,Su,S9,n0,u1,u2,u3,u4,u5];all_goals tactic=>exact rfl))
 ·have u2:bZ .and .u64 (a:Int) (na:Int)=2:=u2
  have u3:IntKind.u64.wrap 571740426102707730=571740426102707730:=by decide
  have u4:(571740426102707730:Int).fdiv (2^min (Int.toNat 58) IntKind.u64.bits)=1:=by decide
  have u5:Int.toNat 1=1:=rfl
  (sym=>(simp[Za,Zb,Zf,Zh,Zl,Zm,Zv,Z3,Z6,Z7,Z9,ZG,ZY,ZZ,Yl,Ym,Yp,Yq,Yz,YA,YB,YP,YX,Xr,XJ,We,WB,WC,WK,WO,WP,WR,WS,Vv,V9,VA,VC,VD,VE,VF,VG,VJ,VK,VL,VM,VO,VT,VV,VY,Ua,Ud,Uf,Uh,Uu,Uz,U2,U3,U4,UD,UE,Th,Ti,Tk,Tt,Tu,Tv,Tw,Tz,T6,T7,Su,S9,n0,u1,u2,u3,u4,u5];all_goals tactic=>exact rfl))
 ·have u2:bZ .and .u64 (a:Int) (na:Int)=4:=u2
  have u3:IntKind.u64.wrap 1143480852205415460=1143480852205415460:=by decide
  have u4:(1143480852205415460:Int).fdiv (2^min (Int.toNat 58) IntKind.u64.bits)=3:=by decide
  have u5:Int.toNat 3=3:=rfl
  (sym=>(simp[Za,Zb,Zf,Zh,Zl,Zm,Zv,Z3,Z6,Z7,Z9,ZG,ZY,ZZ,Yl,Ym,Yp,Yq,Y0,YD,YE,YP,YX,Xr,XJ,We,WB,WC,WK,WO,WP,WR,WS,Vv,V9,VA,VC,VD,VE,VF,VG,VJ,VK,VL,VM,VO,VT,VV,VY,Ua,Ud,Uf,Uh,Uu,Uz,U2,U3,U4,UD,UE,Th,Ti,Tk,Tt,Tu,Tv,Tw,Tz,T6,T7,Su,S9,n0,u1,u2,u3,u4,u5];all_goals tactic=>exact rfl))
 ·have u2:bZ .and .u64 (a:Int) (na:Int)=8:=u2
  have u3:IntKind.u64.wrap 2286961704410830920=2286961704410830920:=by decide
  have u4:(2286961704410830920:Int).fdiv (2^min (Int.toNat 58) IntKind.u64.bits)=7:=by decide
  have u5:Int.toNat 7=7:=rfl
  (sym=>(simp[Za,Zb,Zf,Zh,Zl,Zm,Zv,Z3,Z6,Z7,Z9,ZG,ZY,ZZ,Yl,Ym,Yp,Yq,Y1,YF,YK,YP,YX,Xr,XJ,We,WB,WC,WK,WO,WP,WR,WS,Vv,V9,VA,VC,VD,VE,VF,VG,VJ,VK,VL,VM,VO,VT,VV,VY,Ua,Ud,Uf,Uh,Uu,Uz,U2,U3,U4,UD,UE,Th,Ti,Tk,Tt,Tu,Tv,Tw,Tz,T6,T7,Su,S9,n0,u1,u2,u3,u4,u5];all_goals tactic=>exact rfl))
 ·have u2:bZ .and .u64 (a:Int) (na:Int)=16:=u2
  have u3:IntKind.u64.wrap 4573923408821661840=4573923408821661840:=by decide
  have u4:(4573923408821661840:Int).fdiv (2^min (Int.toNat 58) IntKind.u64.bits)=15:=by decide
  have u5:Int.toNat 15=15:=rfl
  (sym=>(simp[Za,Zb,Zf,Zh,Zl,Zm,Zv,Z3,Z6,Z7,Z9,ZG,ZY,ZZ,Yl,Ym,Yp,Yq,Y2,YG,YP,YX,Xr,XJ,We,WB,WC,WK,WO,WP,WR,WS,Vv,V9,VA,VC,VD,VE,VF,VG,VJ,VK,VL,VM,VO,VT,VV,VY,Ua,Ud,Uf,Uh,Uu,Uz,U2,U3,U4,UD,UE,Th,Ti,Tk,Tt,Tu,Tv,Tw,Tz,T6,T7,Su,S9,n0,u1,u2,u3,u4,u5];all_goals tactic=>exact rfl))
 ·have u2:bZ .and .u64 (a:Int) (na:Int)=32:=u2
  have u3:IntKind.u64.wrap 9147846817643323680=9147846817643323680:=by decide
  have u4:(9147846817643323680:Int).fdiv (2^min (Int.toNat 58) IntKind.u64.bits)=31:=by decide
  have u5:Int.toNat 31=31:=rfl
  (sym=>(simp[Za,Zb,Zf,Zh,Zl,Zm,Zv,Z3,Z6,Z7,Z9,ZG,ZY,ZZ,Yl,Ym,Yp,Yq,Y3,YH,YP,YX,Xr,XJ,We,WB,WC,WK,WO,WP,WR,WS,Vv,V9,VA,VC,VD,VE,VF,VG,VJ,VK,VL,VM,VO,VT,VV,VY,Ua,Ud,Uf,Uh,Uu,Uz,U2,U3,U4,UD,UE,Th,Ti,Tk,Tt,Tu,Tv,Tw,Tz,T6,T7,Su,S9,n0,u1,u2,u3,u4,u5];all_goals tactic=>exact rfl))
 ·have u2:bZ .and .u64 (a:Int) (na:Int)=64:=u2
  have u3:IntKind.u64.wrap 18295693635286647360=18295693635286647360:=by decide
  have u4:(18295693635286647360:Int).fdiv (2^min (Int.toNat 58) IntKind.u64.bits)=63:=by decide
  have u5:Int.toNat 63=63:=rfl
  (sym=>(simp[Za,Zb,Zf,Zh,Zl,Zm,Zv,Z3,Z6,Z7,Z9,ZG,ZY,ZZ,Yl,Ym,Yp,Yq,Y4,YJ,YP,YX,Xr,XJ,We,WB,WC,WK,WO,WP,WR,WS,Vv,V9,VA,VC,VD,VE,VF,VG,VJ,VK,VL,VM,VO,VT,VV,VY,Ua,Ud,Uf,Uh,Uu,Uz,U2,U3,U4,UD,UE,Th,Ti,Tk,Tt,Tu,Tv,Tw,Tz,T6,T7,Su,S9,n0,u1,u2,u3,u4,u5];all_goals tactic=>exact rfl))
 ·have u2:bZ .and .u64 (a:Int) (na:Int)=128:=u2
  have u3:IntKind.u64.wrap 36591387270573294720=18144643196863743104:=by decide
  have u4:(18144643196863743104:Int).fdiv (2^min (Int.toNat 58) IntKind.u64.bits)=62:=by decide
  have u5:Int.toNat 62=62:=rfl
  (sym=>(simp[Za,Zb,Zf,Zh,Zl,Zm,Zv,Z3,Z6,Z7,Z9,ZG,ZY,ZZ,Yl,Ym,Yp,Yq,Y5,YL,YP,YX,Xr,XJ,We,WB,WC,WK,WO,WP,WR,WS,Vv,V9,VA,VC,VD,VE,VF,VG,VJ,VK,VL,VM,VO,VT,VV,VY,Ua,Ud,Uf,Uh,Uu,Uz,U2,U3,U4,UD,UE,Th,Ti,Tk,Tt,Tu,Tv,Tw,Tz,T6,T7,Su,S9,n0,u1,u2,u3,u4,u5];all_goals tactic=>exact rfl))
 ·have u2:bZ .and .u64 (a:Int) (na:Int)=256:=u2
  have u3:IntKind.u64.wrap 73182774541146589440=17842542320017934592:=by decide
  have u4:(17842542320017934592:Int).fdiv (2^min (Int.toNat 58) IntKind.u64.bits)=61:=by decide
  have u5:Int.toNat 61=61:=rfl
  (sym=>(simp[Za,Zb,Zf,Zh,Zl,Zm,Zv,Z3,Z6,Z7,Z9,ZG,ZY,ZZ,Yl,Ym,Yp,Yq,Y6,YM,YP,YX,Xr,XJ,We,WB,WC,WK,WO,WP,WR,WS,Vv,V9,VA,VC,VD,VE,VF,VG,VJ,VK,VL,VM,VO,VT,VV,VY,Ua,Ud,Uf,Uh,Uu,Uz,U2,U3,U4,UD,UE,Th,Ti,Tk,Tt,Tu,Tv,Tw,Tz,T6,T7,Su,S9,n0,u1,u2,u3,u4,u5];all_goals tactic=>exact rfl))
 ·have u2:bZ .and .u64 (a:Int) (na:Int)=512:=u2
  have u3:IntKind.u64.wrap 146365549082293178880=17238340566326317568:=by decide
  have u4:(17238340566326317568:Int).fdiv (2^min (Int.toNat 58) IntKind.u64.bits)=59:=by decide
  have u5:Int.toNat 59=59:=rfl
  (sym=>(simp[Za,Zb,Zf,Zh,Zl,Zm,Zv,Z3,Z6,Z7,Z9,ZG,ZY,ZZ,Yl,Ym,Yp,Yq,Y7,YN,YP,YX,Xr,XJ,We,WB,WC,WK,WO,WP,WR,WS,Vv,V9,VA,VC,VD,VE,VF,VG,VJ,VK,VL,VM,VO,VT,VV,VY,Ua,Ud,Uf,Uh,Uu,Uz,U2,U3,U4,UD,UE,Th,Ti,Tk,Tt,Tu,Tv,Tw,Tz,T6,T7,Su,S9,n0,u1,u2,u3,u4,u5];all_goals tactic=>exact rfl))
 ·have u2:bZ .and .u64 (a:Int) (na:Int)=1024:=u2
  have u3:IntKind.u64.wrap 292731098164586357760=16029937058943083520:=by decide
  have u4:(16029937058943083520:Int).fdiv (2^min (Int.toNat 58) IntKind.u64.bits)=55:=by decide
  have u5:Int.toNat 55=55:=rfl
  (sym=>(simp[Za,Zb,Zf,Zh,Zl,Zm,Zv,Z3,Z6,Z7,Z9,ZG,ZY,ZZ,Yl,Ym,Yp,Yq,YP,YX,Xr,XJ,We,WB,WC,WK,WO,WP,WR,WS,Vv,V9,VA,VC,VD,VE,VF,VG,VJ,VK,VL,VM,VO,VT,VV,VY,Ua,Ud,Uf,Uh,Uu,Uz,U2,U3,U4,UD,UE,Th,Ti,Tk,Tt,Tu,Tv,Tw,Tz,T6,T7,Su,Sy,S9,n0,u1,u2,u3,u4,u5];all_goals tactic=>exact rfl))
 ·have u2:bZ .and .u64 (a:Int) (na:Int)=2048:=u2
  have u3:IntKind.u64.wrap 585462196329172715520=13613130044176615424:=by decide
  have u4:(13613130044176615424:Int).fdiv (2^min (Int.toNat 58) IntKind.u64.bits)=47:=by decide
  have u5:Int.toNat 47=47:=rfl
  (sym=>(simp[Za,Zb,Zf,Zh,Zl,Zm,Zv,Z3,Z6,Z7,Z9,ZG,ZY,ZZ,Yl,Ym,Yp,Yq,YP,YX,Xr,XJ,We,WB,WC,WK,WO,WP,WR,WS,Vv,V9,VA,VC,VD,VE,VF,VG,VJ,VK,VL,VM,VO,VT,VV,VY,Ua,Ud,Uf,Uh,Uu,Uz,U2,U3,U4,UD,UE,Th,Ti,Tk,Tt,Tu,Tv,Tw,Tz,T6,T7,Su,Sz,S9,n0,u1,u2,u3,u4,u5];all_goals tactic=>exact rfl))
 ·have u2:bZ .and .u64 (a:Int) (na:Int)=4096:=u2
  have u3:IntKind.u64.wrap 1170924392658345431040=8779516014643679232:=by decide
  have u4:(8779516014643679232:Int).fdiv (2^min (Int.toNat 58) IntKind.u64.bits)=30:=by decide
  have u5:Int.toNat 30=30:=rfl
  (sym=>(simp[Za,Zb,Zf,Zh,Zl,Zm,Zv,Z3,Z6,Z7,Z9,ZG,ZY,ZZ,Yl,Ym,Yp,Yq,YP,YX,Xr,XJ,We,WB,WC,WK,WO,WP,WR,WS,Vv,V9,VA,VC,VD,VE,VF,VG,VJ,VK,VL,VM,VO,VT,VV,VY,Ua,Ud,Uf,Uh,Uu,Uz,U2,U3,U4,UD,UE,Th,Ti,Tk,Tt,Tu,Tv,Tw,Tz,T6,T7,Su,S2,S9,n0,u1,u2,u3,u4,u5];all_goals tactic=>exact rfl))
 ·have u2:bZ .and .u64 (a:Int) (na:Int)=8192:=u2
  have u3:IntKind.u64.wrap 2341848785316690862080=17559032029287358464:=by decide
  have u4:(17559032029287358464:Int).fdiv (2^min (Int.toNat 58) IntKind.u64.bits)=60:=by decide
  have u5:Int.toNat 60=60:=rfl
  (sym=>(simp[Za,Zb,Zf,Zh,Zl,Zm,Zv,Z3,Z6,Z7,Z9,ZG,ZY,ZZ,Yl,Ym,Yp,Yq,YP,YX,Xr,XJ,We,WB,WC,WK,WO,WP,WR,WS,Vv,V9,VA,VC,VD,VE,VF,VG,VJ,VK,VL,VM,VO,VT,VV,VY,Ua,Ud,Uf,Uh,Uu,Uz,U2,U3,U4,UD,UE,Th,Ti,Tk,Tt,Tu,Tv,Tw,Tz,T6,T7,Su,S3,S9,n0,u1,u2,u3,u4,u5];all_goals tactic=>exact rfl))
 ·have u2:bZ .and .u64 (a:Int) (na:Int)=16384:=u2
  have u3:IntKind.u64.wrap 4683697570633381724160=16671319984865165312:=by decide
  have u4:(16671319984865165312:Int).fdiv (2^min (Int.toNat 58) IntKind.u64.bits)=57:=by decide
  have u5:Int.toNat 57=57:=rfl
  (sym=>(simp[Za,Zb,Zf,Zh,Zl,Zm,Zv,Z3,Z6,Z7,Z9,ZG,ZY,ZZ,Yl,Ym,Yp,Yq,YP,YX,Xr,XJ,We,WB,WC,WK,WO,WP,WR,WS,Vv,V9,VA,VC,VD,VE,VF,VG,VJ,VK,VL,VM,VO,VT,VV,VY,Ua,Ud,Uf,Uh,Uu,Uz,U2,U3,U4,UD,UE,Th,Ti,Tk,Tt,Tu,Tv,Tw,Tz,T6,T7,Su,S4,S9,n0,u1,u2,u3,u4,u5];all_goals tactic=>exact rfl))
 ·have u2:bZ .and .u64 (a:Int) (na:Int)=32768:=u2
  have u3:IntKind.u64.wrap 9367395141266763448320=14895895896020779008:=by decide
  have u4:(14895895896020779008:Int).fdiv (2^min (Int.toNat 58) IntKind.u64.bits)=51:=by decide
  have u5:Int.toNat 51=51:=rfl
  (sym=>(simp[Za,Zb,Zf,Zh,Zl,Zm,Zv,Z3,Z6,Z7,Z9,ZG,ZY,ZZ,Yl,Ym,Yp,Yq,YP,YX,Xr,XJ,We,WB,WC,WK,WO,WP,WR,WS,Vv,V9,VA,VC,VD,VE,VF,VG,VJ,VK,VL,VM,VO,VT,VV,VY,Ua,Ud,Uf,Uh,Uu,Uz,U2,U3,U4,UD,UE,Th,Ti,Tk,Tt,Tu,Tv,Tw,Tz,T6,T7,Su,S5,S9,n0,u1,u2,u3,u4,u5];all_goals tactic=>exact rfl))
theorem w87 {a:Nat} (ha:a<65536) (h0:a≠0):runW aA 87 [U a] []=some (I (qM a:Nat),[]):=by
 have e:=w91 ha h0
 rw[r87 (by simp)];unfold x87;dsimp only
 (sym=>(simp[Za,Zb,Zf,Zh,Zl,Zv,ZO,ZP,ZT,ZU,YX,Xr,XJ,We,WA,WB,WK,WN,WO,WP,WR,WS,WU,WV,Vi,Vj,Vk,Vv,V9,VA,VC,VD,VE,VF,VG,VJ,VK,VL,VM,VO,VT,VV,VY,VZ,Ua,Uc,Ud,Uf,Uh,U2,U3,U4,U5,U6,UD,UE,Tu,Tv,Tw,Tz,T6,T7,Su,e];all_goals tactic=>exact rfl))
def sO (a:Nat):Nat→Nat
 | 0=>a
 | i+1=>sO a i&&&(sO a i-1)
theorem sL {a:Nat} (ha:a<65536):∀ i,sO a i<65536
 | 0=>ha
 | i+1=>by rw[sO];exact Nat.lt_of_le_of_lt Nat.and_le_left (sL ha i)
theorem aCc {a:Nat} (ha:a<65536):∀ i,el (sO a i)=(el a).drop i
 | 0=>rfl
 | i+1=>by
   have ih:=aCc ha i
   rw[sO]
   by_cases h0:sO a i=0
   ·rw[h0]at ih ⊢
    have e0:el 0=[]:=rfl
    rw[show (0&&&(0-1))=0 from rfl,e0]
    rw[e0]at ih
    have:=congrArg List.length ih
    rw[List.length_nil,List.length_drop]at this
    exact(List.drop_eq_nil_of_le (by omega)).symm
   ·rw[uE (sL ha i) h0]at ih
    rw[←List.drop_drop,←ih]
    rfl
theorem aGf {a:Nat} (ha:a<65536) {i:Nat} (hi:i<(el a).length):sO a i≠0∧(el a)[i]?=some (qM (sO a i)):=by
 have h:=aCc ha i
 have h0:sO a i≠0:=fun hc=>by
  rw[hc,show el 0=[] from rfl]at h
  have:=congrArg List.length h
  rw[List.length_nil,List.length_drop]at this
  omega
 refine⟨h0,?_⟩
 rw[uE (sL ha i) h0]at h
 have:=congrArg (fun l=>l[0]?) h
 simpa using this.symm
theorem aDb {a:Nat} (ha:a<65536):sO a (el a).length=0:=by
 have h:=aCc ha (el a).length
 rw[List.drop_length]at h
 exact(aON (sL ha _)).1 h
abbrev cI (a:Nat):Option XB:=some (.blk true (.cells true [I a]))
structure aEc (n:Nat) (H:XH):Prop where
 hat:∀ a,hat (H++[cI a]) n=cI a
 set:∀ a b,(H++[cI a]).set n (cI b)=H++[cI b]
 len:∀ a,(H++[cI a]).length=n+1
 head:∀ (a:Nat) (e:aH),e 0 = .fn (.yield 0) [] []→e 1 = .pt n 0→aV (n+1) [0,1] (some (.normal,e,H++[cI a]))=some ([.fn (.yield 0) [] [],.pt n 0],H++[cI a])
 fin:∀ a,iB false (n+1) (.tup []) (H++[cI a])=(.tup [],H++[cI a])
def Yd (H H':XH) (v:Nat) (b:Bool):Prop:=∀ a:Nat,eE (runW aA) (runYW aA) (.fn (.yield 0) [] []) [I v] (H++[cI a])=some (.bool b,H'++[cI a])
theorem aGV {n:Nat} {H H':XH} (g:aEc n H) (g':aEc n H') {a:Nat} (ha:a<65536) (h0:a≠0) (hy:Yd H H' (qM a) true) :
 aV (n+1) [0,1] (execW aA 86 (n+1) none (match uM with | .loop _ a=>a|c=>c) (aS [0,1] [.fn (.yield 0) [] [],.pt n 0]) (H++[cI a]))=some ([.fn (.yield 0) [] [],.pt n 0],H'++[cI (a&&&(a-1))]):=by
 have h1:=g.hat a
 have h2:=g'.hat a
 have h3:=g'.set a
 have h4:=hy a
 have t:=w87 ha h0
 have n0:((a:Int)=0)=False:=eq_false (by omega)
 have u1:IntKind.i64.wrap ((a:Int)-1)=((a-1:Nat):Int):=by
  rw[show (a:Int)-1=((a-1:Nat):Int) by omega];exact hG cN (by omega)
 have u2:=nK cN (a:=a) (b:=a-1) (by omega) (by omega)
 have u3:=hG aDf (a:=a) (by omega)
 have hd:=g'.head (a&&&(a-1))
 unfold uM
 dsimp only
 sym =>
  simp[Za,Zb,Zc,Zf,Zh,Zl,Zm,Zv,Z3,Z5,Z7,ZG,ZK,ZL,ZO,ZP,ZT,ZU,ZX,ZZ,Yk,Ym,Yr,YX,Xi,Xr,Wq,W4,W5,W7,W9,WA,WC,WK,WN,WP,WU,WV,Vi,Vj,Vk,VQ,VT,VU,VV,VZ,Ua,Uc,Ud,Ug,Uh,Um,Uq,Ur,Uu,Uz,U2,U3,U4,U5,U6,U7,U8,UF,Tf,Tg,Tk,Tl,Tm,Tt,Tu,Tw,Ty,Tz,T2,T6,T7,TH,h1,h2,t,h4,n0,u1,u2,u3,h3]
  tactic=>exact hd _ rfl rfl
theorem qW {n:Nat} {G:Nat→XH} {a:Nat} (ha:a<65536) (g:∀ i,i≤(el a).length→aEc n (G i)) (hy:∀ i v,(el a)[i]?=some v→Yd (G i) (G (i+1)) v true) :
 runW aA 86 [.fn (.yield 0) [] [],.pt n 0] (G 0++[cI a])=some (.tup [],G (el a).length++[cI 0]):=by
 have l0:=(g 0 (by omega)).len a
 have g1:=g (el a).length (by omega)
 have h1:hat (G (el a).length++[some (.blk true (.cells true [.int .i64 0]))]) n=some (.blk true (.cells true [.int .i64 0])):=g1.hat 0
 have hf:iB false (n+1) (.tup []) (G (el a).length++[some (.blk true (.cells true [.int .i64 0]))])=(.tup [],G (el a).length++[some (.blk true (.cells true [.int .i64 0]))]):=g1.fin 0
 have c0:=aDb ha
 rw[r86 (by simp)];unfold x86;dsimp only
 rw[l0]
 unfold uM
 sym =>
  simp[Y9,Wl,Wp,VY,UD,UE,Ty]
  tactic =>
   rw[aD (el a).length (fun _=>[.fn (.yield 0) [] [],.pt n 0]) (fun i=>G i++[cI (sO a i)])]
   ·rw[c0]
    (sym=>(simp[Za,Zb,Zf,Zh,Zl,Zm,Z3,ZG,Yr,Y9,W4,W5,WC,V8,VA,VF,VH,VJ,VQ,VT,VV,Uq,Uy,Tf,Tg,Tk,Tt,Tu,Tx,Tz,T0,T4,T6,T7,h1,hf];all_goals tactic=>exact rfl))
   ·exact(g 0 (by omega)).head a _ rfl rfl
   ·intro i hi
    obtain⟨p1,p2⟩:=aGf ha hi
    exact aGV (g i (by omega)) (g (i+1) (by omega)) (sL ha i) p1 (hy i _ p2)
   ·rw[c0]
    (sym=>(simp[Za,Zb,Zf,Zh,Zl,Zm,Z3,ZG,Yr,Y9,W4,W5,WC,VQ,VT,VV,VW,Uq,Uy,Tf,Tg,Tk,Tt,Tu,Tx,Tz,T0,T6,T7,h1];all_goals tactic=>exact rfl))
structure yN (n:Nat) (M K:Nat→XH):Prop where
 hat:∀ a,hat (M a) n=cI a
 set:∀ a b,(M a).set n (cI b)=M b
 head:∀ (a:Nat) (e:aH),e 0 = .fn (.yield 0) [] []→e 1 = .pt n 0→aV (n+1) [0,1] (some (.normal,e,M a))=some ([.fn (.yield 0) [] [],.pt n 0],K a)
def YdF (K K':Nat→XH) (v:Nat) (b:Bool):Prop:=∀ a:Nat,eE (runW aA) (runYW aA) (.fn (.yield 0) [] []) [I v] (K a)=some (.bool b,K' a)
theorem aIN {n:Nat} {K M K':Nat→XH} {a:Nat} (h1:hat (K a) n=cI a) (g':yN n M K') (ha:a<65536) (h0:a≠0) (hy:YdF K M (qM a) true) :
 aV (n+1) [0,1] (execW aA 86 (n+1) none (match uM with | .loop _ a=>a|c=>c) (aS [0,1] [.fn (.yield 0) [] [],.pt n 0]) (K a))=some ([.fn (.yield 0) [] [],.pt n 0],K' (a&&&(a-1))):=by
 have h2:=g'.hat a
 have h3:=g'.set a
 have h4:=hy a
 have t:=w87 ha h0
 have n0:((a:Int)=0)=False:=eq_false (by omega)
 have u1:IntKind.i64.wrap ((a:Int)-1)=((a-1:Nat):Int):=by
  rw[show (a:Int)-1=((a-1:Nat):Int) by omega];exact hG cN (by omega)
 have u2:=nK cN (a:=a) (b:=a-1) (by omega) (by omega)
 have u3:=hG aDf (a:=a) (by omega)
 have hd:=g'.head (a&&&(a-1))
 unfold uM
 dsimp only
 sym =>
  simp[Za,Zb,Zc,Zf,Zh,Zl,Zm,Zv,Z3,Z5,Z7,ZG,ZK,ZL,ZO,ZP,ZT,ZU,ZX,ZZ,Yk,Ym,Yr,YX,Xi,Xr,Wq,W4,W5,W7,W9,WA,WC,WK,WN,WP,WU,WV,Vi,Vj,Vk,VQ,VT,VU,VV,VZ,Ua,Uc,Ud,Ug,Uh,Um,Uq,Ur,Uu,Uz,U2,U3,U4,U5,U6,U7,U8,UF,Tf,Tg,Tk,Tl,Tm,Tt,Tu,Tw,Ty,Tz,T2,T6,T7,h1,h2,t,h4,n0,u1,u2,u3,h3]
  tactic=>exact hd _ rfl rfl
theorem aKQ {n:Nat} {G:Nat→Nat→XH} {a:Nat} {X:XH} (ha:a<65536) (l0:(G 0 a).length=n+1) (g0:yN n (G 0) (G 0)) (gh:∀ i,i≤(el a).length→∀ a,hat (G i a) n=cI a) (hf:iB false (n+1) (.tup []) (G (el a).length 0)=(.tup [],X)) (hy:∀ i v,(el a)[i]?=some v→∃ M,YdF (G i) M v true∧yN n M (G (i+1))) :
 runW aA 86 [.fn (.yield 0) [] [],.pt n 0] (G 0 a)=some (.tup [],X):=by
 have h1:=gh (el a).length (by omega) 0
 have h1:hat (G (el a).length 0) n=some (.blk true (.cells true [.int .i64 0])):=h1
 have c0:=aDb ha
 rw[r86 (by simp)];unfold x86;dsimp only
 rw[l0]
 unfold uM
 sym =>
  simp[Wl,Wp,VY,UD,UE,Ty]
  tactic =>
   rw[aD (el a).length (fun _=>[.fn (.yield 0) [] [],.pt n 0]) (fun i=>G i (sO a i))]
   ·rw[c0]
    (sym=>(simp[Za,Zb,Zf,Zh,Zl,Zm,Z3,ZG,Yr,W4,W5,WC,V8,VA,VF,VH,VJ,VQ,VT,VV,Uq,Uy,Tf,Tg,Tk,Tt,Tu,Tx,Tz,T0,T4,T6,T7,h1,hf];all_goals tactic=>exact rfl))
   ·exact g0.head a _ rfl rfl
   ·intro i hi
    obtain⟨p1,p2⟩:=aGf ha hi
    obtain⟨M,m1,m2⟩:=hy i _ p2
    exact aIN (gh i (by omega) _) m2 (sL ha i) p1 m1
   ·rw[c0]
    (sym=>(simp[Za,Zb,Zf,Zh,Zl,Zm,Z3,ZG,Yr,W4,W5,WC,VQ,VT,VV,VW,Uq,Uy,Tf,Tg,Tk,Tt,Tu,Tx,Tz,T0,T6,T7,h1];all_goals tactic=>exact rfl))
def cQ (ks:List Nat):List Int:=ks.map fun k:Nat=>(k:Int)
theorem zQ (a:Nat):(el a).length≤16:=by
 have:=List.length_filter_le (fun i=>a.testBit i) (List.range 16)
 simpa [el]using this
theorem fO {ks:List Nat} {i v:Nat} (h:ks[i]?=some v):(cQ ks)[i]?=some (v:Int):=by
 unfold cQ
 rw[List.getElem?_map,h];rfl
theorem bR (ks:List Nat):(cQ ks).length=ks.length:=by simp[cQ]
abbrev gCn (a:Nat):XH:=[some (.loop 85 0 [.pt 1 0] .ready),some (.blk true (.cells true [.nilsl])),cI a]
abbrev gCc (x:Int) (r:List Int) (a:Nat):XH:=[some (.loop 85 0 [.pt 1 0] .ready),some (.blk false (.cells true [.sl 3 0 1 (r.length+1)])),cI a,some (.blk true (.cells true (I x::r.map I)))]
abbrev gCm (x:Int) (r:List Int) (a:Nat):XH:=[some (.loop 85 0 [.pt 1 0] .ready),some (.blk false (.cells true [.sl 4 0 1 (r.length+1)])),cI a,none,some (.blk true (.cells true (I x::r.map I)))]
def gC:List Int→Nat→XH
 | []=>gCn
 | x::r=>gCc x r
theorem aJh:yN 2 gCn gCn:=by
 refine⟨fun _=>rfl,fun _ _=>rfl,?_⟩
 intro a e h0 h1
 (sym=>(simp[Xd,Xh,Xx,XI,WE,WI,WK,WM,WO,WP,WQ,WR,WS,WY,WZ,Vc,Ve,Vf,Vh,VR,VS,VZ,Ua,Ub,Uc,Ud,Ue,Uf,Ux,U2,U3,U4,U5,U6,T5,h0,h1];all_goals tactic=>exact rfl))
theorem aJj (x:Int) (r:List Int):yN 2 (gCc x r) (gCc x r):=by
 refine⟨fun _=>rfl,fun _ _=>rfl,?_⟩
 intro a e h0 h1
 (sym=>(simp[Xc,Xd,Xh,Xw,Xx,XI,W3,WE,WH,WI,WK,WL,WM,WO,WQ,WR,WS,WT,WY,WZ,Vb,Vc,Ve,Vf,Vg,Vh,VR,VS,VZ,Ua,Ub,Uc,Ud,Ue,Uf,Uk,Ux,U3,U4,U5,U6,T5,h0,h1];all_goals tactic=>exact rfl))
theorem aJi (x:Int) (r:List Int):yN 2 (gCm x r) (gCc x r):=by
 refine⟨fun _=>rfl,fun _ _=>rfl,?_⟩
 intro a e h0 h1
 (sym=>(simp[Xc,Xd,Xh,Xw,Xx,XI,W3,WE,WH,WI,WK,WL,WM,WO,WQ,WR,WS,WT,WY,WZ,Vb,Vc,Ve,Vf,Vg,Vh,VR,VS,VZ,Ua,Ub,Uc,Ud,Ue,Uf,Uk,Ux,U3,U4,U5,U6,T5,h0,h1];all_goals tactic=>exact rfl))
theorem yCn (v:Nat):YdF gCn (gCc (v:Int) []) v true:=by
 have y:runYW aA (.fn (.yield 0) [] []) [I (v:Nat)] [some (.loop 85 0 [.pt 1 0] .ready),some (.blk true (.cells true [.nilsl]))]=some (.bool true,[some (.loop 85 0 [.pt 1 0] .ready),some (.blk false (.cells true [.sl 2 0 1 1])),some (.blk true (.cells true [I (v:Nat)]))]):=by
  rw[jG (K:=85) (d:=x85) (site:=0) (vs:=[.pt 1 0]) rfl rfl (by rfl) rfl]
  (sym=>(simp[Za,Zb,Zc,Zd,Ze,Zf,Zg,Zh,Zj,Zl,Zm,Zo,Zv,Z1,ZG,ZK,ZL,ZS,YY,Xc,Xd,Xi,Xm,Xs,Xw,Xx,XJ,We,Wq,Wu,W3,W4,W5,W6,W7,W8,W9,WA,WC,WE,WH,WI,WK,WL,WM,WO,WQ,WR,WS,WT,WY,WZ,Vb,Vc,Ve,Vf,Vg,Vh,Vv,Vx,Vy,Vz,VB,VE,VQ,VZ,Ua,Ub,Uc,Ud,Ue,Uf,Ug,Uh,Uk,Um,Uo,Uu,Ux,U0,U1,U3,U4,U5,U6,U7,U8,UF,UG,UH,UI,UQ,UR,UU,UV,UW,UX,UY,UZ,Ta,Tb,Tf,Tg,Tk,Tl,Tm,Tn,Tq,Tr,Ts,Ty,T2,T6,TP,TY,TZ,Sa,Sb,Sk,Sl,Sm,Sn,Su,SB,SC,SE,SF,SG,SI];all_goals tactic=>exact rfl))
 intro a
 (sym=>(simp[YX,Xd,Xh,Xr,Xs,Xw,Xx,XI,W3,W6,W9,WC,WE,WF,WG,WH,WJ,WK,WL,WM,WN,WQ,WU,WV,WW,WY,WZ,Vb,Vc,Vf,Vh,Vi,Vj,Vk,Vl,VZ,Ua,Ub,Uc,Ud,Ug,Uh,Uk,Ux,U3,U4,U5,U6,Sj,y];all_goals tactic=>exact rfl))
theorem yCc (v:Nat) (x:Int) (r:List Int) (hr:r.length≤20):YdF (gCc x r) (gCm x (r++[(v:Int)])) v true:=by
 have b1:((r.length+1+1)*8≤1099511627776)=True:=eq_true (by omega)
 have b2:(r.length+1+1≤1099511627776)=True:=eq_true (by omega)
 have y:runYW aA (.fn (.yield 0) [] []) [I (v:Nat)] [some (.loop 85 0 [.pt 1 0] .ready),some (.blk false (.cells true [.sl 2 0 1 (r.length+1)])),some (.blk true (.cells true (I x::r.map I)))]=some (.bool true,[some (.loop 85 0 [.pt 1 0] .ready),some (.blk false (.cells true [.sl 3 0 1 (r.length+1+1)])),none,some (.blk true (.cells true (I x::(r.map I++[I (v:Nat)]))))]):=by
  rw[jG (K:=85) (d:=x85) (site:=0) (vs:=[.pt 1 0]) rfl rfl (by rfl) rfl]
  (sym=>(simp[Za,Zb,Zc,Zd,Ze,Zf,Zg,Zh,Zj,Zl,Zm,Zo,Zv,Z1,ZG,ZK,ZL,ZS,YY,Xc,Xd,Xi,Xm,Xs,Xw,Xx,XJ,We,Wq,Wu,W3,W4,W5,W6,W7,W8,W9,WA,WC,WE,WH,WI,WK,WL,WM,WO,WQ,WR,WS,WT,WX,WY,WZ,Vb,Vc,Vd,Ve,Vf,Vg,Vh,Vv,Vx,Vy,Vz,VB,VE,VQ,VZ,Ua,Ub,Uc,Ud,Ue,Uf,Ug,Uh,Ui,Uk,Um,Uo,Uu,Ux,U0,U1,U3,U4,U5,U6,U7,U8,UF,UG,UH,UI,UQ,UR,UU,UV,UW,UX,UY,UZ,Ta,Tc,Td,Tf,Tg,Tk,Tl,Tm,Tn,Tp,Tq,Tr,Ty,T2,T6,TI,TP,TY,TZ,Sa,Sb,Sk,Sl,Sm,Sn,Su,SB,SC,SE,SF,SG,SI,b1,b2];all_goals tactic=>exact rfl))
 intro a
 (sym=>(simp[YX,Xc,Xd,Xh,Xr,Xs,Xw,Xx,XI,W3,W6,W9,WC,WE,WF,WG,WH,WJ,WK,WL,WM,WN,WQ,WU,WV,WW,WX,WY,WZ,Vb,Vc,Vf,Vg,Vh,Vi,Vj,Vk,Vl,VZ,Ua,Ub,Uc,Ud,Ug,Uh,Uk,Ux,U3,U4,U5,U6,TG,TH,Sj,y];all_goals tactic=>exact rfl))
theorem aJl (os:List Int):iB false 3 (.tup []) (gC os 0)=(.tup [],gC os 0):=by
 cases os with
 | nil=>unfold gC; (sym=>(simp[Za,Y9,Xa,Xd,Xu,Xx,XM,Wh,WE,WI,WK,WM,WO,WP,WQ,WR,WS,WY,WZ,Vc,Ve,Vf,Vh,Vv,VC,VD,VE,VZ,Ua,Uc,Ud,Ue,Uf,Ux,U2,U3,U4,U5,U6,U9,UD,Su];all_goals tactic=>exact rfl))
 | cons x r=>unfold gC; (sym=>(simp[Za,Y9,Xa,Xc,Xd,Xu,Xw,Xx,XM,Wh,W3,WE,WH,WI,WK,WL,WM,WO,WQ,WR,WS,WT,WY,WZ,Vb,Vc,Ve,Vf,Vg,Vh,Vv,VC,VD,VE,VZ,Ua,Ub,Uc,Ud,Ue,Uf,Uk,Ux,U3,U4,U5,U6,U9,UD,Su];all_goals tactic=>exact rfl))
theorem w85 {a:Nat} (ha:a<65536):runW aA 85 [.nilsl,.fn (.func 86) [] [.pt 0 0]] [cI a]=some (nL (cQ (el a)),[some (.blk true (.cells true [.int .i64 0]))]):=by
 have e:=aKQ (n:=2) (G:=fun i=>gC (cQ ((el a).take i))) (X:=gC (cQ (el a)) 0) ha rfl aJh
  (by intro i _ c;cases cQ ((el a).take i)<;>rfl)
  (by
   show iB false 3 (.tup []) (gC (cQ ((el a).take (el a).length)) 0)=_
   rw[List.take_length]
   exact aJl _)
  (by
   intro i v hv
   have e1:cQ ((el a).take (i+1))=cQ ((el a).take i)++[(v:Int)]:=by
    rw[List.take_add_one,hv]
    simp[cQ]
   have hl:=bR ((el a).take i)
   have hl2:=zQ a
   rw[List.length_take]at hl
   rw[e1]
   generalize cQ ((el a).take i)=os at *
   rcases os with _|⟨x,r⟩
   ·exact⟨_,yCn v,aJj _ _⟩
   ·exact⟨_,yCc v x r (by simp at hl;omega),aJi _ _⟩)
 have e:runW aA 86 [.fn (.yield 0) [] [],.pt 2 0] [some (.loop 85 0 [.pt 1 0] .ready),some (.blk true (.cells true [.nilsl])),cI a]=some (.tup [],gC (cQ (el a)) 0):=e
 generalize cQ (el a)=os at *
 rw[r85 (by simp)];unfold x85;dsimp only
 rcases os with _|⟨x,r⟩
 ·have e:runW aA 86 [.fn (.yield 0) [] [],.pt 2 0] [some (.loop 85 0 [.pt 1 0] .ready),some (.blk true (.cells true [.nilsl])),cI a]=some (.tup [],[some (.loop 85 0 [.pt 1 0] .ready),some (.blk true (.cells true [.nilsl])),some (.blk true (.cells true [.int .i64 0]))]):=e
  (sym=>(simp[Za,Zb,Zf,Zh,Zl,Zm,Zo,Zv,Zz,ZG,ZT,ZU,Xb,Xd,Xh,Xo,Xu,Xv,Xx,XI,XQ,Wm,Ww,W3,W4,W5,W6,W9,WA,WB,WC,WE,WF,WG,WH,WJ,WK,WL,WM,WN,WO,WP,WQ,WR,WS,WU,WV,WW,WY,WZ,Vc,Ve,Vf,Vh,Vi,Vj,Vk,Vl,Vv,V9,VA,VC,VD,VE,VF,VG,VJ,VK,VL,VM,VO,VZ,Ua,Ub,Uc,Ud,Ue,Uf,Ug,Uh,Uk,Um,Ux,U2,U3,U4,U5,U6,US,UT,Tf,Tg,Tk,Tn,Tu,Tv,Ty,Tz,T2,T6,T7,TY,TZ,Sc,Sd,Se,Sf,Sg,Si,Su,e];all_goals tactic=>exact rfl))
 ·have e:runW aA 86 [.fn (.yield 0) [] [],.pt 2 0] [some (.loop 85 0 [.pt 1 0] .ready),some (.blk true (.cells true [.nilsl])),cI a]=some (.tup [],[some (.loop 85 0 [.pt 1 0] .ready),some (.blk false (.cells true [.sl 3 0 1 (r.length+1)])),some (.blk true (.cells true [.int .i64 0])),some (.blk true (.cells true (I x::r.map I)))]):=e
  (sym=>(simp[Za,Zb,Zf,Zh,Zl,Zm,Zo,Zv,Zz,ZG,ZT,ZU,Xb,Xd,Xh,Xl,Xo,Xu,Xv,Xw,Xx,XI,XO,Wb,Wi,Ww,W3,W4,W5,W6,W9,WB,WC,WE,WF,WG,WH,WJ,WK,WL,WM,WN,WO,WQ,WR,WS,WU,WV,WW,WY,WZ,Vb,Vc,Ve,Vf,Vh,Vi,Vj,Vk,Vl,Vs,Vt,Vu,Vv,Vw,V4,V5,V6,V7,V9,VA,VC,VD,VE,VF,VG,VJ,VK,VL,VM,VO,VZ,Ua,Ub,Uc,Ud,Ue,Uf,Ug,Uh,Ui,Uk,Um,Uu,Ux,U3,U4,U5,U6,U7,U8,UB,UC,US,UT,Tf,Tg,Tk,Tn,Tu,Tv,Ty,Tz,T2,T6,T7,TI,TJ,TL,TW,TY,TZ,Sc,Sd,Se,Sf,Sg,Si,Su,Sv,Sw,e];all_goals tactic=>exact rfl))
theorem w79 {a:Nat} (ha:a<65536):runW aA 79 [.fn (.func 86) [] [.pt 0 0]] [cI a]=some (nL (cQ (el a)),[some (.blk true (.cells true [.int .i64 0]))]):=by
 have e:=w85 ha
 generalize cQ (el a)=os at *
 rw[r79 (by simp)];unfold x79;dsimp only
 (sym=>(simp[Za,Zb,Zf,Zh,Zl,Zv,ZO,ZP,ZT,ZU,Xb,Xd,Xe,Xg,Xv,Xx,Xy,X0,XN,Wi,Wo,W3,W6,W9,WA,WB,WE,WG,WH,WK,WL,WM,WN,WO,WP,WQ,WR,WS,WU,WV,WW,WY,WZ,Ve,Vf,Vi,Vj,Vk,Vl,Vv,V9,VA,VC,VD,VE,VF,VG,VJ,VK,VL,VM,VO,VY,VZ,Ua,Uc,Ud,Ue,Uf,Ug,Uh,Ux,U2,U3,U4,U5,U6,UD,UE,Tu,Tv,Tz,T6,T7,Su,e];all_goals tactic=>exact rfl))
theorem w80 {a:Nat}:runW aA 80 [I a] []=some (.fn (.func 86) [] [.pt 0 0],[cI a]):=by
 rw[r80 (by simp)];unfold x80;dsimp only
 (sym=>(simp[Za,Zb,Zf,Zh,Zl,Zo,Zv,Zx,Zz,Xd,Xg,Xi,Xx,X0,XV,We,Wo,Wq,W3,WB,WE,WH,WI,WK,WL,WM,WO,WQ,WR,WS,WT,WY,WZ,Vf,Vv,V9,VA,VC,VD,VE,VF,VG,VJ,VK,VL,VM,VO,VY,VZ,Ua,Uc,Ud,Uf,Uh,Uk,Ux,U3,U4,U5,U6,UD,UE,US,UT,Tn,Tu,Tv,Tz,T6,T7,TK,Su];all_goals tactic=>exact rfl))
theorem w63 {a:Nat} (ha:a<65536):runW aA 63 [I a] []=some (nL (cQ (el a)),[]):=by
 have e:=w79 ha
 have e2:=w80 (a:=a)
 generalize cQ (el a)=os at *
 rw[r63 (by simp)];unfold x63;dsimp only
 (sym=>(simp[Za,Zb,Zf,Zg,Zh,Zj,Zl,Zv,ZO,ZP,ZT,ZU,YX,Xb,Xd,Xg,Xr,Xv,Xx,X0,XJ,XN,We,Wi,W3,W6,W9,WA,WB,WE,WG,WH,WJ,WK,WL,WM,WN,WO,WP,WQ,WR,WS,WU,WV,WW,WY,WZ,Vf,Vi,Vj,Vk,Vl,Vv,Vx,Vy,Vz,V9,VA,VC,VD,VE,VF,VG,VJ,VK,VL,VM,VO,VY,VZ,Ua,Uc,Ud,Uf,Ug,Uh,Ux,U2,U3,U4,U5,U6,UD,UE,Tu,Tv,Tz,T6,T7,Su,SB,SC,SE,SF,SG,SI,e,e2];all_goals tactic=>exact rfl))
structure Va where
 F:Int
 bs:List (Int×Int)
 ps:List (Int×Int×Int)
 sick:Int
 nur:Int
 fix:Int
abbrev rB (l:List (Int×Int)):AV:=.fs (l.map fun b=>[I b.1,I b.2])
abbrev rP (l:List (Int×Int×Int)):AV:=.fs (l.map fun p=>[I p.1,I p.2.1,I p.2.2])
abbrev Va.c (v:Va):List AV:=[I v.F,rB v.bs,rP v.ps,I v.sick,I v.nur,I v.fix]
def gH (F a b:Int):Int:=if btw 0 a (F-1)&&btw 0 b (F-1) then (if a=b then 22 else 0) else 5
theorem eO (F a b:Int):(btw 0 a (F-1)=false∧gH F a b=5)∨(btw 0 a (F-1)=true∧btw 0 b (F-1)=false∧gH F a b=5) ∨
 (btw 0 a (F-1)=true∧btw 0 b (F-1)=true∧(a=b)=True∧gH F a b=22)∨(btw 0 a (F-1)=true∧btw 0 b (F-1)=true∧(a=b)=False∧gH F a b=0):=by
 unfold gH
 cases btw 0 a (F-1)
 ·simp
 cases btw 0 b (F-1)
 ·simp
 by_cases h:a=b
 ·simp[h]
 ·simp[h]
theorem w53 (v:Va) (hF:1≤v.F∧v.F≤16) (a b:Int):runW aA 53 [.agg v.c,I a,I b] []=some (I (gH v.F a b),[]):=by
 have u:IntKind.i64.wrap (v.F-1)=v.F-1:=aE (by omega) (by omega)
 have e1:=w45 0 a (v.F-1)
 have e2:=w45 0 b (v.F-1)
 rw[r53 (by simp)];unfold x53;dsimp only
 rcases eO v.F a b with ⟨h1,h⟩|⟨h1,h2,h⟩|⟨h1,h2,h3,h⟩|⟨h1,h2,h3,h⟩
 ·rw[h];rw[h1]at e1; (sym=>(simp[Za,Zb,Zf,Zh,Zl,Zm,Zo,Zp,Zt,Zv,Zy,Zz,Z3,Z5,Z8,ZG,ZO,ZP,ZT,ZU,ZV,ZX,Ya,Yk,YX,Xi,Xk,Xl,Xr,Xs,XJ,We,Wg,Wi,Ws,W3,W4,W5,WA,WB,WC,WK,WN,WO,WP,WQ,WR,WS,WU,WV,Vi,Vj,Vk,Vv,V9,VA,VC,VD,VE,VF,VG,VJ,VK,VL,VM,VO,VT,VU,VY,VZ,Ua,Uc,Ud,Uf,Ug,Uh,Um,Ur,U2,U3,U4,U5,U6,U7,U8,UD,UE,US,UT,Tf,Tg,Tk,Tn,Tt,Tu,Tv,Ty,Tz,T1,T3,T6,T7,Su,u,e1];all_goals tactic=>exact rfl))
 ·rw[h];rw[h1]at e1;rw[h2]at e2; (sym=>(simp[Za,Zb,Zf,Zh,Zl,Zm,Zo,Zp,Zr,Zv,Zy,Zz,Z3,Z5,Z8,ZG,ZO,ZP,ZT,ZU,ZW,ZX,Ya,Yk,YX,Xi,Xk,Xl,Xr,Xs,XJ,We,Wg,Wi,Ws,W3,W4,W5,WA,WB,WC,WK,WN,WO,WP,WQ,WR,WS,WU,WV,Vi,Vj,Vk,Vv,V9,VA,VC,VD,VE,VF,VG,VJ,VK,VL,VM,VO,VT,VU,VY,VZ,Ua,Uc,Ud,Uf,Ug,Uh,Um,Uq,Ur,U2,U3,U4,U5,U6,U7,U8,UD,UE,US,UT,Tf,Tg,Tk,Tn,Tt,Tu,Tv,Ty,Tz,T1,T3,T6,T7,Su,u,e1,e2];all_goals tactic=>exact rfl))
 ·rw[h];rw[h1]at e1;rw[h2]at e2; (sym=>(simp[Za,Zb,Zf,Zh,Zl,Zm,Zo,Zp,Zr,Zv,Zy,Zz,Z3,Z5,Z8,ZG,ZO,ZP,ZT,ZU,ZW,ZX,Ya,Yk,Yq,YX,Xi,Xk,Xl,Xr,Xs,XJ,We,Wg,Wi,Ws,W3,W4,W5,WA,WB,WC,WK,WN,WO,WP,WQ,WR,WS,WU,WV,Vi,Vj,Vk,Vv,V9,VA,VC,VD,VE,VF,VG,VJ,VK,VL,VM,VO,VT,VU,VV,VY,VZ,Ua,Uc,Ud,Uf,Ug,Uh,Um,Uq,Uy,U2,U3,U4,U5,U6,U7,U8,UD,UE,US,UT,Tf,Tg,Tk,Tn,Tt,Tu,Tv,Ty,Tz,T1,T3,T6,T7,Su,u,e1,e2,h3];all_goals tactic=>exact rfl))
 ·rw[h];rw[h1]at e1;rw[h2]at e2; (sym=>(simp[Za,Zb,Zf,Zh,Zl,Zm,Zo,Zp,Zr,Zv,Zy,Zz,Z3,Z5,Z8,ZG,ZO,ZP,ZT,ZU,ZW,ZX,Ya,Yk,Yq,YX,Xi,Xk,Xl,Xr,Xs,XJ,We,Wg,Wi,Ws,W3,W4,W5,WA,WB,WC,WK,WN,WO,WP,WQ,WR,WS,WU,WV,Vi,Vj,Vk,Vv,V9,VA,VC,VD,VE,VF,VG,VJ,VK,VL,VM,VO,VT,VV,VY,VZ,Ua,Uc,Ud,Uf,Ug,Uh,Um,Uq,Uz,U2,U3,U4,U5,U6,U7,U8,UD,UE,US,UT,Tf,Tg,Tk,Tn,Tt,Tu,Tv,Tw,Ty,Tz,T2,T6,T7,Su,u,e1,e2,h3];all_goals tactic=>exact rfl))
def bE (v:Va) (i:Nat):Int:=gH v.F (v.bs.getD i (0,0)).1 (v.bs.getD i (0,0)).2
def pE (v:Va) (i:Nat):Int:=if gH v.F (v.ps.getD i (0,0,0)).2.1 (v.ps.getD i (0,0,0)).2.2=0 then (if btw 0 (v.ps.getD i (0,0,0)).1 100 then 0 else 2) else gH v.F (v.ps.getD i (0,0,0)).2.1 (v.ps.getD i (0,0,0)).2.2
def Va.A (v:Va):Int:=2^v.F.toNat-1
def sE (v:Va):Int:=if btw 0 v.sick v.A&&(btw 0 v.nur v.A&&btw 0 v.fix v.A) then 0 else 2
def bsE (v:Va):Int:=if 60<v.bs.length then 1 else bJ (bE v) v.bs.length
def psE (v:Va):Int:=if 20<v.ps.length then 1 else bJ (pE v) v.ps.length
def vE (v:Va):Int:=if btw 1 v.F 16 then (if bsE v=0 then (if psE v=0 then sE v else psE v) else bsE v) else 2
theorem aDF {n:Int} (h:n≠0):(n=0)=False:=eq_false h
theorem aO {α:Type} {l:List α} {i:Nat} {x d:α} (h:l[i]?=some x):l.getD i d=x:=by rw[List.getD_eq_getElem?_getD,h];rfl
abbrev bx (v:Va):XH:=[some (.blk true (.cells true v.c))]
theorem uY (v:Va) (hF:1≤v.F∧v.F≤16) (hb:v.bs.length<1000000000) {i:Nat} (hi:i<v.bs.length) (h0:bE v i=0) :
 aV 0 [1,22,23,24] (execW aA 23 0 none (match pT with | .loop _ a=>a|c=>c) (aS [1,22,23,24] [.pt 0 0,rB v.bs,I v.bs.length,I (i:Nat)]) (bx v))=some ([.pt 0 0,rB v.bs,I v.bs.length,I (i+1:Nat)],bx v):=by
 obtain⟨x,hx⟩:=bK hi
 have a1:=cT hi
 have a2:=fD hi (by omega)
 have e:=w53 v hF x.1 x.2
 have e0:gH v.F x.1 x.2=0:=by unfold bE at h0;rw[aO hx]at h0;exact h0
 rw[e0]at e
 unfold pT
 dsimp only
 (sym=>(simp[Za,Zb,Zc,Zf,Zg,Zh,Zj,Zl,Zm,Zv,Zw,Z3,Z9,ZA,ZG,ZK,ZL,ZO,ZP,ZT,ZU,Yg,Yh,Yj,Yr,Ys,Yw,Yx,Y8,YA,YD,YO,YX,YZ,Xb,Xd,Xi,Xr,Xt,Xv,Xx,Ws,W3,W4,W5,W6,W7,W8,W9,WA,WC,WE,WH,WI,WK,WL,WM,WN,WO,WP,WQ,WR,WS,WT,WU,WV,WY,WZ,Vf,Vi,Vj,Vk,Vv,Vx,Vy,V0,V1,V3,VQ,VR,VS,VT,VU,VV,VZ,Ua,Ub,Uc,Ud,Uf,Ug,Uh,Ui,Uj,Uk,Um,Uq,Uu,Ux,Uy,U2,U3,U4,U5,U6,U7,U8,UF,Tf,Tg,Th,Ti,Tj,Tk,Tl,Tm,Tt,Tu,Tw,Ty,Tz,T2,T5,T6,T7,TK,SB,SC,SD,SF,SG,SI,a1,a2,hx,e];all_goals tactic=>exact rfl))
theorem aHN (v:Va) (hF:1≤v.F∧v.F≤16) {i:Nat} (hi:i<v.bs.length) (h0:bE v i≠0):∃ e h,
 execW aA 23 0 none (match pT with | .loop _ a=>a|c=>c) (aS [1,22,23,24] [.pt 0 0,rB v.bs,I v.bs.length,I (i:Nat)]) (bx v)=some (.ret,e,h)∧bD none x23.res x23.ownR 0 (some (.ret,e,h))=some (I (bE v i),[]):=by
 obtain⟨x,hx⟩:=bK hi
 have a1:=cT hi
 have e:=w53 v hF x.1 x.2
 have e0:gH v.F x.1 x.2=bE v i:=by unfold bE;rw[aO hx]
 have n0:=aDF h0
 rw[e0]at e
 refine bU ?_ ?_
 ·unfold pT
  dsimp only
  (sym=>(simp[Za,Zb,Zc,Zf,Zg,Zh,Zj,Zl,Zm,Zv,Zw,Z3,Z9,ZA,ZG,ZK,ZL,ZO,ZP,ZT,ZU,Yg,Yh,Yr,Ys,Yw,Yx,Y8,YA,YD,YO,YX,YZ,Xb,Xi,Xr,Xt,Xv,Ws,W3,W4,W5,W6,W7,W8,W9,WA,WC,WK,WN,WP,WU,WV,Vi,Vj,Vk,Vv,Vx,Vy,V0,V1,V3,VQ,VT,VU,VX,VZ,Ua,Ub,Uc,Ud,Ug,Uh,Ui,Uj,Uk,Um,Ur,Uu,Uy,Uz,U2,U3,U4,U5,U6,U7,U8,UF,Tf,Tg,Th,Ti,Tj,Tk,Tl,Tm,Tt,Tu,Tv,Tw,Ty,Tz,T1,T3,T6,T7,SB,SC,SD,SF,SG,SI,a1,hx,e,n0];all_goals tactic=>exact rfl))
 ·unfold pT
  dsimp only
  (sym=>(simp[Za,Zb,Zc,Zf,Zg,Zh,Zj,Zl,Zm,Zv,Zw,Z3,Z9,ZA,ZG,ZK,ZL,ZO,ZP,ZT,ZU,Yg,Yh,Yr,Ys,Yw,Yx,Y8,YA,YD,YO,YX,YZ,Xb,Xi,Xr,Xt,Xv,Ws,W3,W4,W5,W6,W7,W8,W9,WA,WC,WK,WN,WP,WU,WV,Vi,Vj,Vk,Vv,Vx,Vy,V0,V1,V3,V9,VF,VQ,VT,VU,VZ,Ua,Ub,Uc,Ud,Ug,Uh,Ui,Uj,Uk,Um,Ur,Uu,Uy,Uz,U2,U3,U4,U5,U6,U7,U8,UF,Tf,Tg,Th,Ti,Tj,Tk,Tl,Tm,Tt,Tu,Tv,Tw,Ty,Tz,T1,T3,T6,T7,SB,SC,SD,SF,SG,SI,a1,hx,e,n0];all_goals tactic=>exact rfl))
theorem kU (v:Va) {i:Nat} {p:Int×Int×Int} (hp:v.ps[i]?=some p):(gH v.F p.2.1 p.2.2≠0∧pE v i=gH v.F p.2.1 p.2.2)∨(gH v.F p.2.1 p.2.2=0∧btw 0 p.1 100=true∧pE v i=0)∨(gH v.F p.2.1 p.2.2=0∧btw 0 p.1 100=false∧pE v i=2):=by
 unfold pE
 rw[aO hp]
 by_cases h:gH v.F p.2.1 p.2.2=0
 ·cases h2:btw 0 p.1 100<;>simp[h]
 ·simp[h]
theorem aAy (v:Va) (hF:1≤v.F∧v.F≤16) (hb:v.ps.length<1000000000) {i:Nat} (hi:i<v.ps.length) (h0:pE v i=0) :
 aV 0 [1,43,44,45] (execW aA 23 0 none (match oG with | .loop _ a=>a|c=>c) (aS [1,43,44,45] [.pt 0 0,rP v.ps,I v.ps.length,I (i:Nat)]) (bx v))=some ([.pt 0 0,rP v.ps,I v.ps.length,I (i+1:Nat)],bx v):=by
 obtain⟨x,hx⟩:=bK hi
 have a1:=cT hi
 have a2:=fD hi (by omega)
 have e:=w53 v hF x.2.1 x.2.2
 have e2:=w45 0 x.1 100
 rcases kU v hx with ⟨h1,h2⟩|⟨h1,h2,_⟩|⟨h1,h2,h3⟩
 ·exact absurd (h2.symm.trans h0) h1
 ·rw[h1]at e
  rw[h2]at e2
  unfold oG
  dsimp only
  (sym=>(simp[Za,Zb,Zc,Zf,Zg,Zh,Zj,Zl,Zm,Zv,Zw,Z3,Z5,Z8,ZA,ZG,ZK,ZL,ZO,ZP,ZT,ZU,ZX,Ya,Yg,Yh,Yj,Yr,Ys,Yw,Yx,YX,YZ,Xb,Xd,Xi,Xr,Xs,Xt,Xv,Xx,Ws,W3,W4,W5,W6,W7,W8,W9,WA,WC,WE,WH,WI,WK,WL,WM,WN,WO,WP,WQ,WR,WS,WT,WU,WV,WY,WZ,Vf,Vi,Vj,Vk,Vv,Vx,Vy,V0,V1,V3,VQ,VR,VS,VT,VU,VV,VZ,Ua,Ub,Uc,Ud,Uf,Ug,Uh,Ui,Uj,Uk,Um,Uq,Uu,Ux,Uy,U2,U3,U4,U5,U6,U7,U8,UF,Tf,Tg,Th,Ti,Tj,Tk,Tl,Tm,Tt,Tu,Tw,Ty,Tz,T2,T5,T6,T7,TK,SB,SC,SD,SF,SG,SI,a1,a2,hx,e,e2];all_goals tactic=>exact rfl))
 ·rw[h0]at h3;simp at h3
theorem aHM (v:Va) (hF:1≤v.F∧v.F≤16) {i:Nat} (hi:i<v.ps.length) (h0:pE v i≠0):∃ e h,
 execW aA 23 0 none (match oG with | .loop _ a=>a|c=>c) (aS [1,43,44,45] [.pt 0 0,rP v.ps,I v.ps.length,I (i:Nat)]) (bx v)=some (.ret,e,h)∧bD none x23.res x23.ownR 0 (some (.ret,e,h))=some (I (pE v i),[]):=by
 obtain⟨x,hx⟩:=bK hi
 have a1:=cT hi
 have e:=w53 v hF x.2.1 x.2.2
 have e2:=w45 0 x.1 100
 rcases kU v hx with ⟨h1,h2⟩|⟨h1,h2,h3⟩|⟨h1,h2,h3⟩
 ·have n0:=aDF h1
  rw[h2]
  generalize gH v.F x.2.1 x.2.2=er at *
  refine bU ?_ ?_
  ·unfold oG
   dsimp only
   (sym=>(simp[Za,Zb,Zc,Zf,Zg,Zh,Zj,Zl,Zm,Zv,Zw,Z3,Z8,ZA,ZG,ZK,ZL,ZO,ZP,ZT,ZU,Ya,Yg,Yh,Yr,Ys,Yw,Yx,YX,YZ,Xb,Xi,Xr,Xt,Xv,Ws,W3,W4,W5,W6,W7,W8,W9,WA,WC,WK,WN,WP,WU,WV,Vi,Vj,Vk,Vv,Vx,Vy,V0,V1,V3,VQ,VT,VU,VX,VZ,Ua,Ub,Uc,Ud,Ug,Uh,Ui,Uj,Uk,Um,Ur,Uu,Uy,Uz,U2,U3,U4,U5,U6,U7,U8,UF,Tf,Tg,Th,Ti,Tj,Tk,Tl,Tm,Tt,Tu,Tv,Tw,Ty,Tz,T1,T3,T6,T7,SB,SC,SD,SF,SG,SI,a1,hx,e,n0];all_goals tactic=>exact rfl))
  ·unfold oG
   dsimp only
   (sym=>(simp[Za,Zb,Zc,Zf,Zg,Zh,Zj,Zl,Zm,Zv,Zw,Z3,Z8,ZA,ZG,ZK,ZL,ZO,ZP,ZT,ZU,Ya,Yg,Yh,Yr,Ys,Yw,Yx,YX,YZ,Xb,Xi,Xr,Xt,Xv,Ws,W3,W4,W5,W6,W7,W8,W9,WA,WC,WK,WN,WP,WU,WV,Vi,Vj,Vk,Vv,Vx,Vy,V0,V1,V3,V9,VF,VQ,VT,VU,VZ,Ua,Ub,Uc,Ud,Ug,Uh,Ui,Uj,Uk,Um,Ur,Uu,Uy,Uz,U2,U3,U4,U5,U6,U7,U8,UF,Tf,Tg,Th,Ti,Tj,Tk,Tl,Tm,Tt,Tu,Tv,Tw,Ty,Tz,T1,T3,T6,T7,SB,SC,SD,SF,SG,SI,a1,hx,e,n0];all_goals tactic=>exact rfl))
 ·exact absurd h3 h0
 ·rw[h1]at e
  rw[h2]at e2
  rw[h3]
  refine bU ?_ ?_
  ·unfold oG
   dsimp only
   (sym=>(simp[Za,Zb,Zc,Zf,Zg,Zh,Zj,Zl,Zm,Zv,Zw,Z3,Z5,Z8,ZA,ZG,ZK,ZL,ZO,ZP,ZT,ZU,ZX,Ya,Yg,Yh,Yr,Ys,Yw,Yx,YX,YZ,Xb,Xi,Xr,Xs,Xt,Xv,Ws,W3,W4,W5,W6,W7,W8,W9,WA,WC,WK,WN,WP,WU,WV,Vi,Vj,Vk,Vv,Vx,Vy,V0,V1,V3,VQ,VT,VU,VV,VX,VZ,Ua,Ub,Uc,Ud,Ug,Uh,Ui,Uj,Uk,Um,Uq,Ur,Uu,Uy,U2,U3,U4,U5,U6,U7,U8,UF,Tf,Tg,Th,Ti,Tj,Tk,Tl,Tm,Tt,Tu,Tv,Tw,Ty,Tz,T1,T3,T6,T7,SB,SC,SD,SF,SG,SI,a1,hx,e,e2];all_goals tactic=>exact rfl))
  ·unfold oG
   dsimp only
   (sym=>(simp[Za,Zb,Zc,Zf,Zg,Zh,Zj,Zl,Zm,Zv,Zw,Z3,Z5,Z8,ZA,ZG,ZK,ZL,ZO,ZP,ZT,ZU,ZX,Ya,Yg,Yh,Yr,Ys,Yw,Yx,YX,YZ,Xb,Xi,Xr,Xs,Xt,Xv,Ws,W3,W4,W5,W6,W7,W8,W9,WA,WC,WK,WN,WP,WU,WV,Vi,Vj,Vk,Vv,Vx,Vy,V0,V1,V3,V9,VF,VQ,VT,VU,VV,VZ,Ua,Ub,Uc,Ud,Ug,Uh,Ui,Uj,Uk,Um,Uq,Ur,Uu,Uy,U2,U3,U4,U5,U6,U7,U8,UF,Tf,Tg,Th,Ti,Tj,Tk,Tl,Tm,Tt,Tu,Tv,Tw,Ty,Tz,T1,T3,T6,T7,SB,SC,SD,SF,SG,SI,a1,hx,e,e2];all_goals tactic=>exact rfl))
theorem aJR (v:Va) (hF:1≤v.F∧v.F≤16):IntKind.i64.wrap (1*2^min v.F.toNat IntKind.i64.bits)=2^v.F.toNat∧IntKind.i64.wrap (2^v.F.toNat-1)=v.A∧0<v.A∧v.A<65536:=by
 obtain⟨f,hf⟩:∃ f:Nat,v.F=f:=⟨v.F.toNat,by omega⟩
 unfold Va.A
 rw[hf]at hF ⊢
 simp only[Int.toNat_natCast]
 have h1:=tR cN (i:=f) (by omega)
 have h2:(2:Nat)^f≤2^16:=Nat.pow_le_pow_right (by omega) (by omega)
 have h3:(2:Nat)^1≤2^f:=Nat.pow_le_pow_right (by omega) (by omega)
 have e:(2:Int)^f=((2^f:Nat):Int):=by norm_cast
 rw[h1,e]
 exact⟨rfl,aE (by omega) (by omega),by omega,by omega⟩
theorem uU (v:Va):(btw 0 v.sick v.A=false∧sE v=2)∨(btw 0 v.sick v.A=true∧btw 0 v.nur v.A=false∧sE v=2)∨(btw 0 v.sick v.A=true∧btw 0 v.nur v.A=true∧btw 0 v.fix v.A=false∧sE v=2) ∨
 (btw 0 v.sick v.A=true∧btw 0 v.nur v.A=true∧btw 0 v.fix v.A=true∧sE v=0):=by
 unfold sE
 cases btw 0 v.sick v.A<;>cases btw 0 v.nur v.A<;>cases btw 0 v.fix v.A<;>simp
abbrev bx3 (v:Va):XH:=[some (.blk true (.cells true v.c)),some (.blk true (.cells true [I v.sick,I v.nur,I v.fix]))]
theorem aFb (v:Va) (hF:1≤v.F∧v.F≤16) {i:Nat} {s:Int} (hs:(i=0∧s=v.sick)∨(i=1∧s=v.nur)∨(i=2∧s=v.fix)) (h0:btw 0 s v.A=true) :
 aV 0 [1,69,70,71] (execW aA 23 0 none (match uN with | .loop _ a=>a|c=>c) (aS [1,69,70,71] [.pt 0 0,.sl 1 0 1 3,I 3,I (i:Nat)]) (bx3 v))=some ([.pt 0 0,.sl 1 0 1 3,I 3,I (i+1:Nat)],bx3 v):=by
 obtain⟨u1,u2,_,_⟩:=aJR v hF
 have e:=w45 0 s v.A
 have n0:(v.F<0)=False:=eq_false (by omega)
 rw[h0]at e
 rcases hs with ⟨rfl,rfl⟩|⟨rfl,rfl⟩|⟨rfl,rfl⟩
 all_goals
  unfold uN
  dsimp only
  (sym=>(simp[Za,Zb,Zf,Zg,Zh,Zj,Zl,Zm,Zv,Z3,Z5,Z8,ZA,ZG,ZO,ZP,ZT,ZU,ZX,Ya,Yf,Yj,Yk,Yo,Ys,Yz,Y0,Y1,Y8,Y9,YA,YB,YC,YD,YF,YX,Xc,Xd,Xr,Xs,Xw,Xx,XJ,We,W3,W4,W5,WA,WC,WE,WF,WH,WI,WK,WL,WM,WN,WO,WP,WQ,WR,WS,WT,WU,WV,WY,WZ,Vf,Vi,Vj,Vk,Vv,Vx,Vy,Vz,VQ,VR,VS,VT,VU,VV,VZ,Ua,Ub,Uc,Ud,Uf,Ug,Uh,Uk,Uq,Uu,Ux,Uy,U2,U3,U4,U5,U6,Tf,Tg,Tk,Tt,Tu,Tw,Ty,Tz,T2,T5,T6,T7,TK,Su,SB,SC,SE,SF,SG,SI,u1,u2,e,n0];all_goals tactic=>exact rfl))
theorem aHL (v:Va) (hF:1≤v.F∧v.F≤16) {i:Nat} {s:Int} (hs:(i=0∧s=v.sick)∨(i=1∧s=v.nur)∨(i=2∧s=v.fix)) (h0:btw 0 s v.A=false):∃ e h,
 execW aA 23 0 none (match uN with | .loop _ a=>a|c=>c) (aS [1,69,70,71] [.pt 0 0,.sl 1 0 1 3,I 3,I (i:Nat)]) (bx3 v)=some (.ret,e,h)∧bD none x23.res x23.ownR 0 (some (.ret,e,h))=some (I 2,[]):=by
 obtain⟨u1,u2,_,_⟩:=aJR v hF
 have e:=w45 0 s v.A
 have n0:(v.F<0)=False:=eq_false (by omega)
 rw[h0]at e
 rcases hs with ⟨rfl,rfl⟩|⟨rfl,rfl⟩|⟨rfl,rfl⟩
 all_goals
  refine bU ?_ ?_
  ·unfold uN
   dsimp only
   (sym=>(simp[Za,Zb,Zf,Zg,Zh,Zj,Zl,Zm,Zv,Z3,Z5,Z8,ZA,ZG,ZO,ZP,ZT,ZU,ZX,Ya,Yf,Yk,Yo,Ys,Y8,Y9,YA,YB,YC,YD,YF,YX,Xr,Xs,XJ,We,W3,W4,W5,WA,WC,WK,WN,WP,WU,WV,Vi,Vj,Vk,Vv,Vx,Vy,Vz,VQ,VT,VU,VX,VZ,Ua,Uc,Ud,Ug,Uh,Ur,Uu,Uy,U2,U3,U4,U5,U6,Tf,Tg,Tk,Tt,Tu,Tv,Tw,Ty,Tz,T1,T3,T6,T7,Su,SB,SC,SE,SF,SG,SI,u1,u2,e,n0];all_goals tactic=>exact rfl))
  ·unfold uN
   dsimp only
   (sym=>(simp[Za,Zb,Zf,Zg,Zh,Zj,Zl,Zm,Zv,Z3,Z5,Z8,ZA,ZG,ZO,ZP,ZT,ZU,ZX,Ya,Yf,Yk,Yo,Ys,Y8,Y9,YA,YB,YC,YD,YF,YX,Xr,Xs,XJ,We,W3,W4,W5,WA,WC,WK,WN,WP,WU,WV,Vi,Vj,Vk,Vv,Vx,Vy,Vz,V9,VF,VQ,VT,VU,VZ,Ua,Uc,Ud,Ug,Uh,Ur,Uu,Uy,U2,U3,U4,U5,U6,Tf,Tg,Tk,Tt,Tu,Tv,Tw,Ty,Tz,T1,T3,T6,T7,Su,SB,SC,SE,SF,SG,SI,u1,u2,e,n0];all_goals tactic=>exact rfl))
theorem w23 (v:Va) (hb:v.bs.length<1000000000) (hp:v.ps.length<1000000000):runW aA 23 [.agg v.c] []=some (I (vE v),[]):=by
 have e0:=w45 1 v.F 16
 rw[r23 (by simp)];unfold x23;dsimp only
 unfold vE
 cases hF:btw 1 v.F 16
 ·rw[hF]at e0
  rw[if_neg (by simp)]
  (sym=>(simp[Za,Zb,Zf,Zg,Zh,Zj,Zl,Zm,Zo,Zv,Zz,Z5,Z8,ZG,ZO,ZP,ZT,ZU,ZX,Ya,YX,Xi,Xk,Xl,Xr,Xs,XJ,We,Wg,Wi,Ws,W3,W4,W5,WA,WB,WC,WK,WN,WO,WP,WQ,WR,WS,WU,WV,Vi,Vj,Vk,Vv,Vx,Vy,V0,V1,V3,V9,VA,VC,VD,VE,VF,VG,VJ,VK,VL,VM,VO,VT,VU,VY,VZ,Ua,Uc,Ud,Uf,Ug,Uh,Um,Ur,U2,U3,U4,U5,U6,U7,U8,UD,UE,US,UT,Tf,Tg,Tk,Tn,Tu,Tv,Ty,Tz,T1,T3,T6,T7,Su,SB,SC,SD,SF,SG,SI,e0];all_goals tactic=>exact rfl))
 ·rw[hF]at e0
  rw[if_pos rfl]
  have hF':=oE.1 hF
  unfold bsE
  by_cases h60:60<v.bs.length
  ·rw[if_pos h60,if_neg (by decide)]
   have c60:((60:Int)<(v.bs.length:Int))=True:=eq_true (by omega)
   (sym=>(simp[Za,Zb,Zf,Zg,Zh,Zj,Zl,Zm,Zo,Zv,Zz,Z3,Z5,Z8,ZF,ZG,ZO,ZP,ZT,ZU,ZX,Ya,Yc,Yu,YX,Xi,Xk,Xl,Xr,Xs,XJ,We,Wg,Wi,Ws,W3,W4,W5,WA,WB,WC,WK,WN,WO,WP,WQ,WR,WS,WU,WV,Vi,Vj,Vk,Vv,Vx,Vy,V0,V1,V3,V9,VA,VC,VD,VE,VF,VG,VJ,VK,VL,VM,VO,VT,VU,VV,VZ,Ua,Uc,Ud,Uf,Ug,Uh,Ui,Um,Uq,Uy,U2,U3,U4,U5,U6,U7,U8,UD,UE,US,UT,Tf,Tg,Tk,Tn,Tt,Tu,Tv,Ty,Tz,T1,T3,T6,T7,Su,SB,SC,SD,SF,SG,SI,e0,c60];all_goals tactic=>exact rfl))
  ·rw[if_neg h60]
   have g60:((60:Int)<(v.bs.length:Int))=False:=eq_false (by omega)
   have z:=Te (n:=(v.bs.length:Int))
   obtain⟨m,m1,m2,m3⟩:=cH (bE v) v.bs.length
   rcases m3 with ⟨rfl,e⟩|⟨m3,m4,e⟩
   ·rw[e, if_pos rfl]
    unfold psE
    by_cases h20:20<v.ps.length
    ·rw[if_pos h20,if_neg (by decide)]
     have c20:((20:Int)<(v.ps.length:Int))=True:=eq_true (by omega)
     sym =>
      simp[Za,Zb,Zf,Zg,Zh,Zj,Zl,Zm,Zo,Zv,Zz,Z3,Z5,Z8,ZF,ZG,ZO,ZP,ZT,ZU,ZX,Ya,Yc,Yu,YX,Xi,Xk,Xl,Xr,Xs,We,Wg,Wi,Ws,W3,W4,W5,WA,WB,WC,WK,WN,WP,WU,WV,Vi,Vj,Vk,Vv,Vx,Vy,V0,V1,V3,VO,VT,VV,VZ,Ua,Uc,Ud,Ug,Uh,Ui,Um,Uq,Uz,U2,U3,U4,U5,U6,U7,U8,UD,UE,US,UT,Tf,Tg,Tk,Tn,Tt,Tu,Tw,Ty,Tz,T2,T6,T7,SB,SC,SD,SF,SG,SI,e0,g60]
      tactic =>
       unfold pT
       rw[aD v.bs.length (fun i=>[.pt 0 0,rB v.bs,I v.bs.length,I (i:Nat)]) (fun _=>bx v)]
       ·(sym=>(simp[Za,Zb,Zf,Zh,Zl,Zm,Zv,Z3,Z8,ZF,ZG,Ya,Yc,Ys,Yu,YX,Xr,XJ,We,W3,W4,W5,WC,WK,WO,WQ,WR,WS,Vv,V9,VA,VC,VD,VE,VF,VG,VJ,VK,VL,VM,VQ,VT,VU,VV,Ua,Ud,Uf,Ui,Uy,Uz,U3,U4,Te,Tf,Tg,Tk,Tt,Tu,Tv,Tx,Tz,T0,T1,T4,T6,T7,Su,z,c20];all_goals tactic=>exact rfl))
       ·(sym=>(simp[Za,Y9,YX,Xb,Xd,Xr,Xv,Xx,W3,WE,WH,WI,WK,WL,WM,WO,WQ,WR,WS,WT,WY,WZ,Vf,VR,VS,VZ,Ua,Uc,Ud,Uf,Uk,Ux,U3,U4,U5,U6,T5,TK];all_goals tactic=>exact rfl))
       ·exact fun i hi=>uY v hF' hb hi (m2 i hi)
       ·(sym=>(simp[Za,Zb,Zf,Zh,Zl,Zm,Z3,Ys,VQ,VT,VV,VW,Uz,Te,Tt,Tu,Tx,Tz,T0,T6,z];all_goals tactic=>exact rfl))
    ·rw[if_neg h20]
     have g20:((20:Int)<(v.ps.length:Int))=False:=eq_false (by omega)
     have z2:=Te (n:=(v.ps.length:Int))
     obtain⟨k,k1,k2,k3⟩:=cH (pE v) v.ps.length
     sym =>
      simp[Za,Zb,Zf,Zg,Zh,Zj,Zl,Zm,Zo,Zv,Zz,Z3,Z5,Z8,ZF,ZG,ZO,ZP,ZT,ZU,ZX,Ya,Yc,Yu,YX,Xi,Xk,Xl,Xr,Xs,We,Wg,Wi,Ws,W3,W4,W5,WA,WB,WC,WK,WN,WP,WU,WV,Vi,Vj,Vk,Vv,Vx,Vy,V0,V1,V3,VO,VT,VV,VY,VZ,Ua,Uc,Ud,Ug,Uh,Ui,Um,Uq,Uz,U2,U3,U4,U5,U6,U7,U8,UD,UE,US,UT,Tf,Tg,Tk,Tn,Tt,Tu,Tw,Ty,Tz,T2,T6,T7,SB,SC,SD,SF,SG,SI,e0,g60]
      tactic =>
       unfold pT
       rw[aD v.bs.length (fun i=>[.pt 0 0,rB v.bs,I v.bs.length,I (i:Nat)]) (fun _=>bx v)]
       ·sym =>
        simp[Za,Zb,Zf,Zh,Zl,Zm,Zv,Z3,Z8,ZF,ZG,Ya,Yc,Ys,Yu,W3,W4,W5,WC,VQ,VT,VV,Ui,Uz,Te,Tf,Tg,Tk,Tt,Tu,Tw,Tx,Ty,Tz,T0,T4,T6,T7,z,g20]
        tactic =>
         rcases k3 with ⟨rfl,e3⟩|⟨k3,k4,e3⟩
         ·rw[e3, if_pos rfl]
          unfold oG
          rw[aD v.ps.length (fun i=>[.pt 0 0,rP v.ps,I v.ps.length,I (i:Nat)]) (fun _=>bx v)]
          ·sym =>
           simp[Za,Zb,Zd,Ze,Zf,Zg,Zh,Zj,Zl,Zm,Zo,Zv,Z1,Z3,Z8,ZF,ZG,Ya,Ye,Ys,YF,Xi,Wq,W3,W4,W5,W7,W9,WA,WC,Vv,Vx,Vy,V0,V1,V3,VQ,VT,VV,VZ,Ua,Ub,Uc,Ud,Ug,Uh,Um,Uu,Uz,U0,U1,U7,U8,UF,UG,UH,UI,UU,UV,UW,UX,Te,Tf,Tg,Tk,Tn,Tt,Tu,Tx,Ty,Tz,T0,T4,T6,T7,TR,SB,SC,SD,SF,SG,SI,z2]
           tactic =>
            have lf:=fun i s hs h0=>aHL v hF' (i:=i) (s:=s) hs h0
            have rd:=fun i s hs h0=>aFb v hF' (i:=i) (s:=s) hs h0
            unfold uN at lf rd ⊢
            dsimp only at lf rd
            rcases uU v with ⟨h1,h⟩|⟨h1,h2,h⟩|⟨h1,h2,h3,h⟩|⟨h1,h2,h3,h⟩
            ·rw[h]
             obtain⟨eo,ho,q1,q2⟩:=lf 0 v.sick (by simp) h1
             rw[aD 0 (fun i=>[.pt 0 0,.sl 1 0 1 3,I 3,I (i:Nat)]) (fun _=>bx3 v)]
             ·rw[q1];exact q2
             ·(sym=>(simp[Za,Y9,YX,Xc,Xd,Xr,Xw,Xx,W3,WE,WF,WH,WI,WK,WL,WM,WO,WQ,WR,WS,WT,WY,WZ,Vf,VQ,VR,VS,VZ,Ua,Ub,Uc,Ud,Uf,Uk,Ux,U3,U4,U5,U6,T5,TK];all_goals tactic=>exact rfl))
             ·intro i hi;omega
             ·rw[q1];rfl
            ·rw[h]
             obtain⟨eo,ho,q1,q2⟩:=lf 1 v.nur (by simp) h2
             rw[aD 1 (fun i=>[.pt 0 0,.sl 1 0 1 3,I 3,I (i:Nat)]) (fun _=>bx3 v)]
             ·rw[q1];exact q2
             ·(sym=>(simp[Za,Y9,YX,Xc,Xd,Xr,Xw,Xx,W3,WE,WF,WH,WI,WK,WL,WM,WO,WQ,WR,WS,WT,WY,WZ,Vf,VQ,VR,VS,VZ,Ua,Ub,Uc,Ud,Uf,Uk,Ux,U3,U4,U5,U6,T5,TK];all_goals tactic=>exact rfl))
             ·intro i hi
              obtain rfl:i=0:=by omega
              exact rd 0 v.sick (by simp) h1
             ·rw[q1];rfl
            ·rw[h]
             obtain⟨eo,ho,q1,q2⟩:=lf 2 v.fix (by simp) h3
             rw[aD 2 (fun i=>[.pt 0 0,.sl 1 0 1 3,I 3,I (i:Nat)]) (fun _=>bx3 v)]
             ·rw[q1];exact q2
             ·(sym=>(simp[Za,Y9,YX,Xc,Xd,Xr,Xw,Xx,W3,WE,WF,WH,WI,WK,WL,WM,WO,WQ,WR,WS,WT,WY,WZ,Vf,VQ,VR,VS,VZ,Ua,Ub,Uc,Ud,Uf,Uk,Ux,U3,U4,U5,U6,T5,TK];all_goals tactic=>exact rfl))
             ·intro i hi
              have:i=0∨i=1:=by omega
              rcases this with rfl|rfl
              ·exact rd 0 v.sick (by simp) h1
              ·exact rd 1 v.nur (by simp) h2
             ·rw[q1];rfl
            ·rw[h]
             rw[aD 3 (fun i=>[.pt 0 0,.sl 1 0 1 3,I 3,I (i:Nat)]) (fun _=>bx3 v)]
             ·(sym=>(simp[Za,Zb,Zf,Zh,Zl,Zm,Zv,Z3,Ys,YF,YX,Xr,XJ,We,WK,WO,WQ,WR,WS,Vv,V9,VA,VC,VD,VE,VF,VG,VJ,VK,VL,VM,VQ,VT,VV,Ua,Ud,Uf,Uz,U3,U4,Tt,Tu,Tv,Tx,Tz,T0,T4,T6,T7,Su];all_goals tactic=>exact rfl))
             ·(sym=>(simp[Za,Y9,YX,Xc,Xd,Xr,Xw,Xx,W3,WE,WF,WH,WI,WK,WL,WM,WO,WQ,WR,WS,WT,WY,WZ,Vf,VQ,VR,VS,VZ,Ua,Ub,Uc,Ud,Uf,Uk,Ux,U3,U4,U5,U6,T5,TK];all_goals tactic=>exact rfl))
             ·intro i hi
              have:i=0∨i=1∨i=2:=by omega
              rcases this with rfl|rfl|rfl
              ·exact rd 0 v.sick (by simp) h1
              ·exact rd 1 v.nur (by simp) h2
              ·exact rd 2 v.fix (by simp) h3
             ·(sym=>(simp[Za,Zb,Zf,Zh,Zl,Zm,Z3,Ys,YF,VQ,VT,VV,VW,Uz,Tt,Tu,Tx,Tz,T0,T6];all_goals tactic=>exact rfl))
          ·(sym=>(simp[Za,Y9,YX,Xb,Xd,Xr,Xv,Xx,W3,WE,WH,WI,WK,WL,WM,WO,WQ,WR,WS,WT,WY,WZ,Vf,VQ,VR,VS,VZ,Ua,Uc,Ud,Uf,Uk,Ux,U3,U4,U5,U6,T5,TK];all_goals tactic=>exact rfl))
          ·exact fun i hi=>aAy v hF' hp hi (k2 i hi)
          ·(sym=>(simp[Za,Zb,Zf,Zh,Zl,Zm,Z3,Ys,VQ,VT,VV,VW,Uz,Te,Tt,Tu,Tx,Tz,T0,T6,z2];all_goals tactic=>exact rfl))
         ·rw[e3,if_neg k4]
          obtain⟨eo,ho,q1,q2⟩:=aHM v hF' k3 k4
          unfold oG at q1 ⊢
          rw[aD k (fun i=>[.pt 0 0,rP v.ps,I v.ps.length,I (i:Nat)]) (fun _=>bx v)]
          ·dsimp only at q1;rw[q1];exact q2
          ·(sym=>(simp[Za,Y9,YX,Xb,Xd,Xr,Xv,Xx,W3,WE,WH,WI,WK,WL,WM,WO,WQ,WR,WS,WT,WY,WZ,Vf,VQ,VR,VS,VZ,Ua,Uc,Ud,Uf,Uk,Ux,U3,U4,U5,U6,T5,TK];all_goals tactic=>exact rfl))
          ·exact fun i hi=>aAy v hF' hp (by omega) (k2 i hi)
          ·dsimp only at q1;rw[q1];rfl
       ·(sym=>(simp[Za,Y9,YX,Xb,Xd,Xr,Xv,Xx,W3,WE,WH,WI,WK,WL,WM,WO,WQ,WR,WS,WT,WY,WZ,Vf,VR,VS,VZ,Ua,Uc,Ud,Uf,Uk,Ux,U3,U4,U5,U6,T5,TK];all_goals tactic=>exact rfl))
       ·exact fun i hi=>uY v hF' hb hi (m2 i hi)
       ·(sym=>(simp[Za,Zb,Zf,Zh,Zl,Zm,Z3,Ys,VQ,VT,VV,VW,Uz,Te,Tt,Tu,Tx,Tz,T0,T6,z];all_goals tactic=>exact rfl))
   ·rw[e,if_neg m4]
    obtain⟨eo,ho,q1,q2⟩:=aHN v hF' m3 m4
    sym =>
     simp[Za,Zb,Zf,Zg,Zh,Zj,Zl,Zm,Zo,Zv,Zz,Z3,Z5,Z8,ZF,ZG,ZO,ZP,ZT,ZU,ZX,Ya,Yc,Yu,YX,Xi,Xk,Xl,Xr,Xs,We,Wg,Wi,Ws,W3,W4,W5,WA,WB,WC,WK,WN,WP,WU,WV,Vi,Vj,Vk,Vv,Vx,Vy,V0,V1,V3,VO,VT,VV,VY,VZ,Ua,Uc,Ud,Ug,Uh,Ui,Um,Uq,Uz,U2,U3,U4,U5,U6,U7,U8,UD,UE,US,UT,Tf,Tg,Tk,Tn,Tt,Tu,Tw,Ty,Tz,T2,T6,T7,SB,SC,SD,SF,SG,SI,e0,g60]
     tactic =>
      unfold pT at q1 ⊢
      rw[aD m (fun i=>[.pt 0 0,rB v.bs,I v.bs.length,I (i:Nat)]) (fun _=>bx v)]
      ·dsimp only at q1;rw[q1];exact q2
      ·(sym=>(simp[Za,Y9,YX,Xb,Xd,Xr,Xv,Xx,W3,WE,WH,WI,WK,WL,WM,WO,WQ,WR,WS,WT,WY,WZ,Vf,VR,VS,VZ,Ua,Uc,Ud,Uf,Uk,Ux,U3,U4,U5,U6,T5,TK];all_goals tactic=>exact rfl))
      ·exact fun i hi=>uY v hF' hb (by omega) (m2 i hi)
      ·dsimp only at q1;rw[q1];rfl
theorem u_F (v:Va) (hF:1≤v.F∧v.F≤16):IntKind.i64.wrap (v.F-1)=v.F-1:=aE (by omega) (by omega)
theorem uX (v:Va) (hF:1≤v.F∧v.F≤16) (hb:v.bs.length<1000000000) {i:Nat} (hi:i<v.bs.length) (h0:bE v i=0) :
 aV 0 [1,3] (execW aA 24 0 none (match kN with | .loop _ a=>a|c=>c) (aS [1,3] [.pt 0 0,I (i:Nat)]) (bx v))=some ([.pt 0 0,I (i+1:Nat)],bx v):=by
 obtain⟨x,hx⟩:=bK hi
 have a1:=cT hi
 have a2:=fD hi (by omega)
 have u:=u_F v hF
 have e1:=w47 0 x.1 (v.F-1)
 have e2:=w47 0 x.2 (v.F-1)
 unfold bE at h0
 rw[aO hx]at h0
 rcases eO v.F x.1 x.2 with ⟨h1,h⟩|⟨h1,h2,h⟩|⟨h1,h2,h3,h⟩|⟨h1,h2,h3,h⟩
 ·rw[h]at h0;simp at h0
 ·rw[h]at h0;simp at h0
 ·rw[h]at h0;simp at h0
 ·rw[h1]at e1;rw[h2]at e2
  unfold kN
  dsimp only
  (sym=>(simp[Za,Zb,Zf,Zh,Zi,Zl,Zm,Zp,Zr,Zv,Zy,Z3,Z5,Z8,Z9,ZA,ZF,ZG,ZH,ZI,ZJ,ZO,ZP,ZT,ZU,ZW,ZX,Ya,Yc,Yg,Yh,Yj,Yk,Yq,Ys,Yw,Yx,Y8,YA,YD,YP,YX,Xd,Xr,Xs,Xx,W3,W4,W5,WA,WC,WE,WH,WI,WK,WL,WM,WN,WO,WP,WQ,WR,WS,WT,WU,WV,WY,WZ,Vf,Vi,Vj,Vk,VQ,VR,VS,VT,VU,VV,VZ,Ua,Uc,Ud,Uf,Ug,Uh,Ui,Uj,Uk,Uq,Uu,Ux,Uy,Uz,U2,U3,U4,U5,U6,Tf,Tg,Th,Ti,Tk,Tt,Tu,Tw,Ty,Tz,T2,T5,T6,T7,TK,a1,a2,hx,u,e1,e2,h3];all_goals tactic=>exact rfl))
theorem aHK (v:Va) (hF:1≤v.F∧v.F≤16) {i:Nat} (hi:i<v.bs.length) (h0:bE v i≠0):∃ e h,
 execW aA 24 0 none (match kN with | .loop _ a=>a|c=>c) (aS [1,3] [.pt 0 0,I (i:Nat)]) (bx v)=some (.ret,e,h)∧bD none x24.res x24.ownR 0 (some (.ret,e,h))=some (I (bE v i),[]):=by
 obtain⟨x,hx⟩:=bK hi
 have a1:=cT hi
 have u:=u_F v hF
 have e1:=w47 0 x.1 (v.F-1)
 have e2:=w47 0 x.2 (v.F-1)
 unfold bE at h0 ⊢
 rw[aO hx]at h0 ⊢
 rcases eO v.F x.1 x.2 with ⟨h1,h⟩|⟨h1,h2,h⟩|⟨h1,h2,h3,h⟩|⟨h1,h2,h3,h⟩
 ·rw[h];rw[h1]at e1
  refine bU ?_ ?_
  ·unfold kN;dsimp only; (sym=>(simp[Za,Zb,Zf,Zh,Zi,Zl,Zm,Zp,Zt,Zv,Zy,Z3,Z5,Z8,Z9,ZA,ZF,ZG,ZH,ZI,ZJ,ZO,ZP,ZT,ZU,ZV,ZX,Ya,Yc,Yg,Yh,Yk,Ys,Yw,Yx,Y8,YA,YD,YP,YX,Xr,Xs,W3,W4,W5,WA,WC,WK,WN,WP,WU,WV,Vi,Vj,Vk,VQ,VT,VU,VX,VZ,Ua,Uc,Ud,Ug,Uh,Ui,Uj,Uk,Ur,Uu,Uy,U2,U3,U4,U5,U6,Tf,Tg,Th,Ti,Tk,Tt,Tu,Tv,Tw,Ty,Tz,T1,T3,T6,T7,a1,hx,u,e1];all_goals tactic=>exact rfl))
  ·unfold kN;dsimp only; (sym=>(simp[Za,Zb,Zf,Zh,Zi,Zl,Zm,Zp,Zt,Zv,Zy,Z3,Z5,Z8,Z9,ZA,ZF,ZG,ZH,ZI,ZJ,ZO,ZP,ZT,ZU,ZV,ZX,Ya,Yc,Yg,Yh,Yk,Ys,Yw,Yx,Y8,YA,YD,YP,YX,Xr,Xs,W3,W4,W5,WA,WC,WK,WN,WP,WU,WV,Vi,Vj,Vk,V9,VF,VQ,VT,VU,VZ,Ua,Uc,Ud,Ug,Uh,Ui,Uj,Uk,Ur,Uu,Uy,U2,U3,U4,U5,U6,Tf,Tg,Th,Ti,Tk,Tt,Tu,Tv,Tw,Ty,Tz,T1,T3,T6,T7,a1,hx,u,e1];all_goals tactic=>exact rfl))
 ·rw[h];rw[h1]at e1;rw[h2]at e2
  refine bU ?_ ?_
  ·unfold kN;dsimp only; (sym=>(simp[Za,Zb,Zf,Zh,Zi,Zl,Zm,Zp,Zr,Zv,Zy,Z3,Z5,Z8,Z9,ZA,ZF,ZG,ZH,ZI,ZJ,ZO,ZP,ZT,ZU,ZW,ZX,Ya,Yc,Yg,Yh,Yk,Ys,Yw,Yx,Y8,YA,YD,YP,YX,Xr,Xs,W3,W4,W5,WA,WC,WK,WN,WP,WU,WV,Vi,Vj,Vk,VQ,VT,VU,VX,VZ,Ua,Uc,Ud,Ug,Uh,Ui,Uj,Uk,Uq,Ur,Uu,Uy,U2,U3,U4,U5,U6,Tf,Tg,Th,Ti,Tk,Tt,Tu,Tv,Tw,Ty,Tz,T1,T3,T6,T7,a1,hx,u,e1,e2];all_goals tactic=>exact rfl))
  ·unfold kN;dsimp only; (sym=>(simp[Za,Zb,Zf,Zh,Zi,Zl,Zm,Zp,Zr,Zv,Zy,Z3,Z5,Z8,Z9,ZA,ZF,ZG,ZH,ZI,ZJ,ZO,ZP,ZT,ZU,ZW,ZX,Ya,Yc,Yg,Yh,Yk,Ys,Yw,Yx,Y8,YA,YD,YP,YX,Xr,Xs,W3,W4,W5,WA,WC,WK,WN,WP,WU,WV,Vi,Vj,Vk,V9,VF,VQ,VT,VU,VZ,Ua,Uc,Ud,Ug,Uh,Ui,Uj,Uk,Uq,Ur,Uu,Uy,U2,U3,U4,U5,U6,Tf,Tg,Th,Ti,Tk,Tt,Tu,Tv,Tw,Ty,Tz,T1,T3,T6,T7,a1,hx,u,e1,e2];all_goals tactic=>exact rfl))
 ·rw[h];rw[h1]at e1;rw[h2]at e2
  refine bU ?_ ?_
  ·unfold kN;dsimp only; (sym=>(simp[Za,Zb,Zf,Zh,Zi,Zl,Zm,Zp,Zr,Zv,Zy,Z3,Z5,Z8,Z9,ZA,ZF,ZG,ZH,ZI,ZJ,ZO,ZP,ZT,ZU,ZW,ZX,Ya,Yc,Yg,Yh,Yk,Yq,Ys,Yw,Yx,Y8,YA,YD,YP,YX,Xr,Xs,W3,W4,W5,WA,WC,WK,WN,WP,WU,WV,Vi,Vj,Vk,VQ,VT,VU,VV,VX,VZ,Ua,Uc,Ud,Ug,Uh,Ui,Uj,Uk,Uq,Uu,Uy,U2,U3,U4,U5,U6,Tf,Tg,Th,Ti,Tk,Tt,Tu,Tv,Tw,Ty,Tz,T1,T3,T6,T7,a1,hx,u,e1,e2,h3];all_goals tactic=>exact rfl))
  ·unfold kN;dsimp only; (sym=>(simp[Za,Zb,Zf,Zh,Zi,Zl,Zm,Zp,Zr,Zv,Zy,Z3,Z5,Z8,Z9,ZA,ZF,ZG,ZH,ZI,ZJ,ZO,ZP,ZT,ZU,ZW,ZX,Ya,Yc,Yg,Yh,Yk,Yq,Ys,Yw,Yx,Y8,YA,YD,YP,YX,Xr,Xs,W3,W4,W5,WA,WC,WK,WN,WP,WU,WV,Vi,Vj,Vk,V9,VF,VQ,VT,VU,VV,VZ,Ua,Uc,Ud,Ug,Uh,Ui,Uj,Uk,Uq,Uu,Uy,U2,U3,U4,U5,U6,Tf,Tg,Th,Ti,Tk,Tt,Tu,Tv,Tw,Ty,Tz,T1,T3,T6,T7,a1,hx,u,e1,e2,h3];all_goals tactic=>exact rfl))
 ·exact absurd h h0
theorem aAx (v:Va) (hF:1≤v.F∧v.F≤16) (hb:v.ps.length<1000000000) {i:Nat} (hi:i<v.ps.length) (h0:pE v i=0) :
 aV 0 [1,6] (execW aA 24 0 none (match jT with | .loop _ a=>a|c=>c) (aS [1,6] [.pt 0 0,I (i:Nat)]) (bx v))=some ([.pt 0 0,I (i+1:Nat)],bx v):=by
 obtain⟨x,hx⟩:=bK hi
 have a1:=cT hi
 have a2:=fD hi (by omega)
 have u:=u_F v hF
 have e1:=w47 0 x.2.1 (v.F-1)
 have e2:=w47 0 x.2.2 (v.F-1)
 have e4:=w47 0 x.1 100
 rcases kU v hx with ⟨g1,g2⟩|⟨g1,g2,_⟩|⟨g1,g2,g3⟩
 ·exact absurd (g2.symm.trans h0) g1
 ·rw[g2]at e4
  rcases eO v.F x.2.1 x.2.2 with ⟨h1,h⟩|⟨h1,h2,h⟩|⟨h1,h2,h3,h⟩|⟨h1,h2,h3,h⟩
  ·rw[h]at g1;simp at g1
  ·rw[h]at g1;simp at g1
  ·rw[h]at g1;simp at g1
  ·rw[h1]at e1;rw[h2]at e2
   unfold jT
   dsimp only
   (sym=>(simp[Za,Zb,Zc,Zf,Zg,Zh,Zj,Zl,Zm,Zp,Zr,Zv,Zw,Zy,Z3,Z5,Z8,ZA,ZF,ZG,ZK,ZL,ZO,ZP,ZT,ZU,ZW,ZX,Ya,Yc,Yg,Yh,Yj,Yk,Yq,Ys,Yw,Yx,YX,Xd,Xi,Xr,Xs,Xx,Ws,W3,W4,W5,W6,W7,W8,W9,WA,WC,WE,WH,WI,WK,WL,WM,WN,WO,WP,WQ,WR,WS,WT,WU,WV,WY,WZ,Vf,Vi,Vj,Vk,Vv,Vx,Vy,V0,V1,V3,VQ,VR,VS,VT,VU,VV,VZ,Ua,Ub,Uc,Ud,Uf,Ug,Uh,Ui,Uj,Uk,Um,Uq,Uu,Ux,Uy,Uz,U2,U3,U4,U5,U6,U7,U8,UF,Tf,Tg,Th,Ti,Tj,Tk,Tl,Tm,Tt,Tu,Tw,Ty,Tz,T2,T5,T6,T7,TK,SB,SC,SD,SF,SG,SI,a1,a2,hx,u,e1,e2,e4,h3];all_goals tactic=>exact rfl))
 ·rw[h0]at g3;simp at g3
theorem aHJ (v:Va) (hF:1≤v.F∧v.F≤16) {i:Nat} (hi:i<v.ps.length) (h0:pE v i≠0):∃ e h,
 execW aA 24 0 none (match jT with | .loop _ a=>a|c=>c) (aS [1,6] [.pt 0 0,I (i:Nat)]) (bx v)=some (.ret,e,h)∧bD none x24.res x24.ownR 0 (some (.ret,e,h))=some (I (pE v i),[]):=by
 obtain⟨x,hx⟩:=bK hi
 have a1:=cT hi
 have u:=u_F v hF
 have e1:=w47 0 x.2.1 (v.F-1)
 have e2:=w47 0 x.2.2 (v.F-1)
 have e4:=w47 0 x.1 100
 rcases kU v hx with ⟨g1,g2⟩|⟨g1,g2,g3⟩|⟨g1,g2,g3⟩
 ·rw[g2]
  rcases eO v.F x.2.1 x.2.2 with ⟨h1,h⟩|⟨h1,h2,h⟩|⟨h1,h2,h3,h⟩|⟨h1,h2,h3,h⟩
  ·rw[h];rw[h1]at e1
   refine bU ?_ ?_
   ·unfold jT;dsimp only; (sym=>(simp[Za,Zb,Zc,Zf,Zg,Zh,Zj,Zl,Zm,Zp,Zt,Zv,Zw,Zy,Z3,Z5,Z8,ZA,ZF,ZG,ZK,ZL,ZO,ZP,ZT,ZU,ZV,ZX,Ya,Yc,Yg,Yh,Yk,Ys,Yw,Yx,YX,Xi,Xr,Xs,Ws,W3,W4,W5,W6,W7,W8,W9,WA,WC,WK,WN,WP,WU,WV,Vi,Vj,Vk,Vv,Vx,Vy,V0,V1,V3,VQ,VT,VU,VX,VZ,Ua,Ub,Uc,Ud,Ug,Uh,Ui,Uj,Uk,Um,Ur,Uu,Uy,U2,U3,U4,U5,U6,U7,U8,UF,Tf,Tg,Th,Ti,Tj,Tk,Tl,Tm,Tt,Tu,Tv,Tw,Ty,Tz,T1,T3,T6,T7,SB,SC,SD,SF,SG,SI,a1,hx,u,e1];all_goals tactic=>exact rfl))
   ·unfold jT;dsimp only; (sym=>(simp[Za,Zb,Zc,Zf,Zg,Zh,Zj,Zl,Zm,Zp,Zt,Zv,Zw,Zy,Z3,Z5,Z8,ZA,ZF,ZG,ZK,ZL,ZO,ZP,ZT,ZU,ZV,ZX,Ya,Yc,Yg,Yh,Yk,Ys,Yw,Yx,YX,Xi,Xr,Xs,Ws,W3,W4,W5,W6,W7,W8,W9,WA,WC,WK,WN,WP,WU,WV,Vi,Vj,Vk,Vv,Vx,Vy,V0,V1,V3,V9,VF,VQ,VT,VU,VZ,Ua,Ub,Uc,Ud,Ug,Uh,Ui,Uj,Uk,Um,Ur,Uu,Uy,U2,U3,U4,U5,U6,U7,U8,UF,Tf,Tg,Th,Ti,Tj,Tk,Tl,Tm,Tt,Tu,Tv,Tw,Ty,Tz,T1,T3,T6,T7,SB,SC,SD,SF,SG,SI,a1,hx,u,e1];all_goals tactic=>exact rfl))
  ·rw[h];rw[h1]at e1;rw[h2]at e2
   refine bU ?_ ?_
   ·unfold jT;dsimp only; (sym=>(simp[Za,Zb,Zc,Zf,Zg,Zh,Zj,Zl,Zm,Zp,Zr,Zv,Zw,Zy,Z3,Z5,Z8,ZA,ZF,ZG,ZK,ZL,ZO,ZP,ZT,ZU,ZW,ZX,Ya,Yc,Yg,Yh,Yk,Ys,Yw,Yx,YX,Xi,Xr,Xs,Ws,W3,W4,W5,W6,W7,W8,W9,WA,WC,WK,WN,WP,WU,WV,Vi,Vj,Vk,Vv,Vx,Vy,V0,V1,V3,VQ,VT,VU,VX,VZ,Ua,Ub,Uc,Ud,Ug,Uh,Ui,Uj,Uk,Um,Uq,Ur,Uu,Uy,U2,U3,U4,U5,U6,U7,U8,UF,Tf,Tg,Th,Ti,Tj,Tk,Tl,Tm,Tt,Tu,Tv,Tw,Ty,Tz,T1,T3,T6,T7,SB,SC,SD,SF,SG,SI,a1,hx,u,e1,e2];all_goals tactic=>exact rfl))
   ·unfold jT;dsimp only; (sym=>(simp[Za,Zb,Zc,Zf,Zg,Zh,Zj,Zl,Zm,Zp,Zr,Zv,Zw,Zy,Z3,Z5,Z8,ZA,ZF,ZG,ZK,ZL,ZO,ZP,ZT,ZU,ZW,ZX,Ya,Yc,Yg,Yh,Yk,Ys,Yw,Yx,YX,Xi,Xr,Xs,Ws,W3,W4,W5,W6,W7,W8,W9,WA,WC,WK,WN,WP,WU,WV,Vi,Vj,Vk,Vv,Vx,Vy,V0,V1,V3,V9,VF,VQ,VT,VU,VZ,Ua,Ub,Uc,Ud,Ug,Uh,Ui,Uj,Uk,Um,Uq,Ur,Uu,Uy,U2,U3,U4,U5,U6,U7,U8,UF,Tf,Tg,Th,Ti,Tj,Tk,Tl,Tm,Tt,Tu,Tv,Tw,Ty,Tz,T1,T3,T6,T7,SB,SC,SD,SF,SG,SI,a1,hx,u,e1,e2];all_goals tactic=>exact rfl))
  ·rw[h];rw[h1]at e1;rw[h2]at e2
   refine bU ?_ ?_
   ·unfold jT;dsimp only; (sym=>(simp[Za,Zb,Zc,Zf,Zg,Zh,Zj,Zl,Zm,Zp,Zr,Zv,Zw,Zy,Z3,Z5,Z8,ZA,ZF,ZG,ZK,ZL,ZO,ZP,ZT,ZU,ZW,ZX,Ya,Yc,Yg,Yh,Yk,Yq,Ys,Yw,Yx,YX,Xi,Xr,Xs,Ws,W3,W4,W5,W6,W7,W8,W9,WA,WC,WK,WN,WP,WU,WV,Vi,Vj,Vk,Vv,Vx,Vy,V0,V1,V3,VQ,VT,VU,VV,VX,VZ,Ua,Ub,Uc,Ud,Ug,Uh,Ui,Uj,Uk,Um,Uq,Uu,Uy,U2,U3,U4,U5,U6,U7,U8,UF,Tf,Tg,Th,Ti,Tj,Tk,Tl,Tm,Tt,Tu,Tv,Tw,Ty,Tz,T1,T3,T6,T7,SB,SC,SD,SF,SG,SI,a1,hx,u,e1,e2,h3];all_goals tactic=>exact rfl))
   ·unfold jT;dsimp only; (sym=>(simp[Za,Zb,Zc,Zf,Zg,Zh,Zj,Zl,Zm,Zp,Zr,Zv,Zw,Zy,Z3,Z5,Z8,ZA,ZF,ZG,ZK,ZL,ZO,ZP,ZT,ZU,ZW,ZX,Ya,Yc,Yg,Yh,Yk,Yq,Ys,Yw,Yx,YX,Xi,Xr,Xs,Ws,W3,W4,W5,W6,W7,W8,W9,WA,WC,WK,WN,WP,WU,WV,Vi,Vj,Vk,Vv,Vx,Vy,V0,V1,V3,V9,VF,VQ,VT,VU,VV,VZ,Ua,Ub,Uc,Ud,Ug,Uh,Ui,Uj,Uk,Um,Uq,Uu,Uy,U2,U3,U4,U5,U6,U7,U8,UF,Tf,Tg,Th,Ti,Tj,Tk,Tl,Tm,Tt,Tu,Tv,Tw,Ty,Tz,T1,T3,T6,T7,SB,SC,SD,SF,SG,SI,a1,hx,u,e1,e2,h3];all_goals tactic=>exact rfl))
  ·exact absurd h g1
 ·exact absurd g3 h0
 ·rw[g3];rw[g2]at e4
  rcases eO v.F x.2.1 x.2.2 with ⟨h1,h⟩|⟨h1,h2,h⟩|⟨h1,h2,h3,h⟩|⟨h1,h2,h3,h⟩
  ·rw[h]at g1;simp at g1
  ·rw[h]at g1;simp at g1
  ·rw[h]at g1;simp at g1
  ·rw[h1]at e1;rw[h2]at e2
   refine bU ?_ ?_
   ·unfold jT;dsimp only; (sym=>(simp[Za,Zb,Zc,Zf,Zg,Zh,Zj,Zl,Zm,Zp,Zr,Zv,Zw,Zy,Z3,Z5,Z8,ZA,ZF,ZG,ZK,ZL,ZO,ZP,ZT,ZU,ZW,ZX,Ya,Yc,Yg,Yh,Yk,Yq,Ys,Yw,Yx,YX,Xi,Xr,Xs,Ws,W3,W4,W5,W6,W7,W8,W9,WA,WC,WK,WN,WP,WU,WV,Vi,Vj,Vk,Vv,Vx,Vy,V0,V1,V3,VQ,VT,VU,VV,VX,VZ,Ua,Ub,Uc,Ud,Ug,Uh,Ui,Uj,Uk,Um,Uq,Ur,Uu,Uy,Uz,U2,U3,U4,U5,U6,U7,U8,UF,Tf,Tg,Th,Ti,Tj,Tk,Tl,Tm,Tt,Tu,Tv,Tw,Ty,Tz,T1,T3,T6,T7,SB,SC,SD,SF,SG,SI,a1,hx,u,e1,e2,e4,h3];all_goals tactic=>exact rfl))
   ·unfold jT;dsimp only; (sym=>(simp[Za,Zb,Zc,Zf,Zg,Zh,Zj,Zl,Zm,Zp,Zr,Zv,Zw,Zy,Z3,Z5,Z8,ZA,ZF,ZG,ZK,ZL,ZO,ZP,ZT,ZU,ZW,ZX,Ya,Yc,Yg,Yh,Yk,Yq,Ys,Yw,Yx,YX,Xi,Xr,Xs,Ws,W3,W4,W5,W6,W7,W8,W9,WA,WC,WK,WN,WP,WU,WV,Vi,Vj,Vk,Vv,Vx,Vy,V0,V1,V3,V9,VF,VQ,VT,VU,VV,VZ,Ua,Ub,Uc,Ud,Ug,Uh,Ui,Uj,Uk,Um,Uq,Ur,Uu,Uy,Uz,U2,U3,U4,U5,U6,U7,U8,UF,Tf,Tg,Th,Ti,Tj,Tk,Tl,Tm,Tt,Tu,Tv,Tw,Ty,Tz,T1,T3,T6,T7,SB,SC,SD,SF,SG,SI,a1,hx,u,e1,e2,e4,h3];all_goals tactic=>exact rfl))
theorem w24 (v:Va) (hb:v.bs.length<1000000000) (hp:v.ps.length<1000000000):runW aA 24 [.agg v.c] []=some (I (vE v),[]):=by
 have e0:=w47 1 v.F 16
 rw[r24 (by simp)];unfold x24;dsimp only
 unfold vE
 cases hF:btw 1 v.F 16
 ·rw[hF]at e0
  rw[if_neg (by simp)]
  (sym=>(simp[Za,Zb,Zf,Zg,Zh,Zj,Zl,Zm,Zo,Zv,Zz,Z5,Z8,ZG,ZO,ZP,ZT,ZU,ZX,Ya,YX,Xi,Xk,Xl,Xr,Xs,XJ,We,Wg,Wi,Ws,W3,W4,W5,WA,WB,WC,WK,WN,WO,WP,WQ,WR,WS,WU,WV,Vi,Vj,Vk,Vv,Vx,Vy,V0,V1,V3,V9,VA,VC,VD,VE,VF,VG,VJ,VK,VL,VM,VO,VT,VU,VY,VZ,Ua,Uc,Ud,Uf,Ug,Uh,Um,Ur,U2,U3,U4,U5,U6,U7,U8,UD,UE,US,UT,Tf,Tg,Tk,Tn,Tu,Tv,Tz,T1,T6,T7,Su,SB,SC,SD,SF,SG,SI,e0];all_goals tactic=>exact rfl))
 ·rw[hF]at e0
  rw[if_pos rfl]
  have hF':=oE.1 hF
  unfold bsE
  by_cases h60:60<v.bs.length
  ·rw[if_pos h60,if_neg (by decide)]
   have c60:((60:Int)<(v.bs.length:Int))=True:=eq_true (by omega)
   (sym=>(simp[Za,Zb,Zf,Zg,Zh,Zj,Zl,Zm,Zo,Zv,Zz,Z3,Z5,Z8,ZF,ZG,ZO,ZP,ZT,ZU,ZX,Ya,Yc,Yu,YX,Xi,Xk,Xl,Xr,Xs,XJ,We,Wg,Wi,Ws,W3,W4,W5,WA,WB,WC,WK,WN,WO,WP,WQ,WR,WS,WU,WV,Vi,Vj,Vk,Vv,Vx,Vy,V0,V1,V3,V9,VA,VC,VD,VE,VF,VG,VJ,VK,VL,VM,VO,VT,VU,VV,VZ,Ua,Uc,Ud,Uf,Ug,Uh,Ui,Um,Uq,Uy,U2,U3,U4,U5,U6,U7,U8,UD,UE,US,UT,Tf,Tg,Tk,Tn,Tt,Tu,Tv,Tw,Tz,T1,T6,T7,Su,SB,SC,SD,SF,SG,SI,e0,c60];all_goals tactic=>exact rfl))
  ·rw[if_neg h60]
   have g60:((60:Int)<(v.bs.length:Int))=False:=eq_false (by omega)
   have z:=Te (n:=(v.bs.length:Int))
   obtain⟨m,m1,m2,m3⟩:=cH (bE v) v.bs.length
   rcases m3 with ⟨rfl,e⟩|⟨m3,m4,e⟩
   ·rw[e, if_pos rfl]
    unfold psE
    by_cases h20:20<v.ps.length
    ·rw[if_pos h20,if_neg (by decide)]
     have c20:((20:Int)<(v.ps.length:Int))=True:=eq_true (by omega)
     sym =>
      simp[Za,Zb,Zf,Zg,Zh,Zj,Zl,Zm,Zo,Zv,Zz,Z3,Z5,Z8,ZF,ZG,ZO,ZP,ZT,ZU,ZX,Ya,Yc,Yu,YX,Xi,Xk,Xl,Xr,Xs,We,Wg,Wi,Ws,W3,W4,W5,WA,WB,WC,WK,WN,WP,WU,WV,Vi,Vj,Vk,Vv,Vx,Vy,V0,V1,V3,VO,VT,VV,VZ,Ua,Uc,Ud,Ug,Uh,Ui,Um,Uq,Uz,U2,U3,U4,U5,U6,U7,U8,UD,UE,US,UT,Tf,Tg,Tk,Tn,Tt,Tu,Tw,Ty,Tz,T6,T7,SB,SC,SD,SF,SG,SI,e0,g60]
      tactic =>
       unfold kN
       rw[aD v.bs.length (fun i=>[.pt 0 0,I (i:Nat)]) (fun _=>bx v)]
       ·(sym=>(simp[Za,Zb,Zf,Zh,Zl,Zm,Zv,Z3,Z8,ZF,ZG,Ya,Yc,Ys,Yu,YX,Xr,XJ,We,W3,W4,W5,WC,WK,WO,WQ,WR,WS,Vv,V9,VA,VC,VD,VE,VF,VG,VJ,VK,VL,VM,VQ,VT,VU,VV,Ua,Ud,Uf,Ui,Uy,Uz,U3,U4,Te,Tf,Tg,Tk,Tt,Tu,Tv,Tx,Tz,T0,T1,T4,T6,T7,Su,z,c20];all_goals tactic=>exact rfl))
       ·(sym=>(simp[Za,Y9,YX,Xd,Xr,Xx,W3,WE,WH,WI,WK,WL,WM,WO,WQ,WR,WS,WT,WY,WZ,Vf,VR,VS,VZ,Ua,Uc,Ud,Uf,Uk,Ux,U3,U4,U5,U6,T5,TK];all_goals tactic=>exact rfl))
       ·exact fun i hi=>uX v hF' hb hi (m2 i hi)
       ·(sym=>(simp[Za,Zb,Zf,Zh,Zl,Zm,Zv,Z3,Z8,ZF,ZG,Ya,Yc,Ys,W3,W4,W5,WC,VQ,VT,VV,VW,Ui,Uz,Te,Tf,Tg,Tk,Tt,Tu,Tx,Tz,T0,T6,z];all_goals tactic=>exact rfl))
    ·rw[if_neg h20]
     have g20:((20:Int)<(v.ps.length:Int))=False:=eq_false (by omega)
     have z2:=Te (n:=(v.ps.length:Int))
     obtain⟨k,k1,k2,k3⟩:=cH (pE v) v.ps.length
     obtain⟨u1,u2,_,_⟩:=aJR v hF'
     have n0:(v.F<0)=False:=eq_false (by omega)
     have f1:=w47 0 v.sick v.A
     have f2:=w47 0 v.nur v.A
     have f3:=w47 0 v.fix v.A
     sym =>
      simp[Za,Zb,Zf,Zg,Zh,Zj,Zl,Zm,Zo,Zv,Zz,Z3,Z5,Z8,ZF,ZG,ZO,ZP,ZT,ZU,ZX,Ya,Yc,Yu,YX,Xi,Xk,Xl,Xr,Xs,We,Wg,Wi,Ws,W3,W4,W5,WA,WB,WC,WK,WN,WP,WU,WV,Vi,Vj,Vk,Vv,Vx,Vy,V0,V1,V3,VO,VT,VV,VY,VZ,Ua,Uc,Ud,Ug,Uh,Ui,Um,Uq,Uz,U2,U3,U4,U5,U6,U7,U8,UD,UE,US,UT,Tf,Tg,Tk,Tn,Tt,Tu,Tw,Ty,Tz,T6,T7,SB,SC,SD,SF,SG,SI,e0,g60]
      tactic =>
       unfold kN
       rw[aD v.bs.length (fun i=>[.pt 0 0,I (i:Nat)]) (fun _=>bx v)]
       ·sym =>
        simp[Za,Zb,Zf,Zh,Zl,Zm,Zv,Z3,Z8,ZF,ZG,Ya,Yc,Ys,Yu,W3,W4,W5,WC,VQ,VT,VV,Ui,Uz,Te,Tf,Tg,Tk,Tt,Tu,Tw,Tx,Ty,Tz,T0,T4,T6,T7,z,g20]
        tactic =>
         rcases k3 with ⟨rfl,e3⟩|⟨k3,k4,e3⟩
         ·rw[e3,if_pos rfl]
          unfold jT
          rw[aD v.ps.length (fun i=>[.pt 0 0,I (i:Nat)]) (fun _=>bx v)]
          ·rcases uU v with ⟨h1,h⟩|⟨h1,h2,h⟩|⟨h1,h2,h3,h⟩|⟨h1,h2,h3,h⟩
           ·rw[h];rw[h1]at f1; (sym=>(simp[Za,Zb,Zf,Zg,Zh,Zj,Zl,Zm,Zp,Zt,Zv,Zy,Z3,Z5,Z8,ZF,ZG,ZO,ZP,ZT,ZU,ZV,ZX,Ya,Yc,Yk,Yo,Ys,YX,Xr,Xs,XJ,We,W3,W4,W5,WA,WC,WK,WN,WO,WP,WQ,WR,WS,WU,WV,Vi,Vj,Vk,Vv,Vx,Vy,V0,V1,V3,V9,VA,VC,VD,VE,VF,VG,VJ,VK,VL,VM,VQ,VT,VU,VV,VZ,Ua,Uc,Ud,Uf,Ug,Uh,Ui,Ur,Uz,U2,U3,U4,U5,U6,Te,Tf,Tg,Tk,Tt,Tu,Tv,Tx,Tz,T0,T1,T4,T6,T7,Su,SB,SC,SD,SF,SG,SI,z2,u1,u2,n0,f1];all_goals tactic=>exact rfl))
           ·rw[h];rw[h1]at f1;rw[h2]at f2; (sym=>(simp[Za,Zb,Zf,Zg,Zh,Zj,Zl,Zm,Zp,Zr,Zt,Zv,Zy,Z3,Z5,Z8,ZF,ZG,ZO,ZP,ZT,ZU,ZV,ZW,ZX,Ya,Yc,Yk,Yo,Ys,YX,Xr,Xs,XJ,We,W3,W4,W5,WA,WC,WK,WN,WO,WP,WQ,WR,WS,WU,WV,Vi,Vj,Vk,Vv,Vx,Vy,V0,V1,V3,V9,VA,VC,VD,VE,VF,VG,VJ,VK,VL,VM,VQ,VT,VU,VV,VZ,Ua,Uc,Ud,Uf,Ug,Uh,Ui,Uq,Ur,Uz,U2,U3,U4,U5,U6,Te,Tf,Tg,Tk,Tt,Tu,Tv,Tx,Tz,T0,T1,T4,T6,T7,Su,SB,SC,SD,SF,SG,SI,z2,u1,u2,n0,f1,f2];all_goals tactic=>exact rfl))
           ·rw[h];rw[h1]at f1;rw[h2]at f2;rw[h3]at f3; (sym=>(simp[Za,Zb,Zf,Zg,Zh,Zj,Zl,Zm,Zp,Zr,Zv,Zy,Z3,Z5,Z8,ZF,ZG,ZO,ZP,ZT,ZU,ZW,ZX,Ya,Yc,Yk,Yo,Ys,YX,Xr,Xs,XJ,We,W3,W4,W5,WA,WC,WK,WN,WO,WP,WQ,WR,WS,WU,WV,Vi,Vj,Vk,Vv,Vx,Vy,V0,V1,V3,V9,VA,VC,VD,VE,VF,VG,VJ,VK,VL,VM,VQ,VT,VU,VV,VZ,Ua,Uc,Ud,Uf,Ug,Uh,Ui,Uq,Ur,Uz,U2,U3,U4,U5,U6,Te,Tf,Tg,Tk,Tt,Tu,Tv,Tx,Tz,T0,T1,T4,T6,T7,Su,SB,SC,SD,SF,SG,SI,z2,u1,u2,n0,f1,f2,f3];all_goals tactic=>exact rfl))
           ·rw[h];rw[h1]at f1;rw[h2]at f2;rw[h3]at f3; (sym=>(simp[Za,Zb,Zf,Zg,Zh,Zj,Zl,Zm,Zp,Zr,Zv,Zy,Z3,Z5,Z8,ZF,ZG,ZO,ZP,ZT,ZU,ZW,ZX,Ya,Yc,Yk,Yo,Ys,YX,Xr,Xs,XJ,We,W3,W4,W5,WA,WC,WK,WN,WO,WP,WQ,WR,WS,WU,WV,Vi,Vj,Vk,Vv,Vx,Vy,V0,V1,V3,V9,VA,VC,VD,VE,VF,VG,VJ,VK,VL,VM,VQ,VT,VV,VZ,Ua,Uc,Ud,Uf,Ug,Uh,Ui,Uq,Uz,U2,U3,U4,U5,U6,Te,Tf,Tg,Tk,Tt,Tu,Tv,Tw,Tx,Tz,T0,T4,T6,T7,Su,SB,SC,SD,SF,SG,SI,z2,u1,u2,n0,f1,f2,f3];all_goals tactic=>exact rfl))
          ·(sym=>(simp[Za,Y9,YX,Xd,Xr,Xx,W3,WE,WH,WI,WK,WL,WM,WO,WQ,WR,WS,WT,WY,WZ,Vf,VQ,VR,VS,VZ,Ua,Uc,Ud,Uf,Uk,Ux,U3,U4,U5,U6,T5,TK];all_goals tactic=>exact rfl))
          ·exact fun i hi=>aAx v hF' hp hi (k2 i hi)
          ·(sym=>(simp[Za,Zb,Zf,Zh,Zl,Zm,Zv,Z3,Z8,ZF,ZG,Ya,Yc,Ys,W3,W4,W5,WC,VQ,VT,VV,VW,Ui,Uz,Te,Tf,Tg,Tk,Tt,Tu,Tx,Tz,T0,T6,z2];all_goals tactic=>exact rfl))
         ·rw[e3,if_neg k4]
          obtain⟨eo,ho,q1,q2⟩:=aHJ v hF' k3 k4
          unfold jT at q1 ⊢
          rw[aD k (fun i=>[.pt 0 0,I (i:Nat)]) (fun _=>bx v)]
          ·dsimp only at q1;rw[q1];exact q2
          ·(sym=>(simp[Za,Y9,YX,Xd,Xr,Xx,W3,WE,WH,WI,WK,WL,WM,WO,WQ,WR,WS,WT,WY,WZ,Vf,VQ,VR,VS,VZ,Ua,Uc,Ud,Uf,Uk,Ux,U3,U4,U5,U6,T5,TK];all_goals tactic=>exact rfl))
          ·exact fun i hi=>aAx v hF' hp (by omega) (k2 i hi)
          ·dsimp only at q1;rw[q1];rfl
       ·(sym=>(simp[Za,Y9,YX,Xd,Xr,Xx,W3,WE,WH,WI,WK,WL,WM,WO,WQ,WR,WS,WT,WY,WZ,Vf,VR,VS,VZ,Ua,Uc,Ud,Uf,Uk,Ux,U3,U4,U5,U6,T5,TK];all_goals tactic=>exact rfl))
       ·exact fun i hi=>uX v hF' hb hi (m2 i hi)
       ·(sym=>(simp[Za,Zb,Zf,Zh,Zl,Zm,Zv,Z3,Z8,ZF,ZG,Ya,Yc,Ys,W3,W4,W5,WC,VQ,VT,VV,VW,Ui,Uz,Te,Tf,Tg,Tk,Tt,Tu,Tx,Tz,T0,T6,z];all_goals tactic=>exact rfl))
   ·rw[e,if_neg m4]
    obtain⟨eo,ho,q1,q2⟩:=aHK v hF' m3 m4
    sym =>
     simp[Za,Zb,Zf,Zg,Zh,Zj,Zl,Zm,Zo,Zv,Zz,Z3,Z5,Z8,ZF,ZG,ZO,ZP,ZT,ZU,ZX,Ya,Yc,Yu,YX,Xi,Xk,Xl,Xr,Xs,We,Wg,Wi,Ws,W3,W4,W5,WA,WB,WC,WK,WN,WP,WU,WV,Vi,Vj,Vk,Vv,Vx,Vy,V0,V1,V3,VO,VT,VV,VY,VZ,Ua,Uc,Ud,Ug,Uh,Ui,Um,Uq,Uz,U2,U3,U4,U5,U6,U7,U8,UD,UE,US,UT,Tf,Tg,Tk,Tn,Tt,Tu,Tw,Ty,Tz,T6,T7,SB,SC,SD,SF,SG,SI,e0,g60]
     tactic =>
      unfold kN at q1 ⊢
      rw[aD m (fun i=>[.pt 0 0,I (i:Nat)]) (fun _=>bx v)]
      ·dsimp only at q1;rw[q1];exact q2
      ·(sym=>(simp[Za,Y9,YX,Xd,Xr,Xx,W3,WE,WH,WI,WK,WL,WM,WO,WQ,WR,WS,WT,WY,WZ,Vf,VR,VS,VZ,Ua,Uc,Ud,Uf,Uk,Ux,U3,U4,U5,U6,T5,TK];all_goals tactic=>exact rfl))
      ·exact fun i hi=>uX v hF' hb (by omega) (m2 i hi)
      ·dsimp only at q1;rw[q1];rfl
structure Vn where
 F:Nat
 bs:List (Nat×Nat)
 ps:List (Nat×Nat×Nat)
 sick:Nat
 nur:Nat
 fix:Nat
abbrev bI (b:Nat×Nat):Int×Int:=(b.1,b.2)
abbrev pI (p:Nat×Nat×Nat):Int×Int×Int:=(p.1,p.2.1,p.2.2)
def Vn.v (x:Vn):Va:=⟨x.F,x.bs.map bI,x.ps.map pI,x.sick,x.nur,x.fix⟩
structure Vn.Ok (x:Vn):Prop where
 F1:1≤x.F
 F16:x.F≤16
 nb:x.bs.length≤60
 np:x.ps.length≤20
 b:∀ p∈x.bs,p.1<x.F∧p.2<x.F∧p.1≠p.2
 p:∀ p∈x.ps,p.1≤100∧p.2.1<x.F∧p.2.2<x.F∧p.2.1≠p.2.2
 s:x.sick<2^x.F
 n:x.nur<2^x.F
 f:x.fix<2^x.F
theorem tX {F a b:Int}:gH F a b=0↔(0≤a∧a<F)∧(0≤b∧b<F)∧a≠b:=by
 rcases eO F a b with ⟨h1,h⟩|⟨h1,h2,h⟩|⟨h1,h2,h3,h⟩|⟨h1,h2,h3,h⟩
 ·rw[h];simp[btw]at h1;constructor
  ·intro h;simp at h
  ·intro h;have:=h1 h.1.1;omega
 ·rw[h];simp[btw]at h2;constructor
  ·intro h;simp at h
  ·intro h;have:=h2 h.2.1.1;omega
 ·rw[h];constructor
  ·intro h;simp at h
  ·intro h;exact absurd (of_eq_true h3) h.2.2
 ·rw[h]
  have g1:=oE.1 h1
  have g2:=oE.1 h2
  have g3:=of_eq_false h3
  simp only[true_iff]
  exact⟨by omega,by omega,g3⟩
theorem uI {α β:Type} (f:α→β) (P:β→Prop) (hf:∀ b,P b→∃ a,f a=b):∀ l:List β,(∀ x∈l,P x)→∃ k:List α,k.map f=l
 | [],_=>⟨[],rfl⟩
 | x::l,h=>by
   obtain⟨a,ha⟩:=hf x (h x (by simp))
   obtain⟨k,hk⟩:=uI f P hf l fun y hy=>h y (by simp[hy])
   exact⟨a::k,by simp[ha,hk]⟩
theorem aKm {v:Va} (h:vE v=0):∃ x:Vn,x.Ok∧v=x.v:=by
 unfold vE at h
 cases hF:btw 1 v.F 16
 ·rw[hF]at h;simp at h
 rw[hF,if_pos rfl]at h
 have hF':=oE.1 hF
 by_cases hb:bsE v=0
 ·rw[if_pos hb]at h
  by_cases hp:psE v=0
  ·rw[if_pos hp]at h
   unfold bsE at hb
   unfold psE at hp
   by_cases h60:60<v.bs.length
   ·rw[if_pos h60]at hb;simp at hb
   rw[if_neg h60]at hb
   by_cases h20:20<v.ps.length
   ·rw[if_pos h20]at hp;simp at hp
   rw[if_neg h20]at hp
   have hb':∀ b∈v.bs,(0≤b.1∧b.1<v.F)∧(0≤b.2∧b.2<v.F)∧b.1≠b.2:=fun b hm=>by
    obtain⟨i,hi⟩:=List.getElem?_of_mem hm
    have:=dS hb i (eI hi)
    unfold bE at this
    rw[aO hi]at this
    exact tX.1 this
   have hp':∀ p∈v.ps,(0≤p.1∧p.1≤100)∧(0≤p.2.1∧p.2.1<v.F)∧(0≤p.2.2∧p.2.2<v.F)∧p.2.1≠p.2.2:=fun p hm=>by
    obtain⟨i,hi⟩:=List.getElem?_of_mem hm
    have:=dS hp i (eI hi)
    rcases kU v hi with ⟨g1,g2⟩|⟨g1,g2,_⟩|⟨g1,g2,g3⟩
    ·exact absurd (g2.symm.trans this) g1
    ·exact⟨oE.1 g2,tX.1 g1⟩
    ·rw[g3]at this;simp at this
   obtain⟨bs,hbs⟩:=uI bI (fun b=>0≤b.1∧0≤b.2) (fun b hh=>⟨(b.1.toNat,b.2.toNat),by
    obtain⟨b1,b2⟩:=b
    simp only[bI,Prod.mk.injEq]at hh ⊢
    omega⟩) v.bs fun b hm=>⟨(hb' b hm).1.1,(hb' b hm).2.1.1⟩
   obtain⟨ps,hps⟩:=uI pI (fun p=>0≤p.1∧0≤p.2.1∧0≤p.2.2) (fun p hh=>⟨(p.1.toNat,p.2.1.toNat,p.2.2.toNat),by
    obtain⟨p1,p2,p3⟩:=p
    simp only[pI,Prod.mk.injEq]at hh ⊢
    omega⟩) v.ps fun p hm=>⟨(hp' p hm).1.1,(hp' p hm).2.1.1,(hp' p hm).2.2.1.1⟩
   obtain⟨f,hf⟩:∃ f:Nat,v.F=f:=⟨v.F.toNat,by omega⟩
   have hA:v.A=((2^f-1:Nat):Int):=by
    unfold Va.A
    rw[hf]
    simp only[Int.toNat_natCast]
    have e:(2:Int)^f=((2^f:Nat):Int):=by norm_cast
    have:=Nat.two_pow_pos f
    rw[e];omega
   rcases uU v with ⟨h1,hs⟩|⟨h1,h2,hs⟩|⟨h1,h2,h3,hs⟩|⟨h1,h2,h3,hs⟩
   ·rw[hs]at h;simp at h
   ·rw[hs]at h;simp at h
   ·rw[hs]at h;simp at h
   have g1:=oE.1 h1
   have g2:=oE.1 h2
   have g3:=oE.1 h3
   rw[hA]at g1 g2 g3
   have:=Nat.two_pow_pos f
   refine⟨⟨f,bs,ps,v.sick.toNat,v.nur.toNat,v.fix.toNat⟩,⟨by show 1≤f;omega,by show f≤16;omega,?_,?_,?_,?_,by show v.sick.toNat<2^f;omega,by show v.nur.toNat<2^f;omega,by show v.fix.toNat<2^f;omega⟩,?_⟩
   ·have:=congrArg List.length hbs
    simp only[List.length_map]at this
    show bs.length≤60
    omega
   ·have:=congrArg List.length hps
    simp only[List.length_map]at this
    show ps.length≤20
    omega
   ·intro b hm
    have:=hb' (bI b) (by rw[←hbs];exact List.mem_map_of_mem hm)
    rw[hf]at this
    simp only[bI]at this
    show b.1<f∧b.2<f∧b.1≠b.2
    omega
   ·intro p hm
    have:=hp' (pI p) (by rw[←hps];exact List.mem_map_of_mem hm)
    rw[hf]at this
    simp only[pI]at this
    show p.1≤100∧p.2.1<f∧p.2.2<f∧p.2.1≠p.2.2
    omega
   ·obtain⟨F,vb,vp,s,n,x⟩:=v
    simp only[Vn.v]at *
    rw[hbs,hps,hf]
    simp only[Va.mk.injEq,true_and]
    omega
  ·rw[if_neg hp]at h;exact absurd h hp
 ·rw[if_neg hb]at h;exact absurd h hb
abbrev Vn.c (x:Vn):List AV:=[I x.F,rB (x.bs.map bI),rP (x.ps.map pI),I x.sick,I x.nur,I x.fix]
def orB (s:Nat) (c:Bool) (k:Nat):Nat:=if c then s|||2^k else s
def brd (ill o:Nat) (b:Nat×Nat):Nat:=orB (orB o (ill.testBit b.1) b.2) (ill.testBit b.2) b.1
def plt (cl:Nat) (n:Int) (o:Nat) (p:Nat×Nat×Nat):Nat:=orB o (decide ((p.1:Int)=n)&&(o.testBit p.2.1 && !cl.testBit p.2.2)) p.2.2
def bor (x:Vn) (ill:Nat):Nat:=x.bs.foldl (brd ill) ill
def aGT (x:Vn) (ill cl:Nat) (n:Int):Nat:=x.ps.foldl (plt cl n) (jP (bor x ill) cl)
theorem aBG {s k n:Nat} {c:Bool} (hs:s<2^n) (hk:k<n):orB s c k<2^n:=by
 unfold orB
 split
 ·exact vL hs hk
 ·exact hs
theorem aJI {ill o n:Nat} {b:Nat×Nat} (ho:o<2^n) (h1:b.1<n) (h2:b.2<n):brd ill o b<2^n:=aBG (aBG ho h2) h1
theorem qU {α:Type} {f:Nat→α→Nat} {n:Nat}:∀ {l:List α} {o:Nat},(∀ x∈l,∀ o,o<2^n→f o x<2^n)→o<2^n→l.foldl f o<2^n
 | [],_,_,h=>h
 | x::l,o,hf,h=>qU (l:=l) (o:=f o x) (fun y hy=>hf y (by simp[hy])) (hf x (by simp) o h)
theorem lR {α β:Type} {f:β→α→β} {l:List α} {i:Nat} {x:α} (h:l[i]?=some x) (o:β):(l.take (i+1)).foldl f o=f ((l.take i).foldl f o) x:=by
 rw[List.take_add_one,h];simp
theorem bA {n:Nat} (h:n≤16):2^n≤65536:=Nat.pow_le_pow_right (n:=2) (by omega) h
section
variable {x:Vn} (ok:x.Ok) {ill cl:Nat} {n:Int}
abbrev dT (x:Vn):XH:=[some (.blk true (.cells true x.c))]
def bF (x:Vn) (ill i:Nat):Nat:=(x.bs.take i).foldl (brd ill) ill
include ok in
theorem aGt (hi:ill<2^x.F) (i:Nat):bF x ill i<2^x.F:=qU (fun b hb o ho=>by
 have:=ok.b b (List.mem_of_mem_take hb)
 exact aJI ho this.1 this.2.1) hi
include ok in
def pF (x:Vn) (cl:Nat) (n:Int) (o i:Nat):Nat:=(x.ps.take i).foldl (plt cl n) o
include ok in
theorem aIu {o:Nat} (ho:o<2^x.F) (i:Nat):pF x cl n o i<2^x.F:=qU (fun p hp o ho=>by
 have:=ok.p p (List.mem_of_mem_take hp)
 exact aBG ho this.2.2.1) ho
include ok in
end
def yF (a i:Nat):List Nat:=(List.range i).filter (a.testBit ·)
theorem aFZ (a i:Nat):yF a (i+1)=if a.testBit i then yF a i++[i] else yF a i:=by
 unfold yF
 rw[List.range_succ,List.filter_append]
 cases h:a.testBit i<;>simp[h]
theorem aHX (a i:Nat):(yF a i).length≤i:=by
 have:=List.length_filter_le (fun k=>a.testBit k) (List.range i)
 simpa [yF]using this
theorem zK (ks:List Nat) (k:Nat):cQ (ks++[k])=cQ ks++[(k:Int)]:=by simp[cQ]
def bV (x:Vn) (cl:Nat):Nat→Nat
 | 0=>jP x.sick cl
 | n+1=>aGT x (bV x cl n) cl (n:Int)
theorem zR {a b n:Nat} (h:a<2^n):jP a b<2^n:=Nat.lt_of_le_of_lt (iR a b) h
theorem aGS {x:Vn} (ok:x.Ok) {ill cl:Nat} {n:Int} (h:ill<2^x.F):aGT x ill cl n<2^x.F:=by
 have h1:=aGt ok h x.bs.length
 have e1:bF x ill x.bs.length=bor x ill:=by unfold bF bor;rw[List.take_length]
 rw[e1]at h1
 have h2:=aIu (cl:=cl) (n:=n) ok (zR (b:=cl) h1) x.ps.length
 unfold pF at h2
 rw[List.take_length]at h2
 exact h2
theorem iX {x:Vn} (ok:x.Ok) (cl:Nat):∀ n,bV x cl n<2^x.F
 | 0=>zR ok.s
 | n+1=>aGS ok (iX ok cl n)
section
variable {x:Vn} (ok:x.Ok) {c:List Int} (hc:c.length<1000000000)
include ok hc in
end
section
variable {x:Vn} (ok:x.Ok) {c:List Int} (hc:c.length<1000000000)
include ok hc in
end
abbrev aBz (L:List (Nat×Nat)):List (AV×AV):=L.map fun p=>(.nilifc,.agg [I p.1,I p.2])
abbrev chO (L:List (Nat×Nat)):Option XB:=some (.blk true (.map true ((.agg [.agg []],.fp [] 16 0)::aBz L)))
abbrev gS (L:List (Nat×Nat)):XH:=[some (.loop 77 0 [.pt 1 0] .ready),some (.blk false (.cells true [.ch 2])),chO L]
theorem aKI (L:List (Nat×Nat)):aEc 3 (gS L):=by
 refine⟨fun _=>rfl,fun _ _=>rfl,fun _=>rfl,?_,?_⟩
 ·intro a e h0 h1
  (sym=>(simp[Xd,Xh,Xx,XI,WE,WI,WK,WM,WO,WP,WQ,WR,WS,WY,WZ,Vb,Vc,Ve,Vf,Vg,Vh,VR,VS,VZ,Ua,Ub,Uc,Ud,Ue,Uf,Ux,U2,U3,U4,U5,U6,T5,Rf,Rh,h0,h1];all_goals tactic=>exact rfl))
 ·intro a
  (sym=>(simp[Za,Xa,Xd,Xu,Xx,XM,Wh,WE,WI,WK,WM,WO,WP,WQ,WR,WS,WY,WZ,Vb,Vc,Ve,Vf,Vg,Vh,Vv,VC,VD,VE,VZ,Ua,Ub,Uc,Ud,Ue,Uf,Ux,U2,U3,U4,U5,U6,U9,UD,Su,Rf,Rh];all_goals tactic=>exact rfl))
theorem yS (v:Nat) (L:List (Nat×Nat)) (hl:L.length<16):Yd (gS L) (gS (L++[(v,0)])) v true:=by
 have b1:(L.length<16)=True:=eq_true hl
 have y:runYW aA (.fn (.yield 0) [] []) [I (v:Nat)] (gS L)=some (.bool true,gS (L++[(v,0)])):=by
  rw[jG (K:=77) (d:=x77) (site:=0) (vs:=[.pt 1 0]) rfl rfl (by rfl) rfl]
  (sym=>(simp[Za,Zb,Zc,Zd,Ze,Zf,Zh,Zl,Zm,Zv,Z0,ZG,ZK,Y9,YT,YY,Xd,Xi,Xk,Xs,Xx,Wq,W3,W4,W5,W6,W7,W9,WA,WC,WE,WI,WK,WM,WO,WP,WQ,WR,WS,WY,WZ,Vb,Vc,Ve,Vf,Vg,Vh,VB,VE,VQ,VZ,Ua,Ub,Uc,Ud,Ue,Uf,Ug,Uh,Ui,Um,Uu,Ux,U2,U3,U4,U5,U6,U7,U8,UF,UG,UH,UI,UQ,UR,Tf,Tg,Tk,Ty,T2,T6,T7,TG,TY,TZ,Sa,Sb,Sk,Sl,Sm,Sn,SM,SS,SU,Rf,Rh,b1];all_goals tactic=>exact rfl))
 intro a
 (sym=>(simp[Zd,Ze,Y9,YX,Xd,Xh,Xr,Xs,Xx,XI,W3,W6,W9,WA,WC,WE,WF,WG,WH,WJ,WK,WL,WM,WN,WP,WQ,WU,WV,WW,WY,WZ,Vb,Vc,Vf,Vg,Vh,Vi,Vj,Vk,Vl,VZ,Ua,Ub,Uc,Ud,Ug,Uh,Uk,Ux,U2,U3,U4,U5,U6,TG,Sj,Rf,Rh,y];all_goals tactic=>exact rfl))
theorem aKB {D:Nat→Option XFn} {K k:Nat} {rd:Option Nat} {L:List Nat} {a:XCode} {e:aH} {h:XH}:execW D K k rd (.loop L a) e h=oI (execW D K k rd a (aS L (zY k L e h)) (nG k L e h)) (execW D K k rd (.loop L a)):=iC
section
variable {x:Vn} (ok:x.Ok) {ill cl:Nat} {L:List (Nat×Nat)} {sn n:Int}
abbrev h77 (x:Vn) (L:List (Nat×Nat)) (n:Int):XH:=[chO L,some (.blk true (.cells true x.c)),some (.blk false (.cells true [.ch 0])),some (.blk true (.cells true [I n]))]
include ok in
theorem aEN (hill:ill<2^x.F) {i:Nat} (hi:i<x.bs.length) :
 aV 1 [1,4,7,8,10,11,30,31,36,37,38] (execW aA 77 1 none (match aCq with | .loop _ a=>a|c=>c) (aS [1,4,7,8,10,11,30,31,36,37,38] [I cl,.pt 1 0,.pt 2 0,I (bF x ill i:Nat),.pt 3 0,I ill,I sn,I n,rB (x.bs.map bI),I x.bs.length,I (i:Nat)]) (h77 x L n)) =
  some ([I cl,.pt 1 0,.pt 2 0,I (bF x ill (i+1):Nat),.pt 3 0,I ill,I sn,I n,rB (x.bs.map bI),I x.bs.length,I (i+1:Nat)],h77 x L n):=by
 obtain⟨b,hx⟩:=bK hi
 have hb:=ok.b b (List.mem_of_getElem? hx)
 have hF:=ok.F16
 have hp:=bA hF
 have a1:=cT hi
 have a2:=fD hi (by have:=ok.nb;omega)
 have l0:=aGt ok hill i
 have up:bF x ill (i+1)=brd ill (bF x ill i) b:=lR hx ill
 rw[up]
 generalize bF x ill i=o at *
 have e1:=pM (a:=ill) (j:=b.1) (by omega) (by omega)
 have e2:=pM (a:=ill) (j:=b.2) (by omega) (by omega)
 have s1:=w62 (j:=b.1) (by omega)
 have s2:=w62 (j:=b.2) (by omega)
 have p1:(2:Nat)^b.1≤2^16:=Nat.pow_le_pow_right (by omega) (by omega)
 have p2:(2:Nat)^b.2≤2^16:=Nat.pow_le_pow_right (by omega) (by omega)
 have o1:=dH cN (a:=o) (b:=2^b.2) (by omega) (by omega)
 have o1':=vL (a:=o) (i:=b.2) (n:=x.F) (by omega) hb.2.1
 have o2:=dH cN (a:=o|||2^b.2) (b:=2^b.1) (by omega) (by omega)
 have o3:=dH cN (a:=o) (b:=2^b.1) (by omega) (by omega)
 unfold brd orB
 generalize 2^b.1=q1 at *
 generalize 2^b.2=q2 at *
 cases h1:ill.testBit b.1<;>cases h2:ill.testBit b.2
 all_goals
  rw[h1]at e1
  rw[h2]at e2
  unfold aCq aIq
  dsimp only
  (sym=>(simp[Za,Zb,Zc,Zd,Ze,Zf,Zg,Zh,Zj,Zl,Zm,Zv,Zw,Z3,Z9,ZA,ZB,ZG,ZK,ZL,ZO,ZP,ZT,ZU,Yg,Yh,Yj,Yk,Yn,Ys,Yw,Yx,Yy,Yz,Y0,Y8,YA,YD,YO,YU,YX,YZ,Xb,Xd,Xi,Xr,Xs,Xt,Xv,Xx,XJ,We,Ws,W3,W4,W5,W6,W7,W8,W9,WA,WC,WE,WF,WH,WI,WK,WL,WM,WN,WO,WP,WQ,WR,WS,WT,WU,WV,WY,WZ,Vb,Ve,Vf,Vg,Vi,Vj,Vk,Vv,Vx,Vy,Vz,VQ,VR,VS,VT,VU,VV,VY,VZ,Ua,Ub,Uc,Ud,Ue,Uf,Ug,Uh,Ui,Uj,Uk,Um,Uu,Ux,Uy,Uz,U2,U3,U4,U5,U6,U7,U8,UF,Tf,Tg,Th,Ti,Tj,Tk,Tl,Tm,Tt,Tu,Tw,Tx,Ty,Tz,T0,T2,T4,T5,T6,T7,Su,SB,SC,SE,SF,SG,SI,Rf,Rh,a1,a2,hx,e1,e2,s1,s2,o1,o2,o3,aKB];all_goals tactic=>exact rfl))
end
theorem aHY {k cl:Nat} (hk:k<16) (hc:cl<65536):jP (2^k) cl=if cl.testBit k then 0 else 2^k:=by
 apply Nat.eq_of_testBit_eq
 intro i
 rw[bS (by omega),Nat.testBit_two_pow]
 by_cases hi:k=i
 ·subst hi
  cases h:cl.testBit k
  ·simp[Nat.testBit_two_pow];omega
  ·simp
 ·cases h:cl.testBit k
  ·simp[Nat.testBit_two_pow,hi]
  ·simp[hi]
section
variable {x:Vn} (ok:x.Ok) {ill cl:Nat} {L:List (Nat×Nat)} {sn n:Int}
include ok in
theorem aEM {o0:Nat} (ho:o0<2^x.F) (hcl:cl<2^x.F) {i:Nat} (hi:i<x.ps.length) :
 aV 1 [1,4,7,8,10,11,30,31,63,64,65] (execW aA 77 1 none (match xF with | .loop _ a=>a|c=>c) (aS [1,4,7,8,10,11,30,31,63,64,65] [I cl,.pt 1 0,.pt 2 0,I (pF x cl n o0 i:Nat),.pt 3 0,I ill,I sn,I n,rP (x.ps.map pI),I x.ps.length,I (i:Nat)]) (h77 x L n)) =
  some ([I cl,.pt 1 0,.pt 2 0,I (pF x cl n o0 (i+1):Nat),.pt 3 0,I ill,I sn,I n,rP (x.ps.map pI),I x.ps.length,I (i+1:Nat)],h77 x L n):=by
 obtain⟨p,hx⟩:=bK hi
 have hb:=ok.p p (List.mem_of_getElem? hx)
 have hF:=ok.F16
 have hp:=bA hF
 have a1:=cT hi
 have a2:=fD hi (by have:=ok.np;omega)
 have l0:=aIu (cl:=cl) (n:=n) ok ho i
 have up:pF x cl n o0 (i+1)=plt cl n (pF x cl n o0 i) p:=lR hx o0
 rw[up]
 generalize pF x cl n o0 i=o at *
 have e1:=pM (a:=o) (j:=p.2.1) (by omega) (by omega)
 have s1:=w62 (j:=p.2.2) (by omega)
 have p1:(2:Nat)^p.2.2≤2^16:=Nat.pow_le_pow_right (by omega) (by omega)
 have d0:=aHY (k:=p.2.2) (cl:=cl) (by omega) (by omega)
 have d1:=jR cN (a:=2^p.2.2) (b:=cl) (by omega) (by omega)
 rw[d0]at d1
 have o1:=dH cN (a:=o) (b:=2^p.2.2) (by omega) (by omega)
 have o2:=dH cN (a:=o) (b:=0) (by omega) (by omega)
 rw[Nat.or_zero]at o2
 have o2:bZ .or .i64 (o:Int) 0=(o:Int):=o2
 unfold plt orB
 generalize 2^p.2.2=q1 at *
 by_cases hn:(p.1:Int)=n
 ·have c1:((p.1:Int)=n)=True:=eq_true hn
  have g1:decide ((p.1:Int)=n)=true:=decide_eq_true hn
  rw[g1]
  cases h1:o.testBit p.2.1
  ·rw[h1]at e1
   unfold xF
   dsimp only
   (sym=>(simp[Za,Zb,Zc,Zd,Ze,Zf,Zg,Zh,Zj,Zl,Zm,Zp,Zq,Zv,Zw,Zy,Z3,Z8,ZA,ZG,ZK,ZL,ZO,ZP,ZT,ZU,ZV,Ya,Yg,Yh,Yj,Yq,Ys,Yw,Yx,YX,Xb,Xd,Xi,Xr,Xs,Xv,Xx,Ws,W3,W4,W5,W6,W7,W8,W9,WA,WC,WE,WF,WH,WI,WK,WL,WM,WN,WO,WP,WQ,WR,WS,WT,WU,WV,WY,WZ,Vb,Ve,Vf,Vg,Vi,Vj,Vk,Vv,Vx,Vy,V0,V1,V3,VQ,VR,VS,VT,VU,VV,VY,VZ,Ua,Ub,Uc,Ud,Ue,Uf,Ug,Uh,Ui,Uj,Uk,Um,Un,Uo,Uu,Ux,Uy,U2,U3,U4,U5,U6,U7,U8,UF,Tf,Tg,Th,Ti,Tj,Tk,Tl,Tm,Tt,Tu,Tw,Ty,Tz,T2,T5,T6,T7,SB,SC,SD,SF,SG,SI,Rf,Rh,a1,a2,hx,e1,c1];all_goals tactic=>exact rfl))
  ·rw[h1]at e1
   cases h2:cl.testBit p.2.2
   all_goals
    rw[h2]at d1
    unfold xF
    dsimp only
    (sym=>(simp[Za,Zb,Zc,Zd,Ze,Zf,Zg,Zh,Zj,Zl,Zm,Zp,Zq,Zv,Zw,Zy,Z3,Z8,ZA,ZG,ZK,ZL,ZO,ZP,ZT,ZU,ZV,Ya,Yg,Yh,Yj,Yn,Yq,Ys,Yw,Yx,Y9,YX,Xb,Xd,Xi,Xr,Xs,Xv,Xx,Ws,W3,W4,W5,W6,W7,W8,W9,WA,WC,WE,WF,WH,WI,WK,WL,WM,WN,WO,WP,WQ,WR,WS,WT,WU,WV,WY,WZ,Vb,Ve,Vf,Vg,Vi,Vj,Vk,Vv,Vx,Vy,V0,V1,V3,VQ,VR,VS,VT,VU,VY,VZ,Ua,Ub,Uc,Ud,Ue,Uf,Ug,Uh,Ui,Uj,Uk,Um,Uo,Uq,Ur,Uu,Ux,Uy,U2,U3,U4,U5,U6,U7,U8,UF,Tf,Tg,Th,Ti,Tj,Tk,Tl,Tm,Tt,Tu,Tw,Ty,Tz,T2,T5,T6,T7,SA,SB,SC,SD,SF,SG,SI,Rf,Rh,a1,a2,hx,e1,c1,s1,d1,o1,o2];all_goals tactic=>exact rfl))
 ·have c1:((p.1:Int)=n)=False:=eq_false hn
  have g1:decide ((p.1:Int)=n)=false:=decide_eq_false hn
  rw[g1]
  unfold xF
  dsimp only
  (sym=>(simp[Za,Zb,Zc,Zd,Ze,Zf,Zg,Zh,Zj,Zl,Zm,Zp,Zs,Zv,Zw,Zy,Z3,Z8,ZA,ZG,ZK,ZL,ZW,Ya,Yg,Yh,Yj,Yq,Ys,Yw,Yx,YX,Xb,Xd,Xi,Xr,Xv,Xx,Ws,W3,W4,W5,W6,W7,W8,W9,WA,WC,WE,WF,WH,WI,WK,WL,WM,WO,WQ,WR,WS,WT,WY,WZ,Vb,Ve,Vf,Vg,Vv,Vx,Vy,V0,V1,V3,VQ,VR,VS,VT,VU,VV,VY,VZ,Ua,Ub,Uc,Ud,Ue,Uf,Ug,Uh,Ui,Uj,Uk,Um,Un,Uu,Ux,Uy,Uz,U3,U4,U5,U6,U7,U8,UF,Tf,Tg,Th,Ti,Tj,Tk,Tl,Tm,Tt,Tu,Tw,Ty,Tz,T2,T5,T6,T7,SB,SC,SD,SF,SG,SI,Rf,Rh,a1,a2,hx,c1];all_goals tactic=>exact rfl))
end
abbrev gT (n:Nat) (L:List (Nat×Nat)):XH:=[some (.loop 77 1 [.pt 1 0,.pt 3 0] .ready),some (.blk false (.cells true [.ch 2])),chO L,some (.blk true (.cells true [I n]))]
theorem aKH (n:Nat) (L:List (Nat×Nat)):aEc 4 (gT n L):=by
 refine⟨fun _=>rfl,fun _ _=>rfl,fun _=>rfl,?_,?_⟩
 ·intro a e h0 h1
  (sym=>(simp[Xd,Xh,Xx,XI,WE,WI,WK,WM,WO,WP,WQ,WR,WS,WY,WZ,Vb,Vc,Ve,Vf,Vg,Vh,VR,VS,VZ,Ua,Ub,Uc,Ud,Ue,Uf,Ux,U2,U3,U4,U5,U6,T5,Rf,Rh,h0,h1];all_goals tactic=>exact rfl))
 ·intro a
  (sym=>(simp[Za,Xa,Xd,Xu,Xx,XM,Wh,WE,WI,WK,WM,WO,WP,WQ,WR,WS,WY,WZ,Vb,Vc,Ve,Vf,Vg,Vh,Vv,VC,VD,VE,VZ,Ua,Ub,Uc,Ud,Ue,Uf,Ux,U2,U3,U4,U5,U6,U9,UD,Su,Rf,Rh];all_goals tactic=>exact rfl))
theorem yT (v n:Nat) (L:List (Nat×Nat)) (hl:L.length<16) (hn:n≤1000):Yd (gT n L) (gT n (L++[(v,n+1)])) v true:=by
 have b1:(L.length<16)=True:=eq_true hl
 have a2:IntKind.i64.wrap ((n:Int)+1)=(n:Int)+1:=aE (by omega) (by omega)
 have y:runYW aA (.fn (.yield 0) [] []) [I (v:Nat)] (gT n L)=some (.bool true,gT n (L++[(v,n+1)])):=by
  rw[jG (K:=77) (d:=x77) (site:=1) (vs:=[.pt 1 0,.pt 3 0]) rfl rfl (by rfl) rfl]
  (sym=>(simp[Za,Zb,Zc,Zd,Ze,Zf,Zh,Zl,Zm,Zv,Z0,Z3,ZG,ZK,Yj,YT,YY,Xd,Xi,Xk,Xs,Xx,Wq,W3,W4,W5,W6,W7,W9,WA,WC,WE,WI,WK,WM,WO,WP,WQ,WR,WS,WY,WZ,Vb,Vc,Ve,Vf,Vg,Vh,VB,VE,VQ,VZ,Ua,Ub,Uc,Ud,Ue,Uf,Ug,Uh,Ui,Um,Uu,Ux,U2,U3,U4,U5,U6,U7,U8,UF,UG,UH,UI,UQ,UR,Tf,Tg,Tk,Tt,Ty,T2,T6,T7,TG,TY,TZ,Sa,Sb,Sk,Sl,Sm,Sn,SM,SS,SU,Rf,Rh,b1,a2];all_goals tactic=>exact rfl))
 intro a
 (sym=>(simp[Zd,Ze,YX,Xd,Xh,Xr,Xs,Xx,XI,W3,W6,W9,WA,WC,WE,WF,WG,WH,WJ,WK,WL,WM,WN,WP,WQ,WU,WV,WW,WY,WZ,Vb,Vc,Vf,Vg,Vh,Vi,Vj,Vk,Vl,VZ,Ua,Ub,Uc,Ud,Ug,Uh,Uk,Ux,U2,U3,U4,U5,U6,TG,Sj,Rf,Rh,y];all_goals tactic=>exact rfl))
theorem sI {p q:Nat→Bool} (h:∀ k,p k=true→q k=false):∀ l:List Nat,(l.filter fun k=>p k||q k).length=(l.filter p).length+(l.filter q).length
 | []=>rfl
 | k::l=>by
   have ih:=sI h l
   simp only[List.filter_cons]
   cases hp:p k
   ·cases hq:q k
    ·simpa using ih
    ·simp only[Bool.false_or,if_true,Bool.false_eq_true,if_false,List.length_cons];omega
   ·have hq:=h k hp
    rw[hq]
    simp only[Bool.true_or,if_true,Bool.false_eq_true,if_false,List.length_cons];omega
def mF (x:Vn) (cl:Nat):Nat→List (Nat×Nat)
 | 0=>(el (bV x cl 0)).map fun k=>(k,0)
 | n+1=>mF x cl n++(el (jP (bV x cl (n+1)) (bV x cl n))).map fun k=>(k,n+1)
theorem tY (s k i:Nat) (c:Bool):(orB s c k).testBit i=(s.testBit i||(c&&decide (k=i))):=by
 unfold orB
 cases c
 ·simp
 ·rw[if_pos rfl,eP];simp
theorem vV {α:Type} {f:Nat→α→Nat} (hf:∀ o x i,o.testBit i=true→(f o x).testBit i=true):∀ (l:List α) (o i:Nat),o.testBit i=true→(l.foldl f o).testBit i=true
 | [],_,_,h=>h
 | x::l,o,i,h=>vV hf l (f o x) i (hf o x i h)
theorem aIf {ill:Nat} (o:Nat) (b:Nat×Nat) (i:Nat) (h:o.testBit i=true):(brd ill o b).testBit i=true:=by
 unfold brd
 rw[tY,tY,h];simp
theorem aHs {cl:Nat} {n:Int} (o:Nat) (p:Nat×Nat×Nat) (i:Nat) (h:o.testBit i=true):(plt cl n o p).testBit i=true:=by
 unfold plt
 rw[tY,h];simp
theorem aAN {x:Vn} (ok:x.Ok) {cl:Nat} (hcl:cl<2^x.F):∀ n i,(bV x cl n).testBit i=true→(bV x cl (n+1)).testBit i=true:=by
 have hp:=bA ok.F16
 have dj:∀ n i,(bV x cl n).testBit i=true→cl.testBit i=false:=by
  intro n
  induction n with
  | zero =>
    intro i hi
    unfold bV at hi
    rw[bS (by omega)]at hi
    simp only[Bool.and_eq_true,Bool.not_eq_true']at hi
    exact hi.2.2
  | succ n ih =>
    intro i hi
    rw[bV,aGT]at hi
    have main:∀ (l:List (Nat×Nat×Nat)) (o:Nat),(∀ i,o.testBit i=true→cl.testBit i=false)→∀ i,(l.foldl (plt cl (n:Int)) o).testBit i=true→cl.testBit i=false:=by
     intro l
     induction l with
     | nil=>exact fun o h=>h
     | cons p l ihl =>
       intro o h
       refine ihl (plt cl n o p) fun i hi=>?_
       unfold plt at hi
       rw[tY,Bool.or_eq_true]at hi
       rcases hi with hi|hi
       ·exact h i hi
       ·simp only[Bool.and_eq_true,Bool.not_eq_true',decide_eq_true_eq]at hi
        rw[←hi.2];exact hi.1.2.2
    refine main x.ps _ (fun i hi=>?_) i hi
    rw[bS (by omega)]at hi
    simp only[Bool.and_eq_true,Bool.not_eq_true']at hi
    exact hi.2.2
 intro n i hi
 rw[bV,aGT]
 refine vV aHs _ _ _ ?_
 have hlt:=pL (iX ok cl n) (i:=i)
 have hi64:i<64:=by
  by_cases h:i<64
  ·exact h
  ·rw[hlt (by have:=ok.F16;omega)]at hi;simp at hi
 rw[bS (by omega),dj n i hi]
 have:(bor x (bV x cl n)).testBit i=true:=vV aIf _ _ _ hi
 simp[this,hi64]
theorem aCX {x:Vn} (ok:x.Ok) {cl:Nat} (hcl:cl<2^x.F):∀ n,(mF x cl n).length=(el (bV x cl n)).length
 | 0=>by simp[mF]
 | n+1=>by
   have hp:=bA ok.F16
   have hl:=iX ok cl n
   rw[mF,List.length_append,List.length_map,aCX ok hcl n]
   have e:el (bV x cl (n+1))=(List.range 16).filter fun k=>(bV x cl n).testBit k||(jP (bV x cl (n+1)) (bV x cl n)).testBit k:=by
    unfold el
    refine List.filter_congr fun k hk=>?_
    rw[List.mem_range]at hk
    rw[bS (by omega)]
    cases h:(bV x cl n).testBit k
    ·cases (bV x cl (n+1)).testBit k<;>simp;omega
    ·rw[aAN ok hcl n k h];rfl
   rw[e,sI]
   ·rfl
   ·intro k hk
    rw[bS (by omega),hk];simp
theorem aJp {x:Vn} (ok:x.Ok) {cl:Nat} (hcl:cl<2^x.F) (n:Nat):(mF x cl n).length≤16:=by
 rw[aCX ok hcl];exact zQ _
theorem aKO {a n:Nat} {L:List (Nat×Nat)} (ha:a<65536) (hn:n≤1000) (hl:L.length+(el a).length≤16) :
 runW aA 86 [.fn (.yield 0) [] [],.pt 4 0] (gT n L++[cI a])=some (.tup [],gT n (L++(el a).map fun k=>(k,n+1))++[cI 0]):=by
 have e:=qW (n:=4) (G:=fun i=>gT n (L++((el a).take i).map fun k=>(k,n+1))) ha (fun i _=>aKH n _) (by
  intro i v hv
  have h1:=yT v n (L++((el a).take i).map fun k=>(k,n+1)) (by have:=eI hv;simp;omega) hn
  have e1:(L++((el a).take i).map fun k=>(k,n+1))++[(v,n+1)]=L++((el a).take (i+1)).map fun k=>(k,n+1):=by
   rw[List.take_add_one,hv];simp
  rw[e1]at h1
  exact h1)
 rw[List.take_length]at e
 simpa using e
theorem aKP {a:Nat} (ha:a<65536):runW aA 86 [.fn (.yield 0) [] [],.pt 3 0] (gS []++[cI a])=some (.tup [],gS ((el a).map fun k=>(k,0))++[cI 0]):=by
 have hl:=zQ a
 have e:=qW (n:=3) (G:=fun i=>gS (((el a).take i).map fun k=>(k,0))) ha (fun i _=>aKI _) (by
  intro i v hv
  have h1:=yS v (((el a).take i).map fun k=>(k,0)) (by have:=eI hv;simp;omega)
  have e1:(((el a).take i).map fun k=>(k,0))++[(v,0)]=((el a).take (i+1)).map fun k=>(k,0):=by
   rw[List.take_add_one,hv];simp
  rw[e1]at h1
  exact h1)
 rw[List.take_length]at e
 simpa using e
abbrev g77 (x:Vn) (L:List (Nat×Nat)):XH:=[chO L,some (.blk true (.cells true x.c)),some (.blk false (.cells true [.ch 0]))]
theorem aGW {x:Vn} (ok:x.Ok) {cl:Nat} (hcl:cl<2^x.F) {sn:Int} {n:Nat} (hn:n≤1000) (hs:(n:Int)<sn) :
 aV 1 [1,4,7,8,30,31] (execW aA 77 1 none (match aCp with | .loop _ a=>a|c=>c) (aS [1,4,7,8,30,31] [I cl,.pt 1 0,.pt 2 0,I (bV x cl n:Nat),I sn,I (n:Nat)]) (g77 x (mF x cl n))) =
  some ([I cl,.pt 1 0,.pt 2 0,I (bV x cl (n+1):Nat),I sn,I (n+1:Nat)],g77 x (mF x cl (n+1))):=by
 have hp:=bA ok.F16
 have hi:=iX ok cl n
 have hi2:=iX ok cl (n+1)
 have c1:((n:Int)<sn)=True:=eq_true hs
 have a2:IntKind.i64.wrap ((n:Int)+1)=(n:Int)+1:=aE (by omega) (by omega)
 have lb:=aGt ok hi x.bs.length
 have eb:bF x (bV x cl n) x.bs.length=bor x (bV x cl n):=by unfold bF bor;rw[List.take_length]
 rw[eb]at lb
 have d1:=jR cN (a:=bor x (bV x cl n)) (b:=cl) (by omega) (by omega)
 have dl:=iR (bor x (bV x cl n)) cl
 have ep:pF x cl (n:Int) (jP (bor x (bV x cl n)) cl) x.ps.length=bV x cl (n+1):=by unfold pF;rw[List.take_length];rfl
 have z:=Te (n:=(x.bs.length:Int))
 have z2:=Te (n:=(x.ps.length:Int))
 have d2:=jR cN (a:=bV x cl (n+1)) (b:=bV x cl n) (by omega) (by omega)
 have dl2:=iR (bV x cl (n+1)) (bV x cl n)
 have w8:=w80 (a:=jP (bV x cl (n+1)) (bV x cl n))
 have e86:=aKO (a:=jP (bV x cl (n+1)) (bV x cl n)) (n:=n) (L:=mF x cl n) (by omega) hn (by
  have:=aJp ok hcl (n+1)
  rw[mF,List.length_append,List.length_map]at this
  exact this)
 rw[show mF x cl n++(el (jP (bV x cl (n+1)) (bV x cl n))).map (fun k=>(k,n+1))=mF x cl (n+1) from rfl]at e86
 have e86:runW aA 86 [.fn (.yield 0) [] [],.pt 4 0] [some (.loop 77 1 [.pt 1 0,.pt 3 0] .ready),some (.blk false (.cells true [.ch 2])),chO (mF x cl n),some (.blk true (.cells true [I n])),cI (jP (bV x cl (n+1)) (bV x cl n))] =
  some (.tup [],[some (.loop 77 1 [.pt 1 0,.pt 3 0] .ready),some (.blk false (.cells true [.ch 2])),chO (mF x cl (n+1)),some (.blk true (.cells true [I n])),some (.blk true (.cells true [.int .i64 0]))]):=e86
 have rb:=fun i hh=>aEM (L:=mF x cl n) (ill:=bV x cl n) (sn:=sn) (n:=(n:Int)) ok (o0:=jP (bor x (bV x cl n)) cl) (by omega) hcl (i:=i) hh
 have ra:=fun i hh=>aEN (L:=mF x cl n) (cl:=cl) (sn:=sn) (n:=(n:Int)) ok hi (i:=i) hh
 unfold aCp
 dsimp only
 sym =>
  simp[Za,Zb,Zc,Zf,Zh,Zl,Zm,Zv,Zw,Z3,Z8,ZF,ZG,ZK,ZL,Ya,Yc,Ys,Xi,Wq,W3,W4,W5,W6,W7,W9,WA,WC,VQ,VT,VU,Ub,Uc,Ud,Ug,Uh,Ui,Um,Uu,Uy,U7,U8,UF,Tf,Tg,Tk,Tl,Tm,Tt,Tu,Tw,Ty,Tz,T6,T7,c1]
  tactic =>
   unfold aCq
   rw[aD x.bs.length (fun i=>[I cl,.pt 1 0,.pt 2 0,I (bF x (bV x cl n) i:Nat),.pt 3 0,I (bV x cl n:Nat),I sn,I (n:Nat),rB (x.bs.map bI),I x.bs.length,I (i:Nat)]) (fun _=>h77 x (mF x cl n) n)]
   ·rw[eb]
    sym =>
     simp[Za,Zb,Zf,Zh,Zl,Zm,Zv,Z3,Z8,ZF,ZG,Ya,Yc,Ys,W3,W4,W5,WC,VQ,VT,VV,Ui,Uz,Te,Tf,Tg,Tk,Tt,Tu,Tx,Ty,Tz,T0,T4,T6,T7,SA,z,d1]
     tactic =>
      unfold xF
      rw[aD x.ps.length (fun i=>[I cl,.pt 1 0,.pt 2 0,I (pF x cl (n:Int) (jP (bor x (bV x cl n)) cl) i:Nat),.pt 3 0,I (bV x cl n:Nat),I sn,I (n:Nat),rP (x.ps.map pI),I x.ps.length,I (i:Nat)]) (fun _=>h77 x (mF x cl n) n)]
      ·rw[ep]
       generalize jP (bV x cl (n+1)) (bV x cl n)=df at *
       generalize bV x cl (n+1)=q1 at *
       generalize mF x cl (n+1)=L2 at *
       generalize bV x cl n=q0 at *
       generalize mF x cl n=L1 at *
       (sym=>(simp[Za,Zb,Zf,Zh,Zl,Zm,Zv,Z3,ZO,ZP,ZT,ZU,Yj,Ys,YX,Xd,Xh,Xr,Xu,Xx,X0,XI,W3,W6,W9,WA,WC,WE,WF,WG,WH,WI,WJ,WK,WL,WM,WN,WO,WP,WQ,WR,WS,WT,WU,WV,WW,WY,WZ,Vb,Vc,Ve,Vf,Vg,Vh,Vi,Vj,Vk,Vl,VQ,VR,VS,VT,VV,VZ,Ua,Ub,Uc,Ud,Ue,Uf,Ug,Uh,Uk,Um,Ux,Uz,U2,U3,U4,U5,U6,Te,Tt,Tu,Tx,Ty,Tz,T0,T2,T4,T5,T6,T7,TY,TZ,Sc,Sd,Se,Sf,Sg,Si,SA,Rf,Rh,z2,d2,w8,e86,a2];all_goals tactic=>exact rfl))
      ·(sym=>(simp[Za,Y9,YX,Xb,Xd,Xr,Xv,Xx,W3,WE,WF,WH,WI,WK,WL,WM,WO,WQ,WR,WS,WT,WY,WZ,Vb,Ve,Vf,Vg,VQ,VR,VS,VZ,Ua,Ub,Uc,Ud,Ue,Uf,Uk,Ux,U3,U4,U5,U6,T5,Rf,Rh];all_goals tactic=>exact rfl))
      ·exact rb
      ·rw[ep]
       generalize bV x cl (n+1)=q1 at *
       (sym=>(simp[Za,Zb,Zf,Zh,Zl,Zm,Z3,Ys,VQ,VT,VV,VW,Uz,Te,Tt,Tu,Tx,Tz,T0,T6,z2];all_goals tactic=>exact rfl))
   ·(sym=>(simp[Za,Y9,YX,Xb,Xd,Xr,Xv,Xx,W3,WE,WF,WH,WI,WK,WL,WM,WO,WQ,WR,WS,WT,WY,WZ,Vb,Ve,Vf,Vg,VQ,VR,VS,VZ,Ua,Ub,Uc,Ud,Ue,Uf,Uk,Ux,U3,U4,U5,U6,T5,Rf,Rh];all_goals tactic=>exact rfl))
   ·exact ra
   ·(sym=>(simp[Za,Zb,Zf,Zh,Zl,Zm,Z3,Ys,VQ,VT,VV,VW,Uz,Te,Tt,Tu,Tx,Tz,T0,T6,z];all_goals tactic=>exact rfl))
theorem aGx {run:fQ} {runY:hO} {l:List DOper} {e:aH} {h:XH}:eK run runY l e h=xo none run runY l e h:=rfl
abbrev chC (L:List (Nat×Nat)):Option XB:=some (.blk true (.map true ((.agg [.agg []],.fp [] 16 1)::aBz L)))
theorem w77 {x:Vn} (ok:x.Ok) {cl:Nat} (hcl:cl<2^x.F) {sn:Nat} (hs:sn≤1000):runW aA 77 [.agg x.c,I cl,I sn,.ch 0] [chO []]=some (.tup [],[chC (mF x cl sn)]):=by
 have hp:=bA ok.F16
 have hi:=iX ok cl 0
 have hk:=ok.s
 have d1:=jR cN (a:=x.sick) (b:=cl) (by omega) (by omega)
 rw[show jP x.sick cl=bV x cl 0 from rfl]at d1
 have w8:=w80 (a:=bV x cl 0)
 have e86:runW aA 86 [.fn (.yield 0) [] [],.pt 3 0] [some (.loop 77 0 [.pt 1 0] .ready),some (.blk false (.cells true [.ch 2])),some (.blk true (.map true [(.agg [.agg []],.fp [] 16 0)])),cI (bV x cl 0)] =
  some (.tup [],[some (.loop 77 0 [.pt 1 0] .ready),some (.blk false (.cells true [.ch 2])),chO (mF x cl 0),some (.blk true (.cells true [.int .i64 0]))]):=aKP (a:=bV x cl 0) (by omega)
 have z:=Te (n:=(sn:Int))
 rw[r77 (by simp)]
 unfold x77
 dsimp only
 rw[aGx]
 have rd:=fun i (hh:i<sn)=>aGW (x:=x) ok hcl (sn:=(sn:Int)) (n:=i) (by omega) (by omega)
 generalize hf0:mF x cl 0=L0 at e86
 generalize hi0:bV x cl 0=q0 at e86 w8 d1
 sym =>
  simp[Za,Zb,Zf,Zh,Zl,Zm,Zo,Zv,Zz,Z3,Z8,ZG,ZO,ZP,ZT,ZU,Ya,YX,Xd,Xh,Xi,Xk,Xl,Xr,Xu,Xx,X0,XI,We,Wg,Wi,Ws,W3,W4,W5,W6,W9,WA,WB,WC,WE,WF,WG,WH,WJ,WK,WL,WM,WN,WP,WQ,WU,WV,WW,WY,WZ,Vb,Vc,Vf,Vg,Vh,Vi,Vj,Vk,Vl,VO,VY,VZ,Ua,Ub,Uc,Ud,Ug,Uh,Uk,Um,Ux,U2,U3,U4,U5,U6,U7,U8,UD,UE,US,UT,Tf,Tg,Tk,Tn,Tt,Tu,Ty,Tz,T2,T6,T7,TY,TZ,Sc,Sd,Se,Sf,Sg,Si,SA,Rb,Rc,Rf,Rg,Rh,Rj,Rk,d1,w8,e86]
  tactic =>
   unfold aCp
   rw[aD sn (fun i=>[I cl,.pt 1 0,.pt 2 0,I (bV x cl i:Nat),I sn,I (i:Nat)]) (fun i=>g77 x (mF x cl i))]
   ·generalize bV x cl sn=q at *
    generalize mF x cl sn=L at *
    (sym=>(simp[Za,Zb,Zf,Zh,Zl,Zm,Z3,Ys,Xa,Xu,XM,Wh,W3,W6,WK,WO,WQ,WR,WS,WY,WZ,Ve,Vf,Vv,VA,VC,VD,VE,VF,VH,VJ,VQ,VT,VV,VZ,Ua,Ud,Ue,Uf,Uz,U3,U4,U5,U9,UD,Te,Tt,Tu,Tx,Tz,T0,T4,T6,Su,SZ,Ra,Rd,Re,z];all_goals tactic=>exact rfl))
   ·rw[hf0,hi0]; (sym=>(simp[Za,Y9,YX,Xd,Xr,Xx,W3,WB,WE,WF,WH,WI,WK,WL,WM,WO,WQ,WR,WS,WT,WY,WZ,Vb,Ve,Vf,Vg,VO,VR,VS,VZ,Ua,Ub,Uc,Ud,Ue,Uf,Uk,Ux,U3,U4,U5,U6,T5,Rf,Rh];all_goals tactic=>exact rfl))
   ·exact rd
   ·generalize bV x cl sn=q at *
    generalize mF x cl sn=L at *
    (sym=>(simp[Za,Zb,Zf,Zh,Zl,Zm,Z3,Ys,VQ,VT,VV,VW,Uz,Te,Tt,Tu,Tx,Tz,T0,T6,z];all_goals tactic=>exact rfl))
abbrev nev:Int:=1125899906842624
theorem w50:∀ F,F<16→runW aA 50 [.sl 0 0 1 1,I ((F+1:Nat):Int)] [some (.blk true (.cells true [I nev]))]=some (.sl 1 0 1 (F+1),[some (.blk true (.cells true [I nev])),some (.blk true (.cells true ((List.replicate (F+1) nev).map I)))])
 | 0,_=>aT.2 ⟨400,by kernel_rfl⟩
 | 1,_=>aT.2 ⟨400,by kernel_rfl⟩
 | 2,_=>aT.2 ⟨400,by kernel_rfl⟩
 | 3,_=>aT.2 ⟨400,by kernel_rfl⟩
 | 4,_=>aT.2 ⟨400,by kernel_rfl⟩
 | 5,_=>aT.2 ⟨400,by kernel_rfl⟩
 | 6,_=>aT.2 ⟨400,by kernel_rfl⟩
 | 7,_=>aT.2 ⟨400,by kernel_rfl⟩
 | 8,_=>aT.2 ⟨400,by kernel_rfl⟩
 | 9,_=>aT.2 ⟨400,by kernel_rfl⟩
 | 10,_=>aT.2 ⟨400,by kernel_rfl⟩
 | 11,_=>aT.2 ⟨400,by kernel_rfl⟩
 | 12,_=>aT.2 ⟨400,by kernel_rfl⟩
 | 13,_=>aT.2 ⟨400,by kernel_rfl⟩
 | 14,_=>aT.2 ⟨400,by kernel_rfl⟩
 | 15,_=>aT.2 ⟨400,by kernel_rfl⟩
 | _+16,h=>absurd h (by omega)

abbrev gW (x:Vn) (cl sn:Nat) (l:List Int) (c:Option XB):XH:=[some (.loop 20 0 [.pt 1 0] .ready),some (.blk false (.cells true [.sl 2 0 1 l.length])),some (.blk true (.cells true (l.map I))),some (.blk true (.cells true x.c)),some (.blk true (.cells true [I cl])),some (.blk true (.cells true [I sn])),c]
theorem y20 {l:List Int} {v n:Nat} (hv:v<l.length) (hl:l.length≤16):runYW aA (.fn (.yield 0) [] []) [.agg [I (v:Nat),I (n:Nat)]] [some (.loop 20 0 [.pt 1 0] .ready),some (.blk false (.cells true [.sl 2 0 1 l.length])),some (.blk true (.cells true (l.map I)))]=some (.bool true,[some (.loop 20 0 [.pt 1 0] .ready),some (.blk false (.cells true [.sl 2 0 1 l.length])),some (.blk true (.cells true ((l.set v n).map I)))]):=by
 have e0:((0:Int)≤(v:Int))=True:=eq_true (by omega)
 have e1:((v:Int)<((l.length:Nat):Int))=True:=eq_true (by omega)
 have e6:(v+1≤l.length)=True:=eq_true (by omega)
 rw[←aEC hv]
 generalize hk:l.length=k at *
 rw[jG (K:=20) (d:=x20) (site:=0) (vs:=[.pt 1 0]) rfl rfl (by rfl) rfl]
 (sym=>(simp[Za,Zb,Zc,Zf,Zh,Zl,Zm,Zw,Z8,ZA,ZG,ZK,ZL,Ya,Yf,Yw,Yx,YY,Xc,Xd,Xi,Xs,Xw,Xx,Wq,Ws,W3,W4,W5,W6,W7,W9,WA,WC,WE,WI,WK,WM,WO,WQ,WR,WS,WY,WZ,Vb,Vc,Ve,Vf,Vg,Vh,VB,VE,VQ,VZ,Ua,Ub,Uc,Ud,Ue,Uf,Ug,Uh,Ui,Um,Uu,Ux,U3,U4,U5,U6,U7,U8,UF,UQ,UR,Tf,Tg,Tk,Tl,Tm,Ty,T2,T6,TI,TJ,TN,TY,TZ,Sa,Sb,Sk,Sl,Sm,Sn,e0,e1,e6,hk];all_goals tactic=>exact rfl))
theorem aEO {x:Vn} {cl sn k:Nat} {l:List Int} {p:Nat×Nat} {L:List (Nat×Nat)} (hl:l.length=k) (hk:k≤16) (hv:p.1<k) :
 aV 6 [0,13] (execW aA 76 6 none (match aCr with | .loop _ a=>a|c=>c) (aS [0,13] [.fn (.yield 0) [] [],.ch 6]) (gW x cl sn l (chC (p::L))))=some ([.fn (.yield 0) [] [],.ch 6],gW x cl sn (l.set p.1 p.2) (chC L)):=by
 have y:=y20 (n:=p.2) (l:=l) (v:=p.1) (by omega) (by omega)
 rw[gW,gW,List.length_set,hl]at *
 unfold aCr
 dsimp only
 have e1:chC (p::L)=some (.blk true (.map true ((.agg [.agg []],.fp [] 16 1)::(.nilifc,.agg [I p.1,I p.2])::aBz L))):=rfl
 rw[e1,show chC L=some (.blk true (.map true ((.agg [.agg []],.fp [] 16 1)::aBz L))) from rfl]
 generalize aBz L=sl
 generalize l.set p.1 (p.2:Int)=l2 at *
 (sym=>(simp[Za,Zb,Zc,Zf,Zg,Zh,Zj,Zl,Zm,Zv,Zw,Z5,ZE,ZG,ZK,ZL,ZO,ZP,ZX,Yi,YX,YZ,Xc,Xd,Xh,Xi,Xr,Xs,Xt,Xw,Xx,XI,Ws,W3,W4,W5,W6,W7,W8,W9,WA,WC,WE,WF,WG,WH,WI,WJ,WK,WL,WM,WN,WO,WP,WQ,WR,WS,WT,WU,WV,WW,WY,WZ,Vb,Vc,Ve,Vf,Vg,Vh,Vi,Vj,Vk,Vl,Vv,Vx,Vy,V0,V1,V3,VQ,VR,VS,VT,VU,VV,VZ,Ua,Ub,Uc,Ud,Ue,Uf,Ug,Uh,Uk,Um,Uq,Uu,Ux,U2,U3,U4,U5,U6,U7,U8,UF,Tf,Tg,Tj,Tl,Tm,Tu,Tw,Ty,Tz,T2,T5,T6,Sj,SB,SC,SD,SF,SG,SI,SN,SV,SW,SY,Rf,Rh,y];all_goals tactic=>exact rfl))
def whL (F:Nat) (L:List (Nat×Nat)):List Int:=L.foldl (fun o p=>o.set p.1 (p.2:Int)) (List.replicate F nev)
theorem tO {F:Nat} {L:List (Nat×Nat)}:(whL F L).length=F:=by
 have:∀ (M:List (Nat×Nat)) (o:List Int),(M.foldl (fun o p=>o.set p.1 (p.2:Int)) o).length=o.length:=by
  intro M
  induction M with
  | nil=>intro o;rfl
  | cons p M ih=>intro o;rw[List.foldl_cons,ih,List.length_set]
 rw[whL,this,List.length_replicate]
theorem aEj {F:Nat} {L:List (Nat×Nat)} {i:Nat} {p:Nat×Nat} (h:L[i]?=some p):whL F (L.take (i+1))=(whL F (L.take i)).set p.1 (p.2:Int):=by
 rw[whL,List.take_add_one,h,List.foldl_append];rfl
theorem aLl {x:Vn} (ok:x.Ok) {cl sn:Nat} (hcl:cl<2^x.F) (hs:sn≤1000) (hm:∀ p∈mF x cl sn,p.1<x.F) :
 runW aA 76 [.fn (.yield 0) [] [],.pt 3 0,.pt 4 0,.pt 5 0] [some (.loop 20 0 [.pt 1 0] .ready),some (.blk false (.cells true [.sl 2 0 1 x.F])),some (.blk true (.cells true ((List.replicate x.F nev).map I))),some (.blk true (.cells true x.c)),some (.blk true (.cells true [I cl])),some (.blk true (.cells true [I sn]))] =
  some (.tup [],[some (.loop 20 0 [.pt 1 0] .ready),some (.blk false (.cells true [.sl 2 0 1 x.F])),some (.blk true (.cells true ((whL x.F (mF x cl sn)).map I))),some (.blk true (.cells true x.c)),some (.blk true (.cells true [I cl])),some (.blk true (.cells true [I sn]))]):=by
 have w:=w77 ok hcl hs
 have hF:=ok.F16
 generalize hL:mF x cl sn=L at *
 have rd:=fun(i:Nat) (hi:i<L.length)=>aEO (x:=x) (cl:=cl) (sn:=sn) (L:=L.drop (i+1)) (p:=L[i]) (tO (F:=x.F) (L:=L.take i)) hF (hm _ (List.getElem_mem hi))
 have z:(whL x.F (L.take 0))=List.replicate x.F nev:=rfl
 generalize hr:(List.replicate x.F nev)=rp at *
 have zl:rp.length=x.F:=by rw[←hr,List.length_replicate]
 have zw:(whL x.F L).length=x.F:=tO
 rw[r76 (by simp)];unfold x76;dsimp only
 have w:runW aA 77 [.agg x.c,I cl,I sn,.ch 0] [some (.blk true (.map true [(.agg [.agg []],.fp [] 16 0)]))]=some (.tup [],[some (.blk true (.map true ((.agg [.agg []],.fp [] 16 1)::aBz L)))]):=w
 generalize hs0:aBz L=sl at *
 generalize hwl:whL x.F L=wl at *
 sym =>
  simp[Za,Zb,Zf,Zg,Zh,Zj,Zl,Zm,Zv,ZG,ZO,ZP,ZT,ZU,YX,YZ,Xb,Xr,Xt,Xu,Xv,Wl,Wp,W3,W4,W5,W6,W7,W8,W9,WA,WB,WC,WE,WG,WH,WK,WL,WM,WN,WP,WQ,WU,WV,WW,WY,WZ,Vf,Vi,Vj,Vk,Vl,Vv,Vx,Vy,Vz,V0,V1,V3,VO,VY,VZ,Ua,Ub,Uc,Ud,Ug,Uh,Ux,U2,U3,U4,U5,U6,UD,UE,Tf,Tg,Tj,Tk,Tu,Ty,Tz,T6,T7,Su,SB,SC,SD,SE,SF,SG,SI,SO,Rf,Rh,Ri,Rj,w]
  tactic =>
   unfold aCr
   rw[aD L.length (fun _=>[.fn (.yield 0) [] [],.ch 6]) (fun i=>gW x cl sn (whL x.F (L.take i)) (chC (L.drop i)))]
   ·rw[show whL x.F (L.take L.length)=wl from by rw[List.take_length];exact hwl,show chC (L.drop L.length)=some (.blk true (.map true [(.agg [.agg []],.fp [] 16 1)])) from by rw[List.drop_length];rfl,gW,zw]; (sym=>(simp[Za,Zb,Zf,Zh,Zl,Zm,ZE,ZO,Yi,Xa,Xc,Xd,Xu,Xw,Xx,XM,Wh,W3,W6,WC,WE,WI,WK,WM,WO,WQ,WR,WS,WY,WZ,Vb,Vc,Ve,Vf,Vg,Vh,Vv,V8,VA,VC,VD,VE,VF,VH,VJ,VQ,VT,VV,VZ,Ua,Ub,Uc,Ud,Ue,Uf,Ux,U3,U4,U5,U6,U9,UD,Tu,Tx,Tz,T0,T4,T6,Su,SN,SV,SX,SY];all_goals tactic=>exact rfl))
   ·rw[z,show chC (L.drop 0)=some (.blk true (.map true ((.agg [.agg []],.fp [] 16 1)::sl))) from by rw[←hs0];rfl,gW,zl]; (sym=>(simp[Za,Xc,Xd,Xh,Xw,Xx,XI,W3,WB,WE,WF,WH,WI,WK,WL,WM,WO,WQ,WR,WS,WT,WY,WZ,Vb,Vc,Ve,Vf,Vg,Vh,VO,VR,VS,VZ,Ua,Ub,Uc,Ud,Ue,Uf,Uk,Ux,U3,U4,U5,U6,T5,SC,SE,Rf,Rh];all_goals tactic=>exact rfl))
   ·intro i hi
    have h:=rd i hi
    rw[←aEj (List.getElem?_eq_getElem hi),List.getElem_cons_drop]at h
    exact h
   ·rw[show whL x.F (L.take L.length)=wl from by rw[List.take_length];exact hwl,show chC (L.drop L.length)=some (.blk true (.map true [(.agg [.agg []],.fp [] 16 1)])) from by rw[List.drop_length];rfl,gW,zw]; (sym=>(simp[Za,Zb,Zf,Zh,Zl,Zm,ZE,ZO,Yi,W3,W6,WC,VQ,VT,VV,VW,Tu,Tx,Tz,T0,T6,SN,SV,SX,SY];all_goals tactic=>exact rfl))
end Go.Proofs.YtiabjdfdkiijmaaDoor
namespace Go.Proofs.YtiabjdfdkiijmaaDoor
open Go Go.DL

theorem aDH {x:Vn} (ok:x.Ok) {cl:Nat} (hcl:cl<2^x.F) {i:Nat} {m n:Nat} (h:m≤n) (hi:(bV x cl m).testBit i=true):(bV x cl n).testBit i=true:=by
 induction n with
 | zero=>rw[show m=0 by omega]at hi;exact hi
 | succ n ih =>
   by_cases e:m=n+1
   ·rw[←e];exact hi
   ·exact aAN ok hcl n i (ih (by omega))
theorem fW {a F i:Nat} (h:a<2^F) (hi:a.testBit i=true):i<F:=by
 by_cases e:i<F
 ·exact e
 ·rw[pL h (by omega)]at hi;simp at hi
theorem aIx {x:Vn} (ok:x.Ok) {cl:Nat}:∀ n,∀ p∈mF x cl n,p.1<x.F
 | 0=>by
   intro p hp
   simp only[mF,List.mem_map,jO]at hp
   obtain⟨k,hk,rfl⟩:=hp
   exact fW (iX ok cl 0) hk.2
 | n+1=>by
   intro p hp
   rw[mF,List.mem_append]at hp
   rcases hp with hp|hp
   ·exact aIx ok n p hp
   ·simp only[List.mem_map,jO]at hp
    obtain⟨k,hk,rfl⟩:=hp
    exact fW (zR (iX ok cl (n+1))) hk.2
def whO (x:Vn) (cl n f:Nat):Int:=match (List.range (n+1)).find? (fun m=>(bV x cl m).testBit f)with
 | some m=>(m:Int)
 | none=>nev
theorem zA {c:Int} (f:Nat):∀ (ks:List Nat) (l:List Int),((ks.map fun k=>(k,c)).foldl (fun o p=>o.set p.1 p.2) l)[f]?=if f∈ks∧f<l.length then some c else l[f]?
 | [],l=>by simp
 | k::ks,l=>by
   rw[List.map_cons,List.foldl_cons,zA f ks,List.length_set,List.getElem?_set]
   by_cases h1:f∈ks
   ·by_cases h2:f<l.length
    ·simp[h1,h2]
    ·have:l[f]?=none:=List.getElem?_eq_none (by omega)
     simp only[h1,h2,and_false,if_false,List.mem_cons,or_true,this]
     split
     ·next h=>rw[if_neg (by omega)]
     ·rfl
   ·by_cases hk:k=f
    ·subst hk
     simp only[h1,false_and,if_false,if_true,List.mem_cons,true_or,true_and]
     split
     ·rfl
     ·rw[List.getElem?_eq_none (by omega)]
    ·have:¬f∈k::ks:=by simp[h1];omega
     simp[h1,hk];intro h;omega
theorem aEi {x:Vn} (ok:x.Ok) {cl:Nat} (hcl:cl<2^x.F) (n f:Nat):whO x cl (n+1) f=if (bV x cl (n+1)).testBit f && !(bV x cl n).testBit f then ((n+1:Nat):Int) else whO x cl n f:=by
 unfold whO
 rw[List.range_succ,List.find?_append]
 by_cases h1:(bV x cl n).testBit f=true
 ·rw[h1]
  have:∃ m,(List.range (n+1)).find? (fun m=>(bV x cl m).testBit f)=some m:=by
   cases h:(List.range (n+1)).find? (fun m=>(bV x cl m).testBit f)with
   | some m=>exact⟨m,rfl⟩
   | none =>
     rw[List.find?_eq_none]at h
     exact absurd h1 (h n (List.mem_range.2 (by omega)))
  obtain⟨m,hm⟩:=this
  rw[hm];simp
 ·have:(List.range (n+1)).find? (fun m=>(bV x cl m).testBit f)=none:=by
   rw[List.find?_eq_none]
   intro m hm h
   rw[List.mem_range]at hm
   exact h1 (aDH ok hcl (by omega) h)
  rw[this]
  simp only[Bool.not_eq_true]at h1
  rw[h1,List.find?_singleton]
  cases (bV x cl (n+1)).testBit f<;>simp
theorem aGy {x:Vn} (ok:x.Ok) {cl:Nat} (hcl:cl<2^x.F):∀ n,whL x.F (mF x cl n)=(List.range x.F).map (whO x cl n):=by
 have hF:=ok.F16
 have hp:=bA hF
 intro n
 apply List.ext_getElem?
 intro f
 rw[List.getElem?_map]
 by_cases hf:f<x.F
 ·rw[List.getElem?_range hf]
  show _=some (whO x cl n f)
  induction n with
  | zero =>
    rw[whL,mF]
    have:=zA (c:=0) f (el (bV x cl 0)) (List.replicate x.F nev)
    rw[List.foldl_map]at this ⊢
    rw[show (fun(o:List Int) (k:Nat)=>o.set (k,0).1 ((k,0).2:Nat))=(fun(o:List Int) (k:Nat)=>o.set (k,(0:Int)).1 (k,(0:Int)).2) from rfl,this]
    rw[List.length_replicate,List.getElem?_replicate]
    simp only[jO]
    unfold whO
    rw[List.range_succ,List.range_zero,List.nil_append,List.find?_singleton]
    cases (bV x cl 0).testBit f
    ·simp[hf]
    ·have:f<16:=by omega
     simp[hf,this]
  | succ n ih =>
    have hl:=iX ok cl n
    rw[aEi ok hcl]
    have:=zA (c:=((n+1:Nat):Int)) f (el (jP (bV x cl (n+1)) (bV x cl n))) (whL x.F (mF x cl n))
    rw[whL,mF,List.foldl_append]
    rw[List.foldl_map]at this ⊢
    rw[show (fun(o:List Int) (k:Nat)=>o.set (k,n+1).1 ((k,n+1).2:Nat))=(fun(o:List Int) (k:Nat)=>o.set (k,((n+1:Nat):Int)).1 (k,((n+1:Nat):Int)).2) from rfl]
    rw[show List.foldl (fun(o:List Int) (p:Nat×Nat)=>o.set p.1 (p.2:Int)) (List.replicate x.F nev) (mF x cl n)=whL x.F (mF x cl n) from rfl,this,ih,tO]
    simp only[jO,bS (show bV x cl n<2^64 by omega)]
    have h16:f<16:=by omega
    have h64:f<64:=by omega
    simp only[h16,h64,hf,true_and,and_true,decide_true,Bool.true_and]
    split<;>rfl
 ·rw[List.getElem?_eq_none (by rw[tO];omega),List.getElem?_eq_none (by rw[List.length_range];omega)];rfl
end Go.Proofs.YtiabjdfdkiijmaaDoor
namespace Go.Proofs.YtiabjdfdkiijmaaDoor
open Go Go.DL
set_option maxRecDepth 100000
set_option maxHeartbeats 4000000
theorem w51 (x:Vn) (cl sn:Nat):runW aA 51 [.agg x.c,I cl,I sn] []=some (.fn (.func 76) [] [.pt 0 0,.pt 1 0,.pt 2 0],[some (.blk true (.cells true x.c)),some (.blk true (.cells true [I cl])),some (.blk true (.cells true [I sn]))]):=by
 rw[r51 (by simp)];unfold x51;dsimp only
 (sym=>(simp[Za,Zb,Zf,Zh,Zl,Zo,Zv,Zx,Zz,Xd,Xg,Xi,Xk,Xl,Xx,X0,XV,We,Wg,Wi,Wo,Wq,Ws,W3,WB,WE,WF,WH,WI,WK,WL,WM,WO,WQ,WR,WS,WT,WY,WZ,Vf,Vv,V9,VA,VC,VD,VE,VF,VG,VJ,VK,VL,VM,VO,VY,VZ,Ua,Ub,Uc,Ud,Uf,Ug,Uh,Uk,Um,Ux,U3,U4,U5,U6,U7,U8,UD,UE,US,UT,Tn,Tu,Tv,Tz,T6,T7,TK,Su];all_goals tactic=>exact rfl))
def aCx (x:Vn):List Int:=(List.range x.F).map (whO x 0 117)
theorem w20 (v:Va) (hb:v.bs.length<1000000000) (hp:v.ps.length<1000000000) :
 (vE v≠0∧runW aA 20 [.agg v.c] []=some (.tup [.fs [],I (vE v)],[]))∨(vE v=0∧∃ (x:Vn),x.Ok∧v=x.v∧runW aA 20 [.agg v.c] []=some (.tup [nL (aCx x),I 0],[])):=by
 have e0:=w23 v hb hp
 by_cases hv:vE v=0
 ·right
  refine⟨hv,?_⟩
  rw[hv]at e0
  obtain⟨x,ok,rfl⟩:=aKm hv
  refine⟨x,ok,rfl,?_⟩
  have e0:runW aA 23 [.agg x.c] []=some (I 0,[]):=e0
  have h0:0<2^x.F:=Nat.two_pow_pos _
  have e1:runW aA 51 [.agg x.c,I 0,I 117] []=some (.fn (.func 76) [] [.pt 0 0,.pt 1 0,.pt 2 0],[some (.blk true (.cells true x.c)),some (.blk true (.cells true [I 0])),some (.blk true (.cells true [I 117]))]):=w51 x 0 117
  have e2:=aLl ok h0 (sn:=117) (by omega) (fun p hp=>aIx ok 117 p hp)
  have e5:=w50 (x.F-1) (by have:=ok.F16;omega)
  rw[show x.F-1+1=x.F by have:=ok.F1;omega]at e5
  rw[aGy ok h0]at e2
  show runW aA 20 [.agg x.c] []=_
  rw[show nL (aCx x)=nL ((List.range x.F).map (whO x 0 117)) from rfl]
  have hz:((List.range x.F).map (whO x 0 117)).length=x.F:=by simp
  generalize (List.range x.F).map (whO x 0 117)=os at *
  generalize hr:List.replicate x.F nev=rp at *
  have e2:runW aA 76 [.fn (.yield 0) [] [],.pt 3 0,.pt 4 0,.pt 5 0] [some (.loop 20 0 [.pt 1 0] .ready),some (.blk false (.cells true [.sl 2 0 1 x.F])),some (.blk true (.cells true (rp.map I))),some (.blk true (.cells true x.c)),some (.blk true (.cells true [I 0])),some (.blk true (.cells true [I 117]))] =
   some (.tup [],[some (.loop 20 0 [.pt 1 0] .ready),some (.blk false (.cells true [.sl 2 0 1 x.F])),some (.blk true (.cells true (os.map I))),some (.blk true (.cells true x.c)),some (.blk true (.cells true [I 0])),some (.blk true (.cells true [I 117]))]):=e2
  have z1:(x.F≤os.length)=True:=eq_true (by omega)
  have z2:dC (os.map I) 0 1 x.F=os.map fun v=>[I v]:=by rw[←hz];exact TO
  rw[r20 (by simp)];unfold x20;dsimp only
  (sym=>(simp[Za,Zb,Zc,Zd,Ze,Zf,Zg,Zh,Zj,Zl,Zm,Zo,Zv,Zw,Zz,Z1,Z3,Z8,ZG,ZK,ZL,ZO,ZP,ZT,ZU,Ya,Yr,YX,YZ,Xa,Xb,Xc,Xd,Xh,Xi,Xk,Xl,Xm,Xo,Xr,Xt,Xu,Xv,Xw,Xx,X0,XI,XJ,XM,XO,XX,XZ,Wb,We,Wg,Wh,Wi,Wq,Ws,Wu,W3,W4,W5,W6,W7,W8,W9,WA,WB,WC,WE,WF,WG,WH,WJ,WK,WL,WM,WN,WO,WP,WQ,WR,WS,WU,WV,WW,WY,WZ,Vb,Vc,Vf,Vg,Vh,Vi,Vj,Vk,Vl,Vs,Vt,Vu,Vv,Vw,Vx,Vy,V0,V1,V3,V4,V5,V6,V7,V9,VA,VC,VD,VE,VF,VI,VJ,VK,VL,VM,VO,VT,VV,VY,VZ,Ua,Ub,Uc,Ud,Uf,Ug,Uh,Ui,Uk,Um,Uo,Uq,Uu,Ux,Uy,U0,U1,U2,U3,U4,U5,U6,U7,U8,U9,UA,UB,UC,UD,UE,UF,UG,UH,UI,US,UT,UU,UV,UW,UX,Tf,Tg,Tj,Tk,Tl,Tm,Tn,Tt,Tu,Tv,Tw,Ty,Tz,T2,T6,T7,TI,TJ,TP,TY,TZ,Sc,Sd,Se,Sf,Sg,Si,Su,Sv,Sw,SB,SC,SD,SF,SG,SI,e0,e1,e2,e5,z1,z2];all_goals tactic=>exact rfl))
 ·left
  refine⟨hv,?_⟩
  have n0:=aDF hv
  generalize vE v=er at *
  rw[r20 (by simp)];unfold x20;dsimp only
  (sym=>(simp[Za,Zb,Zf,Zg,Zh,Zj,Zl,Zm,Zo,Zv,Zz,Z3,ZG,ZO,ZP,ZT,ZU,Yr,YX,YZ,Xa,Xb,Xi,Xk,Xl,Xr,Xt,Xu,Xv,XJ,XM,XQ,We,Wg,Wh,Wi,Wm,Ws,W3,W4,W5,W7,W8,W9,WA,WB,WK,WN,WO,WP,WQ,WR,WS,WU,WV,Vi,Vj,Vk,Vv,Vx,Vy,V0,V1,V3,V9,VA,VC,VD,VE,VF,VI,VJ,VK,VL,VM,VO,VT,VU,VY,VZ,Ua,Uc,Ud,Uf,Ug,Uh,Um,Ur,Uz,U2,U3,U4,U5,U6,U7,U8,U9,UA,UD,UE,US,UT,Tf,Tg,Tj,Tn,Tt,Tu,Tv,Tz,T1,T6,T7,Su,SB,SC,SD,SF,SG,SI,e0,n0];all_goals tactic=>exact rfl))
abbrev gO (x:Vn):List Int→XH
 | []=>[some (.blk true (.cells true x.c))]
 | a::r=>[some (.blk true (.cells true x.c)),some (.blk true (.cells true (I a::r.map I)))]
section
variable {x:Vn} (ok:x.Ok) {c:List Int} (hc:c.length<1000000000)
include ok hc
end
def eR (x:Vn) (st:Nat→Nat):List AV:=x.c++(List.range 16).map fun k=>I (st k)
theorem dZ (x:Vn) (st:Nat→Nat):(eR x st).length=22:=by simp[eR]
theorem iQ {x:Vn} {st:Nat→Nat} {k:Nat} (h:k<16):(eR x st)[6+k]?=some (I (st k)):=by
 rw[eR,List.getElem?_append_right (by simp),show 6+k-x.c.length=k by simp,List.getElem?_map,List.getElem?_range h];rfl
theorem jF {l:List AV} {o:Nat} {v:AV} (h:o<l.length):bT l o [v]=l.set o v:=by
 rw[List.set_eq_take_append_cons_drop,if_pos h,bT];simp
def tJ (st:Nat→Nat) (k v:Nat):Nat→Nat:=fun j=>if j=k then v else st j
theorem uA {x:Vn} {st:Nat→Nat} {k v:Nat} (h:k<16):bT (eR x st) (6+k) [I v]=eR x (tJ st k v):=by
 rw[jF (by rw[dZ];omega)]
 apply List.ext_getElem?
 intro j
 rw[List.getElem?_set,dZ]
 by_cases hj:6+k=j
 ·subst hj
  rw[if_pos rfl,if_pos (by omega),iQ h,tJ,if_pos rfl]
 ·rw[if_neg hj]
  by_cases h6:j<6
  ·rw[eR,eR,List.getElem?_append_left (by simpa using h6),List.getElem?_append_left (by simpa using h6)]
  ·by_cases h22:j<22
   ·obtain⟨i,rfl⟩:∃ i,j=6+i:=⟨j-6,by omega⟩
    rw[iQ (by omega),iQ (by omega),tJ,if_neg (by omega)]
   ·rw[List.getElem?_eq_none (by rw[dZ];omega),List.getElem?_eq_none (by rw[dZ];omega)]
def addS (st:Nat→Nat) (a b:Nat):Nat→Nat:=tJ st a (st a|||2^b)
def stB (x:Vn) (i:Nat):Nat→Nat:=(x.bs.take i).foldl (fun st b=>addS (addS st b.1 b.2) b.2 b.1) fun _=>0
def stP (x:Vn) (i:Nat):Nat→Nat:=(x.ps.take i).foldl (fun st p=>addS st p.2.1 p.2.2) (stB x x.bs.length)
def dQ (x:Vn):Nat→Nat:=stP x x.ps.length
theorem aAc {n:Nat} {st:Nat→Nat} {a b:Nat} (h:∀ k,st k<2^n) (hb:b<n):∀ k,addS st a b k<2^n:=by
 intro k
 unfold addS tJ
 split
 ·exact vL (h a) hb
 ·exact h k
theorem aEt {x:Vn} (ok:x.Ok):∀ i k,stB x i k<2^x.F:=by
 intro i
 have:∀ (l:List (Nat×Nat)) (st:Nat→Nat),(∀ b∈l,b.1<x.F∧b.2<x.F)→(∀ k,st k<2^x.F)→∀ k,(l.foldl (fun st b=>addS (addS st b.1 b.2) b.2 b.1) st) k<2^x.F:=by
  intro l
  induction l with
  | nil=>intro st _ h;exact h
  | cons b l ih =>
    intro st hl h
    have hb:=hl b List.mem_cons_self
    exact ih _ (fun c hc=>hl c (List.mem_cons_of_mem _ hc)) (aAc (aAc h hb.2) hb.1)
 exact this _ _ (fun b hb=>by have:=ok.b b (List.mem_of_mem_take hb);exact⟨this.1,this.2.1⟩) (fun _=>Nat.two_pow_pos _)
theorem gE {x:Vn} (ok:x.Ok):∀ i k,stP x i k<2^x.F:=by
 intro i
 have:∀ (l:List (Nat×Nat×Nat)) (st:Nat→Nat),(∀ b∈l,b.2.2<x.F)→(∀ k,st k<2^x.F)→∀ k,(l.foldl (fun st p=>addS st p.2.1 p.2.2) st) k<2^x.F:=by
  intro l
  induction l with
  | nil=>intro st _ h;exact h
  | cons b l ih =>
    intro st hl h
    exact ih _ (fun c hc=>hl c (List.mem_cons_of_mem _ hc)) (aAc h (hl b List.mem_cons_self))
 exact this _ _ (fun b hb=>(ok.p b (List.mem_of_mem_take hb)).2.2.1) (aEt ok _)
abbrev gL (x:Vn) (st:Nat→Nat):XH:=[some (.blk true (.cells true x.c)),some (.blk true (.cells true (eR x st)))]
theorem aER {x:Vn} (ok:x.Ok) {i:Nat} (hi:i<x.bs.length) :
 aV 0 [1,5,19,20,21] (execW aA 56 0 none (match aCu with | .loop _ a=>a|c=>c) (aS [1,5,19,20,21] [.pt 0 0,.pt 1 0,rB (x.bs.map bI),I x.bs.length,I (i:Nat)]) (gL x (stB x i)))=some ([.pt 0 0,.pt 1 0,rB (x.bs.map bI),I x.bs.length,I (i+1:Nat)],gL x (stB x (i+1))):=by
 obtain⟨b,hx⟩:=bK hi
 have hb:=ok.b b (List.mem_of_getElem? hx)
 have hF:=ok.F16
 have hp:=bA hF
 have a1:=cT hi
 have a2:=fD hi (by have:=ok.nb;omega)
 have l0:=aEt ok i
 have up:stB x (i+1)=addS (addS (stB x i) b.1 b.2) b.2 b.1:=lR hx _
 rw[up]
 generalize stB x i=st at *
 have e1:=w62 (j:=b.1) (by omega)
 have e2:=w62 (j:=b.2) (by omega)
 have n1:((0:Int)≤b.1)=True:=eq_true (by omega)
 have n2:((0:Int)≤b.2)=True:=eq_true (by omega)
 have m1:((b.1:Int)<16)=True:=eq_true (by omega)
 have m2:((b.2:Int)<16)=True:=eq_true (by omega)
 have p1:(2:Nat)^b.1≤2^16:=Nat.pow_le_pow_right (by omega) (by omega)
 have p2:(2:Nat)^b.2≤2^16:=Nat.pow_le_pow_right (by omega) (by omega)
 have k1:=l0 b.1
 have k2:=l0 b.2
 have o1:=dH cN (a:=st b.1) (b:=2^b.2) (by omega) (by omega)
 have q1:=iQ (x:=x) (st:=st) (k:=b.1) (by omega)
 have s1:=uA (x:=x) (st:=st) (k:=b.1) (v:=st b.1|||2^b.2) (by omega)
 have q2:=iQ (x:=x) (st:=addS st b.1 b.2) (k:=b.2) (by omega)
 have r2:addS st b.1 b.2 b.2=st b.2:=by unfold addS tJ;rw[if_neg (fun h=>hb.2.2 h.symm)]
 have o2:=dH cN (a:=st b.2) (b:=2^b.1) (by omega) (by omega)
 have s2:=uA (x:=x) (st:=addS st b.1 b.2) (k:=b.2) (v:=st b.2|||2^b.1) (by omega)
 rw[show tJ st b.1 (st b.1|||2^b.2)=addS st b.1 b.2 from rfl]at s1
 rw[show tJ (addS st b.1 b.2) b.2 (st b.2|||2^b.1)=addS (addS st b.1 b.2) b.2 b.1 by rw[addS.eq_def (addS st b.1 b.2),r2]]at s2
 rw[r2]at q2
 have z1:=dZ x st
 have z2:=dZ x (addS st b.1 b.2)
 have t1:(6+b.1+1≤22)=True:=eq_true (by omega)
 have t2:(6+b.2+1≤22)=True:=eq_true (by omega)
 generalize addS (addS st b.1 b.2) b.2 b.1=st2 at *
 generalize addS st b.1 b.2=st1 at *
 unfold aCu
 dsimp only
 (sym=>(simp[Za,Zb,Zc,Zd,Ze,Zf,Zh,Zi,Zl,Zm,Zv,Zw,Z2,Z3,Z8,Z9,ZA,ZG,ZH,ZJ,ZK,ZL,ZM,ZN,ZQ,ZR,ZT,ZU,Ya,Yg,Yh,Yj,Yn,Ys,Yw,Yx,Y8,YA,YD,YO,YV,YX,Xb,Xd,Xi,Xr,Xv,Xx,Wq,Ws,Wz,W3,W4,W5,W6,W7,W8,W9,WA,WC,WE,WF,WH,WI,WK,WL,WM,WN,WO,WP,WQ,WR,WS,WT,WU,WV,WY,WZ,Vf,Vi,Vj,Vk,Vm,Vo,Vp,Vq,VQ,VR,VS,VT,VU,VZ,Ua,Ub,Uc,Ud,Uf,Ug,Uh,Ui,Uj,Uk,Um,Ur,Us,Ut,Uu,Ux,Uy,U0,U1,U2,U3,U4,U5,U6,U7,U8,UF,Tf,Tg,Th,Ti,Tj,Tk,Tl,Tm,Tt,Tu,Tw,Ty,Tz,T2,T5,T6,T7,TI,TK,Ss,S6,a1,a2,hx,e1,e2,n1,n2,m1,m2,o1,o2,q1,q2,s1,s2,z1,z2,t1,t2];all_goals tactic=>exact rfl))
abbrev gL1 (x:Vn) (st:Nat→Nat):XH:=[some (.blk true (.cells true (eR x st)))]
theorem aEQ {x:Vn} (ok:x.Ok) {i:Nat} (hi:i<x.ps.length) :
 aV 0 [5,55,56,57] (execW aA 56 0 none (match aCt with | .loop _ a=>a|c=>c) (aS [5,55,56,57] [.pt 0 0,rP (x.ps.map pI),I x.ps.length,I (i:Nat)]) (gL1 x (stP x i)))=some ([.pt 0 0,rP (x.ps.map pI),I x.ps.length,I (i+1:Nat)],gL1 x (stP x (i+1))):=by
 obtain⟨b,hx⟩:=bK hi
 have hb:=ok.p b (List.mem_of_getElem? hx)
 have hF:=ok.F16
 have hp:=bA hF
 have a1:=cT hi
 have a2:=fD hi (by have:=ok.np;omega)
 have l0:=gE ok i
 have up:stP x (i+1)=addS (stP x i) b.2.1 b.2.2:=lR hx _
 rw[up]
 generalize stP x i=st at *
 have e2:=w62 (j:=b.2.2) (by omega)
 have n1:((0:Int)≤b.2.1)=True:=eq_true (by omega)
 have m1:((b.2.1:Int)<16)=True:=eq_true (by omega)
 have p2:(2:Nat)^b.2.2≤2^16:=Nat.pow_le_pow_right (by omega) (by omega)
 have k1:=l0 b.2.1
 have o1:=dH cN (a:=st b.2.1) (b:=2^b.2.2) (by omega) (by omega)
 have q1:=iQ (x:=x) (st:=st) (k:=b.2.1) (by omega)
 have s1:=uA (x:=x) (st:=st) (k:=b.2.1) (v:=st b.2.1|||2^b.2.2) (by omega)
 rw[show tJ st b.2.1 (st b.2.1|||2^b.2.2)=addS st b.2.1 b.2.2 from rfl]at s1
 have z1:=dZ x st
 have t1:(6+b.2.1+1≤22)=True:=eq_true (by omega)
 generalize addS st b.2.1 b.2.2=st1 at *
 unfold aCt
 dsimp only
 (sym=>(simp[Za,Zb,Zc,Zd,Ze,Zf,Zg,Zh,Zk,Zl,Zm,Zv,Zw,Z2,Z3,Z8,Z9,ZA,ZG,ZH,ZJ,ZK,ZL,ZM,ZN,ZQ,ZR,ZT,ZU,Ya,Yg,Yh,Yj,Yn,Ys,Yw,Yx,YO,YV,YX,Xb,Xd,Xi,Xr,Xv,Xx,Wq,Ws,Wz,W3,W4,W5,W6,W7,W8,W9,WA,WC,WE,WH,WI,WK,WL,WM,WN,WO,WP,WQ,WR,WS,WT,WU,WV,WY,WZ,Vf,Vi,Vj,Vk,Vm,Vo,Vp,Vq,Vv,Vx,Vy,V0,V1,V3,VQ,VR,VS,VT,VU,VZ,Ua,Ub,Uc,Ud,Uf,Ug,Uh,Ui,Uj,Uk,Um,Ur,Us,Ut,Uu,Ux,Uy,U0,U1,U2,U3,U4,U5,U6,U7,U8,UF,Tf,Tg,Th,Ti,Tj,Tk,Tl,Tm,Tt,Tu,Tw,Ty,Tz,T2,T5,T6,T7,TI,TK,Ss,S6,SB,SC,SD,SF,SG,SI,a1,a2,hx,e2,n1,m1,o1,q1,s1,z1,t1];all_goals tactic=>exact rfl))
theorem aKC (x:Vn):eR x (fun _=>0)=[I x.F,rB (x.bs.map bI),rP (x.ps.map pI),I x.sick,I x.nur,I x.fix,I 0,I 0,I 0,I 0,I 0,I 0,I 0,I 0,I 0,I 0,I 0,I 0,I 0,I 0,I 0,I 0]:=rfl
theorem w56 {x:Vn} (ok:x.Ok) (h23:runW aA 23 [.agg x.c] []=some (I 0,[])) :
 runW aA 56 [.agg x.c] []=some (.tup [.pt 0 0,I 0],[some (.blk true (.cells true (eR x (dQ x))))]):=by
 have rd:=fun i (hi:i<x.bs.length)=>aER ok hi
 have rd2:=fun i (hi:i<x.ps.length)=>aEQ ok hi
 have z:=Te (n:=(x.bs.length:Int))
 have zp:=Te (n:=(x.ps.length:Int))
 have n1:(x.bs.map bI).length=x.bs.length:=List.length_map ..
 have n2:(x.ps.map pI).length=x.ps.length:=List.length_map ..
 rw[r56 (by simp)];unfold x56;dsimp only
 sym =>
  simp[Za,Zb,Zd,Ze,Zf,Zg,Zh,Zj,Zl,Zm,Zo,Zv,Zz,Z0,Z3,Z8,ZF,ZG,ZO,ZP,ZT,ZU,Ya,Yc,Yr,YT,YX,YZ,Xb,Xi,Xk,Xl,Xr,Xt,Xv,We,Wg,Wi,Ws,W3,W4,W5,W7,W8,W9,WA,WB,WC,WK,WN,WP,WU,WV,Vi,Vj,Vk,Vv,Vx,Vy,V0,V1,V3,VO,VT,VV,VY,VZ,Ua,Ub,Uc,Ud,Ug,Uh,Ui,Um,Uq,Uu,Uy,U2,U3,U4,U5,U6,U7,U8,UD,UE,UF,UG,UH,UI,US,UT,Tf,Tg,Tj,Tk,Tn,Tt,Tu,Tw,Ty,Tz,T6,T7,SB,SC,SD,SF,SG,SI,h23]
  tactic =>
   unfold aCu
   rw[aD x.bs.length (fun i=>[.pt 0 0,.pt 1 0,rB (x.bs.map bI),I x.bs.length,I (i:Nat)]) (fun i=>gL x (stB x i))]
   ·rw[show stB x x.bs.length=stP x 0 from rfl]
    generalize hst:stP x 0=st
    sym =>
     simp[Za,Zb,Zf,Zh,Zl,Zm,Zv,Z3,Z8,ZF,ZG,Ya,Yc,Ys,W3,W4,W5,WC,VQ,VT,VV,Ui,Uz,Te,Tf,Tg,Tk,Tt,Tu,Tx,Ty,Tz,T0,T4,T6,T7,z,zp]
     tactic =>
      unfold aCt
      rw[aD x.ps.length (fun i=>[.pt 0 0,rP (x.ps.map pI),I x.ps.length,I (i:Nat)]) (fun i=>gL1 x (stP x i))]
      ·rw[show stP x x.ps.length=dQ x from rfl]
       generalize dQ x=st2
       (sym=>(simp[Za,Zb,Zf,Zh,Zl,Zm,Zv,Z3,Ys,YX,Xa,Xd,Xr,Xu,Xx,XJ,XM,XP,We,Wh,Wl,W3,WE,WH,WI,WK,WL,WM,WO,WQ,WR,WS,WT,WY,WZ,Vf,Vv,V9,VA,VC,VD,VE,VF,VI,VJ,VK,VL,VM,VQ,VT,VV,Ua,Uc,Ud,Uf,Uk,Ux,Uz,U3,U4,U5,U6,U9,UA,UD,UE,Te,Tt,Tu,Tv,Tx,Tz,T0,T4,T6,T7,TK,Su,zp];all_goals tactic=>exact rfl))
      ·rw[hst]
       (sym=>(simp[Za,Y9,YX,Xb,Xd,Xr,Xv,Xx,W3,WE,WH,WI,WK,WL,WM,WO,WQ,WR,WS,WT,WY,WZ,Vf,VQ,VR,VS,VZ,Ua,Uc,Ud,Uf,Uk,Ux,U3,U4,U5,U6,T5,TK,zp];all_goals tactic=>exact rfl))
      ·exact rd2
      ·rw[show stP x x.ps.length=dQ x from rfl]
       generalize dQ x=st2
       (sym=>(simp[Za,Zb,Zf,Zh,Zl,Zm,Z3,Ys,VQ,VT,VV,VW,Uz,Te,Tt,Tu,Tx,Tz,T0,T6,zp];all_goals tactic=>exact rfl))
   ·rw[show stB x 0=(fun _=>0) from rfl,gL,aKC]
    (sym=>(simp[Za,Y9,YX,Xb,Xd,Xr,Xv,Xx,W3,WE,WF,WH,WI,WK,WL,WM,WO,WQ,WR,WS,WT,WY,WZ,Vf,VR,VS,VZ,Ua,Ub,Uc,Ud,Uf,Uk,Ux,U3,U4,U5,U6,T5,TK,z];all_goals tactic=>exact rfl))
   ·exact rd
   ·generalize stB x x.bs.length=st
    (sym=>(simp[Za,Zb,Zf,Zh,Zl,Zm,Z3,Ys,VQ,VT,VV,VW,Uz,Te,Tt,Tu,Tx,Tz,T0,T6,z];all_goals tactic=>exact rfl))
theorem aLp {v:Va} (hb:v.bs.length<1000000000) (hp:v.ps.length<1000000000) (hv:vE v≠0):runW aA 56 [.agg v.c] []=some (.tup [.nilpt,I (vE v)],[]):=by
 have e:=w23 v hb hp
 have n0:=aDF hv
 generalize vE v=er at *
 rw[r56 (by simp)];unfold x56;dsimp only
 (sym=>(simp[Za,Zb,Zf,Zg,Zh,Zj,Zl,Zm,Zo,Zv,Zz,Z3,ZG,ZO,ZP,ZT,ZU,Yr,YX,YZ,Xa,Xb,Xf,Xi,Xk,Xl,Xr,Xt,Xu,Xv,Xz,XJ,XM,XU,We,Wg,Wh,Wi,Wn,Ws,W3,W4,W5,W7,W8,W9,WA,WB,WK,WN,WO,WP,WQ,WR,WS,WU,WV,Vi,Vj,Vk,Vv,Vx,Vy,V0,V1,V3,V9,VA,VC,VD,VE,VF,VI,VJ,VK,VL,VM,VO,VT,VU,VY,VZ,Ua,Uc,Ud,Uf,Ug,Uh,Um,Ur,Uz,U2,U3,U4,U5,U6,U7,U8,U9,UA,UD,UE,US,UT,Tf,Tg,Tj,Tn,Tt,Tu,Tv,Tz,T1,T6,T7,Su,SB,SC,SD,SF,SG,SI,e,n0];all_goals tactic=>exact rfl))
end Go.Proofs.YtiabjdfdkiijmaaDoor
namespace Go.Proofs.YtiabjdfdkiijmaaDoor
open Go Go.DL

def bP (a:Nat):Nat:=(el a).length
theorem nU {p q:Nat→Bool}:∀ l:List Nat,(∀ k∈l,p k=true→q k=true)→(l.filter p).length≤(l.filter q).length
 | [],_=>Nat.le_refl _
 | k::l,h=>by
   have ih:=nU l (fun j hj=>h j (List.mem_cons_of_mem _ hj))
   have hk:=h k List.mem_cons_self
   simp only[List.filter_cons]
   cases hp:p k
   ·cases hq:q k
    ·simpa using ih
    ·simp only[Bool.false_eq_true,if_false,if_true,List.length_cons];omega
   ·rw[hk hp];simpa using ih
theorem sJ {p q:Nat→Bool} {i:Nat} (hp:p i=false) (hq:q i=true):∀ l:List Nat,i∈l→(∀ k∈l,p k=true→q k=true)→(l.filter p).length<(l.filter q).length
 | [],hi,_=>by simp at hi
 | k::l,hi,h=>by
   simp only[List.filter_cons]
   by_cases hk:k=i
   ·subst hk
    have:=nU l (fun j hj=>h j (List.mem_cons_of_mem _ hj))
    rw[hp,hq]
    simp only[Bool.false_eq_true,if_false,if_true,List.length_cons];omega
   ·have ih:=sJ hp hq l (by rcases List.mem_cons.1 hi with rfl|h;exact absurd rfl hk;exact h) (fun j hj=>h j (List.mem_cons_of_mem _ hj))
    have hk:=h k List.mem_cons_self
    cases hp:p k
    ·cases hq:q k
     ·simpa using ih
     ·simp only[Bool.false_eq_true,if_false,if_true,List.length_cons];omega
    ·rw[hk hp];simpa using ih
def sub (a b:Nat):Prop:=∀ i,a.testBit i=true→b.testBit i=true
theorem dK (a:Nat):sub a a:=fun _ h=>h
theorem rL {a b c:Nat} (h:sub a b) (g:sub b c):sub a c:=fun i hi=>g i (h i hi)
theorem aII (a k:Nat):sub a (a|||2^k):=fun i hi=>by rw[eP,hi];rfl
theorem iV {a b:Nat} (h:sub a b) (g:sub b a):a=b:=by
 apply Nat.eq_of_testBit_eq
 intro i
 rw[Bool.eq_iff_iff]
 exact⟨h i,g i⟩
theorem rD {a b:Nat} (h:sub a b):bP a≤bP b:=nU _ fun k _ hk=>h k hk
theorem aDd {a b i:Nat} (h:sub a b) (hi:i<16) (ha:a.testBit i=false) (hb:b.testBit i=true):bP a<bP b:=sJ ha hb _ (List.mem_range.2 hi) fun k _ hk=>h k hk
theorem lY (a:Nat):bP a≤16:=zQ a
theorem iF {a i:Nat} (ha:a<65536) (hi:a.testBit i=true):i<16:=fW (F:=16) ha hi
theorem zX {a b:Nat} (h:sub a b) (hb:b<65536) (hc:bP b≤bP a):a=b:=by
 refine iV h fun i hi=>?_
 cases ha:a.testBit i
 ·have:=aDd h (iF hb hi) ha hi
  omega
 ·rfl
theorem aGo {a F:Nat} (ha:a<2^F) (hF:F≤16):bP a≤F:=by
 have e:el a=(List.range F).filter (a.testBit ·):=by
  unfold el
  rw[show (16:Nat)=F+(16-F) by omega,List.range_add,List.filter_append]
  rw[(List.filter_eq_nil_iff (l:=List.map (F + ·) (List.range (16-F)))).2,List.append_nil]
  intro k hk
  rw[List.mem_map]at hk
  obtain⟨j,_,rfl⟩:=hk
  rw[pL ha (by omega)];simp
 rw[bP,e]
 have:=List.length_filter_le (fun k=>a.testBit k) (List.range F)
 simpa using this
theorem aCi:bP 0=0:=rfl
theorem aGm {a i:Nat} (hi:i<16) (h:a.testBit i=true):0<bP a:=by
 have:=aDd (a:=0) (b:=a) (fun _ h=>by simp at h) hi (by simp) h
 omega
theorem zW {a b:Nat} (h:∀ i,a.testBit i=true→b.testBit i=false):bP (a|||b)=bP a+bP b:=by
 unfold bP el
 rw[←sI h]
 congr 2
 funext k
 rw[Nat.testBit_or]
theorem aBf {i:Nat} (hi:i<16):bP (2^i)=1:=by
 match i,hi with
 | 0,_=>rfl
 | 1,_=>rfl
 | 2,_=>rfl
 | 3,_=>rfl
 | 4,_=>rfl
 | 5,_=>rfl
 | 6,_=>rfl
 | 7,_=>rfl
 | 8,_=>rfl
 | 9,_=>rfl
 | 10,_=>rfl
 | 11,_=>rfl
 | 12,_=>rfl
 | 13,_=>rfl
 | 14,_=>rfl
 | 15,_=>rfl
 | _+16,h=>exact absurd h (by omega)
theorem qG (i j:Nat):(2^i).testBit j=decide (i=j):=by rw[Nat.testBit_two_pow]
theorem lX {a i:Nat} (hi:i<16) (ha:a.testBit i=false):bP (a|||2^i)=bP a+1:=by
 rw[zW,aBf hi]
 intro j hj
 rw[qG]
 have:i≠j:=fun h=>by rw[h,hj]at ha;simp at ha
 simp[this]
inductive Rch (st:Nat→Nat) (s cl:Nat):Nat→Prop
 | base {f:Nat}:s.testBit f=true→cl.testBit f=false→Rch st s cl f
 | step {a b:Nat}:Rch st s cl a→(st a).testBit b=true→cl.testBit b=false→Rch st s cl b
theorem Rch.free {st:Nat→Nat} {s cl f:Nat} (h:Rch st s cl f):cl.testBit f=false:=by cases h<;>assumption
theorem Rch.lt {st:Nat→Nat} {s cl f F:Nat} (hs:s<2^F) (hst:∀ k,st k<2^F) (h:Rch st s cl f):f<F:=by
 cases h with
 | base h _=>exact fW hs h
 | step _ h _=>exact fW (hst _) h
def Clo (st:Nat→Nat) (cl m:Nat):Prop:=∀ a b,m.testBit a=true→(st a).testBit b=true→cl.testBit b=false→m.testBit b=true
theorem Rch.sub {st:Nat→Nat} {s cl m f:Nat} (h0:∀ i,s.testBit i=true→cl.testBit i=false→m.testBit i=true) (hc:Clo st cl m) (h:Rch st s cl f):m.testBit f=true:=by
 induction h with
 | base h g=>exact h0 _ h g
 | step _ h g ih=>exact hc _ _ ih h g
theorem Rch.mono {st st':Nat→Nat} {s s' cl cl' f:Nat} (h0:Go.Proofs.YtiabjdfdkiijmaaDoor.sub s s') (h1:∀ k,Go.Proofs.YtiabjdfdkiijmaaDoor.sub (st k) (st' k)) (h2:Go.Proofs.YtiabjdfdkiijmaaDoor.sub cl' cl) (h:Rch st s cl f):Rch st' s' cl' f:=by
 have g:∀ i,cl.testBit i=false→cl'.testBit i=false:=fun i hi=>by
  cases h:cl'.testBit i
  ·rfl
  ·rw[h2 i h]at hi;simp at hi
 induction h with
 | base h q=>exact .base (h0 _ h) (g _ q)
 | step _ h q ih=>exact .step ih (h1 _ _ h) (g _ q)
theorem aKJ {F:Nat} {M:Nat→Nat} {P:Nat→Prop} (hF:F≤16) (hl:∀ k,M k<2^F) (hm:∀ k,sub (M k) (M (k+1))) (hp:∀ k,M (k+1)=M k→P (M k)) (hk:∀ k,P (M k)→P (M (k+1))) (hfull:P (2^F-1)):P (M F):=by
 have up:∀ k,P (M k)∨k≤bP (M k):=by
  intro k
  induction k with
  | zero=>exact .inr (Nat.zero_le _)
  | succ k ih =>
    rcases ih with ih|ih
    ·exact .inl (hk k ih)
    ·by_cases e:M (k+1)=M k
     ·exact .inl (hk k (hp k e))
     ·right
      have h16:M (k+1)<65536:=Nat.lt_of_lt_of_le (hl _) (bA hF)
      by_cases hc:bP (M (k+1))≤bP (M k)
      ·exact absurd (zX (hm k) h16 hc).symm e
      ·omega
 rcases up F with h|h
 ·exact h
 ·have e:M F=2^F-1:=by
   refine zX ?_ ?_ ?_
   ·intro i hi
    rw[Nat.testBit_two_pow_sub_one]
    simpa using fW (hl F) hi
   ·have:=bA hF
    have:=Nat.two_pow_pos F
    omega
   ·have:=aGo (a:=2^F-1) (F:=F) (by have:=Nat.two_pow_pos F;omega) hF
    omega
  rw[e];exact hfull
end Go.Proofs.YtiabjdfdkiijmaaDoor
namespace Go.Proofs.YtiabjdfdkiijmaaDoor
open Go Go.DL
set_option maxRecDepth 100000
set_option maxHeartbeats 4000000
theorem aED {σ:Type} (n:Nat) (Inv:Nat→σ→Prop) (St:Nat→σ→σ→Prop) (s0:σ) (h0:Inv 0 s0) (hs:∀ i s,i<n→Inv i s→∃ s',Inv (i+1) s'∧St i s s'):∃ F:Nat→σ,F 0=s0∧(∀ i,i≤n→Inv i (F i))∧∀ i,i<n→St i (F i) (F (i+1)):=by
 induction n with
 | zero=>exact⟨fun _=>s0,rfl,fun i hi=>by obtain rfl:i=0:=(by omega);exact h0,fun i hi=>by omega⟩
 | succ n ih =>
   obtain⟨F,h1,h2,h3⟩:=ih fun i s hi=>hs i s (by omega)
   obtain⟨s',h4,h5⟩:=hs n (F n) (by omega) (h2 n (Nat.le_refl _))
   refine⟨fun i=>if i≤n then F i else s',(if_pos (Nat.zero_le n)).trans h1,fun i hi=>?_,fun i hi=>?_⟩
   ·dsimp only
    by_cases h:i≤n
    ·rw[if_pos h];exact h2 i h
    ·obtain rfl:i=n+1:=by omega
     rw[if_neg h];exact h4
   ·dsimp only
    by_cases h:i+1≤n
    ·rw[if_pos h,if_pos (by omega)];exact h3 i (by omega)
    ·obtain rfl:i=n:=by omega
     rw[if_neg h,if_pos (Nat.le_refl _)];exact h5
abbrev gV (M:Nat) (ci:Int) (l:List AV):XH:=[cI M,some (.blk true (.cells true [I ci])),some (.blk false (.cells true [.pt 3 0])),some (.blk true (.cells true l)),some (.blk false (.cells true [.fn (.func 84) [] [.pt 0 0,.pt 1 0,.pt 2 0,.pt 4 0]]))]
abbrev gX (K:Nat) (M:Nat) (ci:Int) (l:List AV):XH:=[some (.loop K 0 [.pt 1 0] .ready),some (.blk false (.cells true [.fn (.func 84) [] [.pt 2 0,.pt 3 0,.pt 4 0,.pt 1 0]])),cI M,some (.blk true (.cells true [I ci])),some (.blk false (.cells true [.pt 5 0])),some (.blk true (.cells true l))]
theorem aIv (K M:Nat) (ci:Int) (l:List AV):aEc 6 (gX K M ci l):=by
 refine⟨fun _=>rfl,fun _ _=>rfl,fun _=>rfl,?_,?_⟩
 ·intro a e h0 h1
  (sym=>(simp[Xd,Xg,Xh,Xx,X0,XI,WE,WI,WK,WM,WO,WP,WQ,WR,WS,WY,WZ,Vb,Vc,Ve,Vf,Vg,Vh,VR,VS,VZ,Ua,Ub,Uc,Ud,Ue,Uf,Ux,U2,U3,U4,U5,U6,T5,h0,h1];all_goals tactic=>exact rfl))
 ·intro a
  (sym=>(simp[Za,Xa,Xd,Xg,Xu,Xx,X0,XM,Wh,WE,WI,WK,WM,WO,WP,WQ,WR,WS,WY,WZ,Vb,Vc,Ve,Vf,Vg,Vh,Vv,VC,VD,VE,VZ,Ua,Ub,Uc,Ud,Ue,Uf,Ux,U2,U3,U4,U5,U6,U9,UD,Su];all_goals tactic=>exact rfl))
structure aKX (st:Nat→Nat) (cl M M' f:Nat):Prop where
 sub:sub M M'
 lt:M'<65536
 has:cl.testBit f=true∨M'.testBit f=true
 new:∀ a,M'.testBit a=true→M.testBit a=false→Rch st (2^f) cl a∧∀ b,(st a).testBit b=true→cl.testBit b=false→M'.testBit b=true
def Clr (ci:Int) (cl:Nat):Prop:=∀ f:Nat,f<16→runW aA 60 [I ci,I f] []=some (.bool (cl.testBit f),[])
def wR (l:List AV) (ci:Int) (M M' f:Nat):Prop:=runW aA 84 [I (f:Nat),.pt 0 0,.pt 1 0,.pt 2 0,.pt 4 0] (gV M ci l)=some (.tup [],gV M' ci l)
theorem aKZ {l:List AV} {ci:Int} {M M' v:Nat} (h:wR l ci M M' v):Yd (gX 84 M ci l) (gX 84 M' ci l) v true:=by
 unfold wR at h
 have y:runYW aA (.fn (.yield 0) [] []) [I (v:Nat)] (gX 84 M ci l)=some (.bool true,gX 84 M' ci l):=by
  rw[jG (K:=84) (d:=x84) (site:=0) (vs:=[.pt 1 0]) rfl rfl (by rfl) rfl]
  (sym=>(simp[Za,Zb,Zf,Zg,Zh,Zj,Zl,Zm,Zv,ZG,ZO,ZP,ZT,ZU,YX,YY,Xd,Xg,Xr,Xs,Xu,Xx,X0,XJ,We,W3,W4,W5,W6,W9,WA,WC,WE,WF,WG,WH,WI,WJ,WK,WL,WM,WN,WO,WP,WQ,WR,WS,WU,WV,WW,WY,WZ,Vb,Vc,Ve,Vf,Vg,Vh,Vi,Vj,Vk,Vl,Vv,Vx,Vy,Vz,VB,VE,VQ,VZ,Ua,Ub,Uc,Ud,Ue,Uf,Ug,Uh,Uk,Uw,Ux,U2,U3,U4,U5,U6,UQ,UR,Tf,Tg,Tk,Ty,T2,T6,TY,TZ,Sa,Sb,Sk,Sl,Sm,Sn,Su,SB,SC,SE,SF,SG,SI,h];all_goals tactic=>exact rfl))
 intro a
 (sym=>(simp[YX,Xd,Xg,Xh,Xr,Xs,Xx,X0,XI,W3,W6,W9,WA,WC,WE,WF,WG,WH,WJ,WK,WL,WM,WN,WP,WQ,WU,WV,WW,WY,WZ,Vb,Vc,Vf,Vg,Vh,Vi,Vj,Vk,Vl,VZ,Ua,Ub,Uc,Ud,Ug,Uh,Uk,Uw,Ux,U2,U3,U4,U5,U6,Sj,y];all_goals tactic=>exact rfl))
theorem aEm {st:Nat→Nat} {l:List AV} {ci:Int} {cl:Nat} {M0:Nat} (h0:M0<65536) (a:Nat) (hv:∀ M v,M<65536→sub M0 M→v∈el a→∃ M',aKX st cl M M' v∧wR l ci M M' v) :
 ∃ F:Nat→Nat,F 0=M0∧(∀ i v,(el a)[i]?=some v→wR l ci (F i) (F (i+1)) v)∧sub M0 (F (el a).length)∧F (el a).length<65536∧(∀ v∈el a,cl.testBit v=true∨(F (el a).length).testBit v=true) ∧
   (∀ b,(F (el a).length).testBit b=true→M0.testBit b=false→(∃ v∈el a,Rch st (2^v) cl b)∧∀ c,(st b).testBit c=true→cl.testBit c=false→(F (el a).length).testBit c=true):=by
 obtain⟨F,f0,f1,f2⟩:=aED (el a).length
  (fun i M=>sub M0 M∧M<65536∧(∀ j v,j<i→(el a)[j]?=some v→cl.testBit v=true∨M.testBit v=true) ∧
   (∀ b,M.testBit b=true→M0.testBit b=false→(∃ v∈el a,Rch st (2^v) cl b)∧∀ c,(st b).testBit c=true→cl.testBit c=false→M.testBit c=true))
  (fun i M M'=>∀ v,(el a)[i]?=some v→wR l ci M M' v) M0
  ⟨dK _,h0,fun j v hj=>absurd hj (by omega),fun b h1 h2=>by rw[h1]at h2;simp at h2⟩
  (by
   rintro i M hi ⟨g1,g2,g3,g4⟩
   obtain⟨v,hx⟩:=bK hi
   have hm:=List.mem_of_getElem? hx
   obtain⟨M',p,k⟩:=hv M v g2 g1 hm
   refine⟨M',⟨rL g1 p.sub,p.lt,?_,?_⟩,fun w hw=>by rw[hx]at hw;rw[←Option.some.inj hw];exact k⟩
   ·intro j w hj hw
    by_cases e:j=i
    ·subst e
     rw[hx]at hw
     rw[←Option.some.inj hw];exact p.has
    ·rcases g3 j w (by omega) hw with h|h
     ·exact .inl h
     ·exact .inr (p.sub _ h)
   ·intro b h1 h2
    cases hb:M.testBit b
    ·have:=p.new b h1 hb
     exact⟨⟨v,hm,this.1⟩,this.2⟩
    ·obtain⟨q1,q2⟩:=g4 b hb h2
     exact⟨q1,fun c hc hd=>p.sub _ (q2 c hc hd)⟩)
 obtain⟨e1,e2,e3,e4⟩:=f1 _ (Nat.le_refl _)
 refine⟨F,f0,fun i v hx=>f2 i (eI hx) v hx,e1,e2,?_,e4⟩
 intro v hm
 obtain⟨j,hj⟩:=List.getElem?_of_mem hm
 exact e3 j v (eI hj) hj
theorem aHo {st:Nat→Nat} {cl f v b:Nat} (hf:cl.testBit f=false) (hv:(st f).testBit v=true) (h:Rch st (2^v) cl b):Rch st (2^f) cl b:=by
 induction h with
 | base h g =>
   rw[qG]at h
   obtain rfl:=of_decide_eq_true h
   exact .step (.base (by rw[qG];simp) hf) hv g
 | step _ h g ih=>exact .step ih h g
theorem w84 {l:List AV} {st:Nat→Nat} {ci:Int} {cl:Nat} (hl:∀ k,k<16→l[6+k]?=some (I (st k))) (hst:∀ k,st k<65536) (hc:Clr ci cl) :
 ∀ n M f,M<65536→f<16→16≤bP M+n→∃ M',aKX st cl M M' f∧wR l ci M M' f:=by
 intro n
 induction n with
 | zero =>
   intro M f hM hf hn
   have e1:=pM (a:=M) (j:=f) (by omega) (by omega)
   cases h:M.testBit f
   ·have:=lX hf h
    have:=lY (M|||2^f)
    omega
   ·refine⟨M,⟨dK _,hM,.inr h,fun a h1 h2=>by rw[h1]at h2;simp at h2⟩,?_⟩
    rw[h]at e1
    unfold wR
    rw[r84 (by simp)];unfold x84;dsimp only
    (sym=>(simp[Za,Zb,Zf,Zg,Zj,Zl,Zm,Zp,Zt,Zv,Zy,ZG,ZO,ZP,ZT,ZU,ZV,YX,Xa,Xd,Xg,Xr,Xs,Xu,Xx,X0,XM,We,Wh,Wl,W3,W4,W5,WA,WB,WC,WE,WI,WK,WM,WN,WO,WP,WQ,WR,WS,WU,WV,WY,WZ,Vb,Ve,Vf,Vg,Vi,Vj,Vk,Vv,Vx,Vy,V0,V1,V3,V9,VA,VC,VD,VE,VF,VH,VJ,VO,VT,VU,VY,VZ,Ua,Ub,Uc,Ud,Ue,Uf,Ug,Uh,Ux,U2,U3,U4,U5,U6,U9,UD,UE,Tf,Tg,Tk,Tu,Tv,Tz,T1,T6,T7,Su,SB,SC,SD,SF,SG,SI,e1];all_goals tactic=>exact rfl))
 | succ n ih =>
   intro M f hM hf hn
   have e1:=pM (a:=M) (j:=f) (by omega) (by omega)
   have e2:=hc f hf
   cases h:M.testBit f
   ·cases h2:cl.testBit f
    ·rw[h]at e1
     rw[h2]at e2
     have e3:=w62 (j:=f) (by omega)
     have hp:2^f<65536:=Nat.pow_lt_pow_of_lt (a:=2) (n:=f) (m:=16) (by omega) hf
     have o1:=dH cN (a:=M) (b:=2^f) (by omega) (Nat.lt_trans hp (by omega))
     have hM1:M|||2^f<65536:=Nat.or_lt_two_pow (n:=16) hM hp
     have hcu:=lX hf h
     obtain⟨F,f0,f1,f2,f3,f4,f5⟩:=aEm (st:=st) (l:=l) (ci:=ci) (cl:=cl) hM1 (st f) (fun M' v h1 h2 h3=>ih M' v h1 (jO.1 h3).1 (by have:=rD h2;omega))
     have ea:=qW (n:=6) (G:=fun i=>gX 84 (F i) ci l) (hst f) (fun i _=>aIv 84 _ _ _) (fun i v hx=>aKZ (f1 i v hx))
     rw[f0]at ea
     have w8:=w80 (a:=st f)
     have k1:=hl f hf
     have n1:((0:Int)≤f)=True:=eq_true (by omega)
     have m1:((f:Int)<16)=True:=eq_true (by omega)
     refine⟨F (el (st f)).length,⟨rL (aII M f) f2,f3,.inr (f2 f (by rw[eP];simp)),?_⟩,?_⟩
     ·intro a h3 h4
      by_cases ha:f=a
      ·subst ha
       refine⟨.base (by rw[qG];simp) h2,fun b hb hd=>?_⟩
       rcases f4 b (jO.2 ⟨iF (hst f) hb,hb⟩)with q|q
       ·rw[hd]at q;simp at q
       ·exact q
      ·obtain⟨⟨v,hv,q1⟩,q2⟩:=f5 a h3 (by rw[eP,h4];simp[ha])
       exact⟨aHo h2 (jO.1 hv).2 q1,q2⟩
     ·unfold wR
      generalize M|||2^f=M1 at *
      generalize F (el (st f)).length=M2 at *
      have ea:runW aA 86 [.fn (.yield 0) [] [],.pt 6 0] [some (.loop 84 0 [.pt 1 0] .ready),some (.blk false (.cells true [.fn (.func 84) [] [.pt 2 0,.pt 3 0,.pt 4 0,.pt 1 0]])),cI M1,some (.blk true (.cells true [I ci])),some (.blk false (.cells true [.pt 5 0])),some (.blk true (.cells true l)),cI (st f)] =
       some (.tup [],[some (.loop 84 0 [.pt 1 0] .ready),some (.blk false (.cells true [.fn (.func 84) [] [.pt 2 0,.pt 3 0,.pt 4 0,.pt 1 0]])),cI M2,some (.blk true (.cells true [I ci])),some (.blk false (.cells true [.pt 5 0])),some (.blk true (.cells true l)),some (.blk true (.cells true [.int .i64 0]))]):=ea
      rw[r84 (by simp)];unfold x84;dsimp only
      (sym=>(simp[Za,Zb,Zc,Ze,Zf,Zg,Zh,Zi,Zj,Zl,Zm,Zp,Zr,Zv,Zy,Z2,Z3,Z8,Z9,ZG,ZH,ZJ,ZK,ZM,ZN,ZO,ZP,ZQ,ZR,ZT,ZU,ZW,Ya,Yn,Yw,Yx,YO,YV,YX,Xa,Xd,Xg,Xh,Xi,Xr,Xs,Xu,Xx,X0,XI,XM,We,Wh,Wl,Wq,Wz,W3,W4,W5,W6,W7,W9,WA,WB,WC,WE,WF,WG,WH,WI,WJ,WK,WL,WM,WN,WO,WP,WQ,WR,WS,WU,WV,WW,WY,WZ,Vb,Vc,Ve,Vf,Vg,Vh,Vi,Vj,Vk,Vl,Vm,Vo,Vp,Vq,Vv,Vx,Vy,V0,V1,V3,V8,VA,VC,VD,VE,VF,VH,VJ,VO,VT,VV,VY,VZ,Ua,Ub,Uc,Ud,Ue,Uf,Ug,Uh,Uk,Um,Ur,Us,Ut,Uu,Uw,Ux,U0,U1,U2,U3,U4,U5,U6,U7,U8,U9,UD,UE,UF,Tf,Tg,Tk,Tl,Tm,Tt,Tu,Tw,Ty,Tz,T2,T6,T7,TI,TY,TZ,Sc,Sd,Se,Sf,Sg,Si,Ss,Su,S6,SB,SC,SD,SF,SG,SI,e1,e2,e3,o1,w8,k1,n1,m1,ea];all_goals tactic=>exact rfl))
    ·refine⟨M,⟨dK _,hM,.inl h2,fun a h1 h2=>by rw[h1]at h2;simp at h2⟩,?_⟩
     rw[h]at e1
     rw[h2]at e2
     unfold wR
     rw[r84 (by simp)];unfold x84;dsimp only
     (sym=>(simp[Za,Zb,Zf,Zg,Zj,Zl,Zm,Zp,Zr,Zv,Zy,ZG,ZO,ZP,ZT,ZU,ZW,YX,Xa,Xd,Xg,Xr,Xs,Xu,Xx,X0,XM,We,Wh,Wl,W3,W4,W5,WA,WB,WC,WE,WI,WK,WM,WN,WO,WP,WQ,WR,WS,WU,WV,WY,WZ,Vb,Ve,Vf,Vg,Vi,Vj,Vk,Vv,Vx,Vy,V0,V1,V3,V9,VA,VC,VD,VE,VF,VH,VJ,VO,VT,VU,VY,VZ,Ua,Ub,Uc,Ud,Ue,Uf,Ug,Uh,Ux,U2,U3,U4,U5,U6,U9,UD,UE,Tf,Tg,Tk,Tu,Tv,Tz,T1,T6,T7,Su,SB,SC,SD,SF,SG,SI,e1,e2];all_goals tactic=>exact rfl))
   ·refine⟨M,⟨dK _,hM,.inr h,fun a h1 h2=>by rw[h1]at h2;simp at h2⟩,?_⟩
    rw[h]at e1
    unfold wR
    rw[r84 (by simp)];unfold x84;dsimp only
    (sym=>(simp[Za,Zb,Zf,Zg,Zj,Zl,Zm,Zp,Zt,Zv,Zy,ZG,ZO,ZP,ZT,ZU,ZV,YX,Xa,Xd,Xg,Xr,Xs,Xu,Xx,X0,XM,We,Wh,Wl,W3,W4,W5,WA,WB,WC,WE,WI,WK,WM,WN,WO,WP,WQ,WR,WS,WU,WV,WY,WZ,Vb,Ve,Vf,Vg,Vi,Vj,Vk,Vv,Vx,Vy,V0,V1,V3,V9,VA,VC,VD,VE,VF,VH,VJ,VO,VT,VU,VY,VZ,Ua,Ub,Uc,Ud,Ue,Uf,Ug,Uh,Ux,U2,U3,U4,U5,U6,U9,UD,UE,Tf,Tg,Tk,Tu,Tv,Tz,T1,T6,T7,Su,SB,SC,SD,SF,SG,SI,e1];all_goals tactic=>exact rfl))
def oQ (st:Nat→Nat) (cl:Nat) (m a:Nat):Nat:=if m.testBit a then m|||jP (st a) cl else m
def aKy (st:Nat→Nat) (cl:Nat) (m:Nat):Nat:=(List.range 16).foldl (oQ st cl) m
def qF (st:Nat→Nat) (s cl:Nat):Nat→Nat
 | 0=>jP s cl
 | n+1=>aKy st cl (qF st s cl n)
def jH (st:Nat→Nat) (s cl:Nat):Nat:=qF st s cl 16
section
variable {st:Nat→Nat} {s cl:Nat} (hst:∀ k,st k<65536) (hs:s<65536) (hcl:cl<65536)
theorem aAE (m a:Nat):sub m (oQ st cl m a):=fun i hi=>by
 unfold oQ
 split
 ·rw[Nat.testBit_or,hi];rfl
 ·exact hi
include hst in
theorem aHp {m:Nat} (a:Nat) (h:m<65536):oQ st cl m a<65536:=by
 unfold oQ
 split
 ·exact Nat.or_lt_two_pow (n:=16) h (Nat.lt_of_le_of_lt (iR _ _) (hst a))
 ·exact h
theorem sH (l:List Nat) (m:Nat):sub m (l.foldl (oQ st cl) m):=by
 induction l generalizing m with
 | nil=>exact dK _
 | cons a l ih=>exact rL (aAE m a) (ih _)
include hst in
theorem aFR (l:List Nat) {m:Nat} (h:m<65536):l.foldl (oQ st cl) m<65536:=by
 induction l generalizing m with
 | nil=>exact h
 | cons a l ih=>exact ih (aHp hst a h)
include hst hs in
theorem tV:∀ n,qF st s cl n<2^16
 | 0=>Nat.lt_of_le_of_lt (iR _ _) hs
 | n+1=>aFR hst _ (tV n)
include hcl in
theorem aFq:∀ n i,(qF st s cl n).testBit i=true→Rch st s cl i:=by
 have main:∀ (l:List Nat) (m:Nat),(∀ i,m.testBit i=true→Rch st s cl i)→∀ i,(l.foldl (oQ st cl) m).testBit i=true→Rch st s cl i:=by
  intro l
  induction l with
  | nil=>intro m h;exact h
  | cons a l ih =>
    intro m h
    refine ih _ fun i hi=>?_
    unfold oQ at hi
    split at hi
    ·next ha =>
     rw[Nat.testBit_or,Bool.or_eq_true]at hi
     rcases hi with hi|hi
     ·exact h i hi
     ·rw[bS (by omega)]at hi
      simp only[Bool.and_eq_true,Bool.not_eq_true']at hi
      exact .step (h a ha) hi.1 hi.2.2
    ·exact h i hi
 intro n
 induction n with
 | zero =>
   intro i hi
   rw[qF,bS (by omega)]at hi
   simp only[Bool.and_eq_true,Bool.not_eq_true']at hi
   exact .base hi.1 hi.2.2
 | succ n ih=>exact main _ _ ih
include hst hcl in
theorem aDC {m:Nat} (hm:m<65536) (h:aKy st cl m=m):Clo st cl m:=by
 intro a b ha hb hc
 have h16:=iF hm ha
 have main:∀ (l:List Nat) (m:Nat),m.testBit a=true→a∈l→(l.foldl (oQ st cl) m).testBit b=true:=by
  intro l
  induction l with
  | nil=>intro m _ h;simp at h
  | cons k l ih =>
    intro m hm hk
    by_cases e:a=k
    ·subst e
     refine sH l _ b ?_
     unfold oQ
     rw[if_pos hm,Nat.testBit_or,bS (by omega),hb,hc]
     have:=iF (hst a) hb
     simp;omega
    ·exact ih _ (aAE m k a hm) (by rcases List.mem_cons.1 hk with h|h;exact absurd h e;exact h)
 have:=main (List.range 16) m ha (List.mem_range.2 h16)
 rw[show (List.range 16).foldl (oQ st cl) m=m from h]at this
 exact this
include hst hs hcl in
theorem lI (i:Nat):(jH st s cl).testBit i=true↔Rch st s cl i:=by
 constructor
 ·exact aFq hcl 16 i
 ·intro h
  refine h.sub (m:=jH st s cl) (fun j hj hc=>?_) ?_
  ·have:∀ n,(qF st s cl n).testBit j=true:=by
    intro n
    induction n with
    | zero =>
      rw[qF,bS (by omega),hj,hc]
      have:=iF hs hj
      simp;omega
    | succ n ih=>exact sH _ _ j ih
   exact this 16
  ·refine aKJ (F:=16) (M:=qF st s cl) (P:=Clo st cl) (by omega) (tV hst hs) (fun k=>sH _ _) (fun k hk=>aDC hst hcl (tV hst hs k) hk) (fun k hk=>?_) ?_
   ·have e:qF st s cl (k+1)=qF st s cl k:=by
     have hin:∀ (l:List Nat),l.foldl (oQ st cl) (qF st s cl k)=qF st s cl k:=by
      intro l
      induction l with
      | nil=>rfl
      | cons a l ih =>
        have:oQ st cl (qF st s cl k) a=qF st s cl k:=by
         unfold oQ
         split
         ·next ha =>
          refine iV (fun i hi=>?_) (fun i hi=>by rw[Nat.testBit_or,hi];rfl)
          rw[Nat.testBit_or,Bool.or_eq_true]at hi
          rcases hi with hi|hi
          ·exact hi
          ·rw[bS (by omega)]at hi
           simp only[Bool.and_eq_true,Bool.not_eq_true']at hi
           exact hk a i ha hi.1 hi.2.2
         ·rfl
        rw[List.foldl_cons,this,ih]
     exact hin _
    rw[e];exact hk
   ·intro a b _ hb _
    rw[Nat.testBit_two_pow_sub_one]
    simpa using iF (hst a) hb
include hst hs in
theorem aDB:jH st s cl<65536:=tV hst hs 16
end
theorem w78 {l:List AV} {st:Nat→Nat} {ci:Int} {s cl:Nat} (hl:∀ k,k<16→l[6+k]?=some (I (st k))) (h3:l[3]?=some (I s)) (hst:∀ k,st k<65536) (hs:s<65536) (hcl:cl<65536) (hc:Clr ci cl) :
 runW aA 78 [.pt 0 0,I ci] [some (.blk true (.cells true l))]=some (I (jH st s cl:Nat),[some (.blk true (.cells true l))]):=by
 obtain⟨F,f0,f1,f2,f3,f4,f5⟩:=aEm (st:=st) (l:=l) (ci:=ci) (cl:=cl) (M0:=0) (by omega) s (fun M' v h1 h2 h3=>w84 hl hst hc 16 M' v h1 (jO.1 h3).1 (by omega))
 have er:F (el s).length=jH st s cl:=by
  apply Nat.eq_of_testBit_eq
  intro i
  rw[Bool.eq_iff_iff,lI hst hs hcl]
  constructor
  ·intro h
   obtain⟨⟨v,hv,q⟩,_⟩:=f5 i h (by simp)
   refine q.mono (fun j hj=>?_) (fun _=>dK _) (dK _)
   rw[qG]at hj
   rw[←of_decide_eq_true hj];exact(jO.1 hv).2
  ·intro h
   refine h.sub (fun j hj hd=>?_) (fun a b ha hb hd=>(f5 a ha (by simp)).2 b hb hd)
   rcases f4 j (jO.2 ⟨iF hs hj,hj⟩)with q|q
   ·rw[hd]at q;simp at q
   ·exact q
 have ea:=qW (n:=6) (G:=fun i=>gX 78 (F i) ci l) hs (fun i _=>aIv 78 _ _ _) (fun i v hx=>by
  have h:=f1 i v hx
  generalize F i=M at *
  generalize F (i+1)=M' at *
  unfold wR at h
  have y:runYW aA (.fn (.yield 0) [] []) [I (v:Nat)] (gX 78 M ci l)=some (.bool true,gX 78 M' ci l):=by
   rw[jG (K:=78) (d:=x78) (site:=0) (vs:=[.pt 1 0]) rfl rfl (by rfl) rfl]
   (sym=>(simp[Za,Zb,Zf,Zg,Zh,Zj,Zl,Zm,Zv,ZG,ZO,ZP,ZT,ZU,YX,YY,Xd,Xg,Xr,Xs,Xu,Xx,X0,XJ,We,W3,W4,W5,W6,W9,WA,WC,WE,WF,WG,WH,WI,WJ,WK,WL,WM,WN,WO,WP,WQ,WR,WS,WU,WV,WW,WY,WZ,Vb,Vc,Ve,Vf,Vg,Vh,Vi,Vj,Vk,Vl,Vv,Vx,Vy,Vz,VB,VE,VQ,VZ,Ua,Ub,Uc,Ud,Ue,Uf,Ug,Uh,Uk,Uw,Ux,U2,U3,U4,U5,U6,UQ,UR,Tf,Tg,Tk,Ty,T2,T6,TY,TZ,Sa,Sb,Sk,Sl,Sm,Sn,Su,SB,SC,SE,SF,SG,SI,h];all_goals tactic=>exact rfl))
  intro a
  (sym=>(simp[YX,Xd,Xg,Xh,Xr,Xs,Xx,X0,XI,W3,W6,W9,WA,WC,WE,WF,WG,WH,WJ,WK,WL,WM,WN,WP,WQ,WU,WV,WW,WY,WZ,Vb,Vc,Vf,Vg,Vh,Vi,Vj,Vk,Vl,VZ,Ua,Ub,Uc,Ud,Ug,Uh,Uk,Uw,Ux,U2,U3,U4,U5,U6,Sj,y];all_goals tactic=>exact rfl)))
 rw[f0]at ea
 have w8:=w80 (a:=s)
 rw[er]at ea
 generalize jH st s cl=M2 at *
 have ea:runW aA 86 [.fn (.yield 0) [] [],.pt 6 0] [some (.loop 78 0 [.pt 1 0] .ready),some (.blk false (.cells true [.fn (.func 84) [] [.pt 2 0,.pt 3 0,.pt 4 0,.pt 1 0]])),some (.blk true (.cells true [.int .i64 0])),some (.blk true (.cells true [I ci])),some (.blk false (.cells true [.pt 5 0])),some (.blk true (.cells true l)),cI s] =
  some (.tup [],[some (.loop 78 0 [.pt 1 0] .ready),some (.blk false (.cells true [.fn (.func 84) [] [.pt 2 0,.pt 3 0,.pt 4 0,.pt 1 0]])),cI M2,some (.blk true (.cells true [I ci])),some (.blk false (.cells true [.pt 5 0])),some (.blk true (.cells true l)),some (.blk true (.cells true [.int .i64 0]))]):=ea
 rw[r78 (by simp)];unfold x78;dsimp only
 (sym=>(simp[Za,Zb,Zc,Zf,Zh,Zl,Zm,Zo,Zv,Zw,Zx,Zz,Z2,Z8,ZG,ZK,ZL,ZO,ZP,ZT,ZU,Ya,YV,YX,Xd,Xg,Xh,Xi,Xn,Xp,Xq,Xr,Xu,Xx,X0,XI,XJ,We,Wl,Wq,Wv,Wx,W3,W4,W5,W6,W7,W9,WA,WB,WC,WE,WF,WG,WH,WJ,WK,WL,WM,WN,WO,WP,WQ,WR,WS,WU,WV,WW,WY,WZ,Vb,Vc,Ve,Vf,Vg,Vh,Vi,Vj,Vk,Vl,Vv,V9,VA,VC,VD,VE,VF,VG,VJ,VK,VL,VM,VO,VY,VZ,Ua,Ub,Uc,Ud,Ue,Uf,Ug,Uh,Uk,Um,Uo,Uu,Uw,Ux,U2,U3,U4,U5,U6,U7,U8,UD,UE,UF,US,UT,Tf,Tg,Tk,Tl,Tm,Tn,Tu,Tv,Ty,Tz,T2,T6,T7,TY,TZ,Sc,Sd,Se,Sf,Sg,Si,Su,w8,h3,ea];all_goals tactic=>exact rfl))
def rM (st:Nat→Nat) (s nur cl:Nat):Bool:=decide (jH st s cl&&&nur=0)
theorem xL:∀ l:List AV,(∀ e∈l,cG e e=true)→eH l l=true
 | [],_=>by simp[eH]
 | x::l,h=>by
   have:=xL l (fun e he=>h e (List.mem_cons_of_mem _ he))
   simp[eH,this,h x List.mem_cons_self]
theorem rO:∀ l:List (List AV),(∀ e∈l,eH e e=true)→pX l l=true
 | [],_=>by simp[pX]
 | x::l,h=>by
   have:=rO l (fun e he=>h e (List.mem_cons_of_mem _ he))
   simp[pX,this,h x List.mem_cons_self]
theorem aFC (x:Vn) (st:Nat→Nat):eH (eR x st) (eR x st)=true:=by
 refine xL _ fun e he=>?_
 rw[eR,List.mem_append]at he
 rcases he with he|he
 ·simp only[List.mem_cons,List.not_mem_nil,or_false]at he
  rcases he with rfl|rfl|rfl|rfl|rfl|rfl
  ·simp[cG]
  ·rw[cG]
   refine rO _ fun r hr=>?_
   rw[List.mem_map]at hr
   obtain⟨b,_,rfl⟩:=hr
   simp[eH,cG]
  ·rw[cG]
   refine rO _ fun r hr=>?_
   rw[List.mem_map]at hr
   obtain⟨b,_,rfl⟩:=hr
   simp[eH,cG]
  ·simp[cG]
  ·simp[cG]
  ·simp[cG]
 ·rw[List.mem_map]at he
  obtain⟨b,_,rfl⟩:=he
  simp[cG]
theorem w57 {l:List AV} {st:Nat→Nat} {ci:Int} {s nur cl:Nat} (hsm:eH l l=true) (hl:∀ k,k<16→l[6+k]?=some (I (st k))) (h3:l[3]?=some (I s)) (h4:l[4]?=some (I nur)) (hst:∀ k,st k<65536) (hs:s<65536) (hn:nur<65536) (hcl:cl<65536) (hc:Clr ci cl) :
 runW aA 57 [.pt 0 0,I ci] [some (.blk true (.cells true l))]=some (.bool (rM st s nur cl),[some (.blk true (.cells true l))]):=by
 have e:=w78 hl h3 hst hs hcl hc
 have hr:=aDB (cl:=cl) hst hs
 have b1:=nK cN (a:=jH st s cl) (b:=nur) (by omega) (by omega)
 unfold rM
 generalize jH st s cl=R at *
 by_cases h:R&&&nur=0
 ·have c1:(((R&&&nur:Nat):Int)=0)=True:=eq_true (by omega)
  rw[decide_eq_true h]
  rw[r57 (by simp)];unfold x57;dsimp only
  (sym=>(simp[Za,Zb,Zd,Ze,Zf,Zg,Zh,Zk,Zl,Zm,Zv,Z2,Z3,Z8,ZH,ZJ,ZM,ZQ,ZR,ZT,ZU,Ya,Ym,Yq,YV,YX,YY,Xd,Xr,Xs,Xx,XJ,XK,XP,We,Wf,Wl,W3,W4,W5,W6,W9,WA,WB,WE,WG,WH,WK,WL,WM,WN,WO,WP,WQ,WR,WS,WU,WV,WW,WY,WZ,Ve,Vf,Vi,Vj,Vk,Vl,Vo,Vp,Vq,Vr,Vv,Vx,Vy,Vz,V9,VA,VC,VD,VE,VF,VG,VJ,VK,VL,VM,VO,VY,VZ,Ua,Uc,Ud,Ue,Uf,Ug,Uh,Um,Uq,Ut,Ux,Uy,U0,U1,U2,U3,U4,U5,U6,UD,UE,Tf,Tg,Tk,Tt,Tu,Tv,Tz,T6,T7,Su,Sx,SB,SC,SE,SF,SG,SI,e,b1,h4,c1,hsm];all_goals tactic=>exact rfl))
 ·have c1:(((R&&&nur:Nat):Int)=0)=False:=eq_false (by omega)
  rw[decide_eq_false h]
  rw[r57 (by simp)];unfold x57;dsimp only
  (sym=>(simp[Za,Zb,Zd,Ze,Zf,Zg,Zh,Zk,Zl,Zm,Zv,Z2,Z3,Z8,ZH,ZJ,ZM,ZQ,ZR,ZT,ZU,Ya,Ym,Yq,YV,YX,YY,Xd,Xr,Xs,Xx,XJ,XK,XP,We,Wf,Wl,W3,W4,W5,W6,W9,WA,WB,WE,WG,WH,WK,WL,WM,WN,WO,WP,WQ,WR,WS,WU,WV,WW,WY,WZ,Ve,Vf,Vi,Vj,Vk,Vl,Vo,Vp,Vq,Vr,Vv,Vx,Vy,Vz,V9,VA,VC,VD,VE,VF,VG,VJ,VK,VL,VM,VO,VY,VZ,Ua,Uc,Ud,Ue,Uf,Ug,Uh,Um,Uq,Ut,Ux,Uz,U0,U1,U2,U3,U4,U5,U6,UD,UE,Tf,Tg,Tk,Tt,Tu,Tv,Tz,T6,T7,Su,Sx,SB,SC,SE,SF,SG,SI,e,b1,h4,c1,hsm];all_goals tactic=>exact rfl))
def bMt (b:Nat×Nat) (a c:Nat):Bool:=(b.1==a&&b.2==c)||(b.1==c&&b.2==a)
def pMt (p:Nat×Nat×Nat) (a c:Nat):Bool:=p.2.1==a&&p.2.2==c
def bB (x:Vn) (a c i:Nat):Int:=if bMt (x.bs.getD i (0,0)) a c then 1 else 0
def pB (x:Vn) (a c i:Nat):Int:=if pMt (x.ps.getD i (0,0,0)) a c then 1 else 0
theorem aFK {a b:Nat}:((a:Int)=(b:Int))=(a=b):=by rw[Int.ofNat_inj]
theorem mD (b a:Nat):(((b:Int)=a)=True∧(b==a)=true∧b=a)∨(((b:Int)=a)=False∧(b==a)=false∧b≠a):=by
 by_cases h:b=a
 ·exact .inl ⟨by rw[aFK];exact eq_true h,by simp[h],h⟩
 ·exact .inr ⟨by rw[aFK];exact eq_false h,by simp[h],h⟩
section
variable {x:Vn} (ok:x.Ok) {a c:Nat}
include ok in
theorem aAu {i:Nat} (hi:i<x.bs.length) (h0:bB x a c i=0) :
 aV 0 [1,2,3,7] (execW aA 69 0 none (match oF with | .loop _ a=>a|c=>c) (aS [1,2,3,7] [I a,I c,.pt 0 0,I (i:Nat)]) (dT x))=some ([I a,I c,.pt 0 0,I (i+1:Nat)],dT x):=by
 obtain⟨b,hx⟩:=bK hi
 have a1:=cT hi
 have a2:=fD hi (by have:=ok.nb;omega)
 have gl:(x.bs.map bI).length=x.bs.length:=List.length_map ..
 unfold bB at h0
 rw[aO hx]at h0
 unfold bMt at h0
 unfold oF
 dsimp only
 rcases mD b.1 a with ⟨p1,q1,s1⟩|⟨p1,q1,s1⟩<;>rcases mD b.2 c with ⟨p2,q2,s2⟩|⟨p2,q2,s2⟩<;>rcases mD b.1 c with ⟨p3,q3,s3⟩|⟨p3,q3,s3⟩<;>rcases mD b.2 a with ⟨p4,q4,s4⟩|⟨p4,q4,s4⟩<;>rw[q1,q2,q3,q4]at h0<;>first|(exfalso;revert h0;decide)|(exfalso;clear h0;omega)|(sym=>(simp[Za,Zb,Zd,Ze,Zf,Zh,Zl,Zm,Zp,Zr,Zv,Zy,Z0,Z3,Z4,Z8,ZA,ZF,ZG,ZW,Ya,Yc,Yg,Yh,Yj,Ys,Yw,Yx,YQ,YR,YT,YX,Xd,Xr,Xx,Wq,W3,W4,W5,W7,W8,W9,WA,WC,WE,WH,WI,WK,WL,WM,WO,WQ,WR,WS,WT,WY,WZ,Vf,VQ,VR,VS,VT,VU,VV,VZ,Ua,Ub,Uc,Ud,Uf,Ug,Uh,Ui,Uj,Uk,Um,Uo,Uu,Ux,Uy,Uz,U3,U4,U5,U6,UF,UG,UH,UI,UJ,UK,UL,UM,Tf,Tg,Th,Ti,Tj,Tk,Tt,Tu,Tw,Ty,Tz,T2,T5,T6,T7,TK,a1,a2,hx,p1,p2,p3,p4];all_goals tactic=>exact rfl))
theorem aHF {i:Nat} (hi:i<x.bs.length) (h0:bB x a c i≠0):∃ e h,
 execW aA 69 0 none (match oF with | .loop _ a=>a|c=>c) (aS [1,2,3,7] [I a,I c,.pt 0 0,I (i:Nat)]) (dT x)=some (.ret,e,h)∧bD none [(6,none)] false 0 (some (.ret,e,h))=some (.bool true,[]):=by
 obtain⟨b,hx⟩:=bK hi
 have a1:=cT hi
 have gl:(x.bs.map bI).length=x.bs.length:=List.length_map ..
 unfold bB at h0
 rw[aO hx]at h0
 unfold bMt at h0
 unfold oF
 dsimp only
 rcases mD b.1 a with ⟨p1,q1,s1⟩|⟨p1,q1,s1⟩<;>rcases mD b.2 c with ⟨p2,q2,s2⟩|⟨p2,q2,s2⟩<;>rcases mD b.1 c with ⟨p3,q3,s3⟩|⟨p3,q3,s3⟩<;>rcases mD b.2 a with ⟨p4,q4,s4⟩|⟨p4,q4,s4⟩<;>rw[q1,q2,q3,q4]at h0<;>try (exfalso;revert h0;decide)
 all_goals try (exfalso;clear h0;omega)
 all_goals refine bU ?_ ?_
 all_goals (sym=>(simp[Za,Zb,Zd,Ze,Zf,Zh,Zl,Zm,Zp,Zr,Zt,Zv,Zy,Z0,Z3,Z4,Z8,ZA,ZF,ZG,ZV,ZW,Ya,Yc,Yg,Yh,Ys,Yw,Yx,YQ,YR,YT,YY,Xs,XK,Wf,Wq,W3,W4,W5,W7,W8,W9,WA,WC,WK,WO,WQ,WR,WS,Vv,V9,VA,VC,VD,VE,VF,VG,VJ,VK,VL,VM,VQ,VT,VU,VX,VZ,Ua,Ub,Uc,Ud,Uf,Ug,Uh,Ui,Uj,Uk,Um,Uo,Uu,Uy,Uz,U3,U4,UF,UG,UH,UI,UJ,UK,UL,UM,Tf,Tg,Th,Ti,Tj,Tk,Tt,Tu,Tv,Tw,Ty,Tz,T1,T3,T6,T7,Su,a1,hx,p1,p2,p3,p4];all_goals tactic=>exact rfl))
include ok in
theorem aAt {i:Nat} (hi:i<x.ps.length) (h0:pB x a c i=0) :
 aV 0 [1,2,3,8] (execW aA 69 0 none (match pS with | .loop _ a=>a|c=>c) (aS [1,2,3,8] [I a,I c,.pt 0 0,I (i:Nat)]) (dT x))=some ([I a,I c,.pt 0 0,I (i+1:Nat)],dT x):=by
 obtain⟨b,hx⟩:=bK hi
 have a1:=cT hi
 have a2:=fD hi (by have:=ok.np;omega)
 have gl:(x.ps.map pI).length=x.ps.length:=List.length_map ..
 unfold pB at h0
 rw[aO hx]at h0
 unfold pMt at h0
 unfold pS
 dsimp only
 rcases mD b.2.1 a with ⟨p1,q1,s1⟩|⟨p1,q1,s1⟩<;>rcases mD b.2.2 c with ⟨p2,q2,s2⟩|⟨p2,q2,s2⟩<;>rw[q1,q2]at h0<;>first|(exfalso;revert h0;decide)|(exfalso;clear h0;omega)|(sym=>(simp[Za,Zb,Zd,Ze,Zf,Zh,Zl,Zm,Zp,Zq,Zs,Zv,Zy,Z3,Z8,ZA,ZF,ZG,ZV,ZW,Ya,Yb,Yc,Yg,Yh,Yj,Yq,Ys,Yw,Yx,YX,Xd,Xr,Xx,W3,W4,W5,WC,WE,WH,WI,WK,WL,WM,WO,WQ,WR,WS,WT,WY,WZ,Vf,VQ,VR,VS,VT,VU,VV,VZ,Ua,Uc,Ud,Uf,Ug,Uh,Ui,Uj,Uk,Uu,Ux,Uy,Uz,U3,U4,U5,U6,Tf,Tg,Th,Ti,Tk,Tt,Tu,Tw,Ty,Tz,T2,T5,T6,T7,TK,a1,a2,hx,p1,p2];all_goals tactic=>exact rfl))
theorem aHE {i:Nat} (hi:i<x.ps.length) (h0:pB x a c i≠0):∃ e h,
 execW aA 69 0 none (match pS with | .loop _ a=>a|c=>c) (aS [1,2,3,8] [I a,I c,.pt 0 0,I (i:Nat)]) (dT x)=some (.ret,e,h)∧bD none [(6,none)] false 0 (some (.ret,e,h))=some (.bool true,[]):=by
 obtain⟨b,hx⟩:=bK hi
 have a1:=cT hi
 have gl:(x.ps.map pI).length=x.ps.length:=List.length_map ..
 unfold pB at h0
 rw[aO hx]at h0
 unfold pMt at h0
 unfold pS
 dsimp only
 rcases mD b.2.1 a with ⟨p1,q1,s1⟩|⟨p1,q1,s1⟩<;>rcases mD b.2.2 c with ⟨p2,q2,s2⟩|⟨p2,q2,s2⟩<;>rw[q1,q2]at h0<;>try (exfalso;revert h0;decide)
 all_goals try (exfalso;clear h0;omega)
 all_goals refine bU ?_ ?_
 all_goals (sym=>(simp[Za,Zb,Zd,Ze,Zf,Zh,Zl,Zm,Zp,Zq,Zv,Zy,Z3,Z8,ZA,ZF,ZG,ZV,Ya,Yb,Yc,Yg,Yh,Yq,Ys,Yw,Yx,YY,Xs,XK,Wf,W3,W4,W5,WC,WK,WO,WQ,WR,WS,Vv,V9,VA,VC,VD,VE,VF,VG,VJ,VK,VL,VM,VQ,VT,VU,VX,Ua,Ud,Uf,Ug,Uh,Ui,Uj,Uk,Uu,Uy,U3,U4,Tf,Tg,Th,Ti,Tk,Tt,Tu,Tv,Tw,Ty,Tz,T1,T3,T6,T7,Su,a1,hx,p1,p2];all_goals tactic=>exact rfl))
end
theorem wQ (st:Nat→Nat) (u v a c:Nat):(addS st u v a).testBit c=((st a).testBit c||(u==a&&v==c)):=by
 unfold addS tJ
 split
 ·next h=>subst h;rw[eP,show (v==c)=decide (v=c) from by rw[Bool.eq_iff_iff];simp];simp
 ·next h =>
  have:(u==a)=false:=by simp;omega
  rw[this];simp
theorem vW {α:Type} {f:(Nat→Nat)→α→Nat→Nat} {m:α→Bool} {a c:Nat} (hf:∀ st y,(f st y a).testBit c=((st a).testBit c||m y)):∀ (l:List α) (st:Nat→Nat),(l.foldl f st a).testBit c=((st a).testBit c||l.any m)
 | [],st=>by simp
 | y::l,st=>by rw[List.foldl_cons,vW hf l,hf,List.any_cons,Bool.or_assoc]
theorem aGG (x:Vn) (a c:Nat):(stB x x.bs.length a).testBit c=x.bs.any fun b=>bMt b a c:=by
 unfold stB
 rw[List.take_length,vW (m:=fun b=>bMt b a c)]
 ·simp
 ·intro st y
  rw[wQ,wQ,bMt,Bool.or_assoc,Bool.and_comm (y.2==a)]
theorem yY (x:Vn) (a c:Nat):(dQ x a).testBit c=((x.bs.any fun b=>bMt b a c)||x.ps.any fun p=>pMt p a c):=by
 unfold dQ stP
 rw[List.take_length,vW (m:=fun p=>pMt p a c),aGG]
 intro st y
 rw[wQ,pMt]
theorem aAa {α:Type} {l:List α} {m:α→Bool}:l.any m=true↔∃ (i:Nat) (y:α),l[i]?=some y∧m y=true:=by
 rw[List.any_eq_true]
 constructor
 ·rintro ⟨y,hy,h⟩
  obtain⟨i,hi⟩:=List.getElem?_of_mem hy
  exact⟨i,y,hi,h⟩
 ·rintro ⟨i,y,hi,h⟩
  exact⟨y,List.mem_of_getElem? hi,h⟩
theorem aIh {x:Vn} {a c:Nat} (h:∀ i,i<x.bs.length→bB x a c i=0):(x.bs.any fun b=>bMt b a c)=false:=by
 cases e:x.bs.any fun b=>bMt b a c
 ·rfl
 ·obtain⟨i,y,hi,hy⟩:=aAa.1 e
  have:=h i (eI hi)
  unfold bB at this
  rw[aO hi,hy]at this
  simp at this
theorem aHt {x:Vn} {a c:Nat} (h:∀ i,i<x.ps.length→pB x a c i=0):(x.ps.any fun b=>pMt b a c)=false:=by
 cases e:x.ps.any fun b=>pMt b a c
 ·rfl
 ·obtain⟨i,y,hi,hy⟩:=aAa.1 e
  have:=h i (eI hi)
  unfold pB at this
  rw[aO hi,hy]at this
  simp at this
theorem w69 {x:Vn} (ok:x.Ok) (a c:Nat):runW aA 69 [.agg x.c,I a,I c] []=some (.bool ((dQ x a).testBit c),[]):=by
 have z:=Te (n:=(x.bs.length:Int))
 have zp:=Te (n:=(x.ps.length:Int))
 have n1:(x.bs.map bI).length=x.bs.length:=List.length_map ..
 have n2:(x.ps.map pI).length=x.ps.length:=List.length_map ..
 have b1:((x.bs.map bI).map fun b=>([I b.1,I b.2]:List AV)).length=x.bs.length:=by simp
 have b2:((x.ps.map pI).map fun p=>([I p.1,I p.2.1,I p.2.2]:List AV)).length=x.ps.length:=by simp
 obtain⟨m,m1,m2,m3⟩:=cH (bB x a c) x.bs.length
 rcases m3 with ⟨rfl,_⟩|⟨m3,m4,_⟩
 ·have hb:=aIh m2
  have rd:=fun i (hi:i<x.bs.length)=>aAu ok (a:=a) (c:=c) hi (m2 i hi)
  obtain⟨k,k1,k2,k3⟩:=cH (pB x a c) x.ps.length
  rcases k3 with ⟨rfl,_⟩|⟨k3,k4,_⟩
  ·have hp:=aHt k2
   have rd2:=fun i (hi:i<x.ps.length)=>aAt ok (a:=a) (c:=c) hi (k2 i hi)
   rw[yY,hb,hp,Bool.or_self]
   rw[r69 (by simp)];unfold x69;dsimp only
   sym =>
    simp[Zb,Zf,Zh,Zl,Zo,Zv,Zz,Xi,Xk,Xl,We,Wg,Wi,Ws,WB,VO,VY,Uc,Uh,Um,U7,U8,UD,UE,US,UT,Tn,Tu,Ty,Tz,T6,T7]
    tactic =>
     unfold oF
     rw[aD x.bs.length (fun i=>[I a,I c,.pt 0 0,I (i:Nat)]) (fun _=>dT x)]
     ·sym =>
      simp[Za,Zb,Zf,Zh,Zl,Zm,Zv,Z3,Z8,ZF,ZG,Ya,Yc,Ys,W3,W4,W5,WC,VQ,VT,VV,Ui,Uz,Te,Tf,Tg,Tk,Tt,Tu,Tx,Ty,Tz,T0,T4,T6,T7,z]
      tactic =>
       unfold pS
       rw[aD x.ps.length (fun i=>[I a,I c,.pt 0 0,I (i:Nat)]) (fun _=>dT x)]
       ·(sym=>(simp[Za,Zb,Zf,Zh,Zl,Zm,Zv,Z3,Z8,ZF,ZG,Ya,Yc,Ys,YY,Xs,XK,Wf,W3,W4,W5,WC,WK,WO,WQ,WR,WS,Vv,V9,VA,VC,VD,VE,VF,VG,VJ,VK,VL,VM,VQ,VT,VV,Ua,Ud,Uf,Ui,Uz,U3,U4,Te,Tf,Tg,Tk,Tt,Tu,Tv,Tx,Tz,T0,T4,T6,T7,Su,zp];all_goals tactic=>exact rfl))
       ·(sym=>(simp[Za,Y9,YX,Xd,Xr,Xx,W3,WE,WH,WI,WK,WL,WM,WO,WQ,WR,WS,WT,WY,WZ,Vf,VQ,VR,VS,VZ,Ua,Uc,Ud,Uf,Uk,Ux,U3,U4,U5,U6,T5,TK];all_goals tactic=>exact rfl))
       ·exact rd2
       ·(sym=>(simp[Za,Zb,Zf,Zh,Zl,Zm,Zv,Z3,Z8,ZF,ZG,Ya,Yc,Ys,W3,W4,W5,WC,VQ,VT,VV,VW,Ui,Uz,Te,Tf,Tg,Tk,Tt,Tu,Tx,Tz,T0,T6,zp];all_goals tactic=>exact rfl))
     ·(sym=>(simp[Za,Y9,YX,Xd,Xr,Xx,W3,WB,WE,WH,WI,WK,WL,WM,WO,WQ,WR,WS,WT,WY,WZ,Vf,VO,VR,VS,VZ,Ua,Uc,Ud,Uf,Uk,Ux,U3,U4,U5,U6,T5,TK];all_goals tactic=>exact rfl))
     ·exact rd
     ·(sym=>(simp[Za,Zb,Zf,Zh,Zl,Zm,Zv,Z3,Z8,ZF,ZG,Ya,Yc,Ys,W3,W4,W5,WC,VQ,VT,VV,VW,Ui,Uz,Te,Tf,Tg,Tk,Tt,Tu,Tx,Tz,T0,T6,z];all_goals tactic=>exact rfl))
  ·have rd2:=fun i (hi:i<k)=>aAt ok (a:=a) (c:=c) (show i<x.ps.length by omega) (k2 i hi)
   obtain⟨e,hh,q1,q2⟩:=aHE (a:=a) (c:=c) k3 k4
   have ht:(dQ x a).testBit c=true:=by
    rw[yY,Bool.or_eq_true]
    obtain⟨y,hy⟩:=bK k3
    refine .inr (aAa.2 ⟨k,y,hy,?_⟩)
    unfold pB at k4
    rw[aO hy]at k4
    by_cases h:pMt y a c=true
    ·exact h
    ·rw[if_neg h]at k4;simp at k4
   rw[ht]
   rw[r69 (by simp)];unfold x69;dsimp only
   sym =>
    simp[Zb,Zf,Zh,Zl,Zo,Zv,Zz,Xi,Xk,Xl,We,Wg,Wi,Ws,WB,VO,VY,Uc,Uh,Um,U7,U8,UD,UE,US,UT,Tn,Tu,Ty,Tz,T6,T7]
    tactic =>
     unfold oF
     rw[aD x.bs.length (fun i=>[I a,I c,.pt 0 0,I (i:Nat)]) (fun _=>dT x)]
     ·sym =>
      simp[Za,Zb,Zf,Zh,Zl,Zm,Zv,Z3,Z8,ZF,ZG,Ya,Yc,Ys,W3,W4,W5,WC,VQ,VT,VV,Ui,Uz,Te,Tf,Tg,Tk,Tt,Tu,Tx,Ty,Tz,T0,T4,T6,T7,z]
      tactic =>
       unfold pS
       rw[aD k (fun i=>[I a,I c,.pt 0 0,I (i:Nat)]) (fun _=>dT x)]
       ·unfold pS at q1
        dsimp only at q1
        rw[q1]
        exact q2
       ·(sym=>(simp[Za,Y9,YX,Xd,Xr,Xx,W3,WE,WH,WI,WK,WL,WM,WO,WQ,WR,WS,WT,WY,WZ,Vf,VQ,VR,VS,VZ,Ua,Uc,Ud,Uf,Uk,Ux,U3,U4,U5,U6,T5,TK];all_goals tactic=>exact rfl))
       ·exact rd2
       ·unfold pS at q1
        dsimp only at q1
        rw[q1]
        rfl
     ·(sym=>(simp[Za,Y9,YX,Xd,Xr,Xx,W3,WB,WE,WH,WI,WK,WL,WM,WO,WQ,WR,WS,WT,WY,WZ,Vf,VO,VR,VS,VZ,Ua,Uc,Ud,Uf,Uk,Ux,U3,U4,U5,U6,T5,TK];all_goals tactic=>exact rfl))
     ·exact rd
     ·(sym=>(simp[Za,Zb,Zf,Zh,Zl,Zm,Zv,Z3,Z8,ZF,ZG,Ya,Yc,Ys,W3,W4,W5,WC,VQ,VT,VV,VW,Ui,Uz,Te,Tf,Tg,Tk,Tt,Tu,Tx,Tz,T0,T6,z];all_goals tactic=>exact rfl))
 ·have rd:=fun i (hi:i<m)=>aAu ok (a:=a) (c:=c) (show i<x.bs.length by omega) (m2 i hi)
  obtain⟨e,hh,q1,q2⟩:=aHF (a:=a) (c:=c) m3 m4
  have ht:(dQ x a).testBit c=true:=by
   rw[yY,Bool.or_eq_true]
   obtain⟨y,hy⟩:=bK m3
   refine .inl (aAa.2 ⟨m,y,hy,?_⟩)
   unfold bB at m4
   rw[aO hy]at m4
   by_cases h:bMt y a c=true
   ·exact h
   ·rw[if_neg h]at m4;simp at m4
  rw[ht]
  rw[r69 (by simp)];unfold x69;dsimp only
  sym =>
   simp[Zb,Zf,Zh,Zl,Zo,Zv,Zz,Xi,Xk,Xl,We,Wg,Wi,Ws,WB,VO,VY,Uc,Uh,Um,U7,U8,UD,UE,US,UT,Tn,Tu,Ty,Tz,T6,T7]
   tactic =>
    unfold oF
    rw[aD m (fun i=>[I a,I c,.pt 0 0,I (i:Nat)]) (fun _=>dT x)]
    ·unfold oF at q1
     dsimp only at q1
     rw[q1]
     exact q2
    ·(sym=>(simp[Za,Y9,YX,Xd,Xr,Xx,W3,WB,WE,WH,WI,WK,WL,WM,WO,WQ,WR,WS,WT,WY,WZ,Vf,VO,VR,VS,VZ,Ua,Uc,Ud,Uf,Uk,Ux,U3,U4,U5,U6,T5,TK];all_goals tactic=>exact rfl))
    ·exact rd
    ·unfold oF at q1
     dsimp only at q1
     rw[q1]
     rfl
section
variable {st:Nat→Nat} {s cl F:Nat}
end
section
variable {x:Vn} (ok:x.Ok) {cl:Nat} (hcl:cl<2^x.F)
include ok hcl in
end
section
variable {x:Vn} (ok:x.Ok) {c:List Int} (hc:c.length<1000000000)
include ok hc in
end
def lD (a b:Int):Int:=Int.tmod a b
def lE (a b:Int):Int:=Int.tdiv a b
def aFo (z:Bool) (k:IntKind) (v:Int):Option AV:=if z then none else some (.int k v)
theorem fJ (k:IntKind) (v:Int):aFo false k v=some (.int k v):=rfl
theorem dF {k:IntKind} {a b:Int}:eS .rem k a k b=aFo (decide (b=0)) k (lD a b):=by
 by_cases h:b=0<;>simp[eS,aFo,h,lD]
theorem dG {k:IntKind} {a b:Int}:eS .quo k a k b=aFo (decide (b=0)) k (k.wrap (lE a b)):=by
 by_cases h:b=0<;>simp[eS,aFo,h,lE]
theorem bX (a b:Nat):lE (a:Int) (b:Int)=((a/b:Nat):Int):=by rw[lE,Int.tdiv_eq_ediv_of_nonneg (by omega)];exact(Int.natCast_ediv a b).symm
theorem bW (a b:Nat):lD (a:Int) (b:Int)=((a%b:Nat):Int):=by rw[lD,Int.tmod_eq_emod_of_nonneg (by omega)];exact(Int.natCast_emod a b).symm
def flC (fl:Nat→Nat→Int):List AV:=(List.range 1156).map fun k=>I (fl (k/34) (k%34))
def gJ (v:AV) (fl:Nat→Nat→Int):List AV:=v::flC fl
theorem aKz (l:List Nat) (f:Nat→Int):mB (l.map fun k=>I (f k))=[]:=by
 induction l with
 | nil=>simp[mB]
 | cons a l ih=>rw[List.map_cons,mB,ih];rfl
theorem aKx (s:Nat→Option Nat) (l:List Nat) (f:Nat→Int):kK s (l.map fun k=>I (f k))=l.map fun k=>I (f k):=by
 induction l with
 | nil=>simp[kK]
 | cons a l ih=>rw[List.map_cons,kK,ih];rfl
theorem aIw (l:List Nat) (f:Nat→Int):fG (l.map fun k=>I (f k))=true:=by
 induction l with
 | nil=>simp[fG]
 | cons a l ih=>rw[List.map_cons,fG,ih];rfl
theorem aKM (b:Nat) (cs:List AV) (l:List Nat) (f:Nat→Int):tN b cs (l.map fun k=>I (f k))=l.map fun k=>I (f k):=by
 induction l with
 | nil=>simp[tN]
 | cons a l ih=>rw[List.map_cons,tN,ih];rfl
theorem aJ {v:AV} {fl:Nat→Nat→Int}:mB (gJ v fl)=nmA v:=by rw[gJ,mB,flC,aKz (List.range 1156) (fun k=>fl (k/34) (k%34)),List.append_nil]
theorem aI {s:Nat→Option Nat} {v:AV} {fl:Nat→Nat→Int}:kK s (gJ v fl)=gJ (rnA s v) fl:=by rw[gJ,kK,flC,aKx s (List.range 1156) (fun k=>fl (k/34) (k%34))];rfl
theorem aK {v:AV} {fl:Nat→Nat→Int}:fG (gJ v fl)=fZ v:=by rw[gJ,fG,flC,aIw (List.range 1156) (fun k=>fl (k/34) (k%34)),Bool.and_true]
theorem aL {b:Nat} {cs:List AV} {v:AV} {fl:Nat→Nat→Int}:tN b cs (gJ v fl)=gJ (wY b cs v) fl:=by rw[gJ,tN,flC,aKM b cs (List.range 1156) (fun k=>fl (k/34) (k%34))];rfl
theorem aR {v:AV} {fl:Nat→Nat→Int}:(gJ v fl)[0]?=some v:=rfl
theorem aHU (fl:Nat→Nat→Int):(flC fl).length=1156:=by simp[flC]
theorem aF {v:AV} {fl:Nat→Nat→Int}:(gJ v fl).length=1157:=by rw[gJ,List.length_cons,aHU]
theorem bM {v:AV} {fl:Nat→Nat→Int} {a b:Nat} (ha:a<34) (hb:b<34):(gJ v fl)[1+a*34+b]?=some (I (fl a b)):=by
 rw[show 1+a*34+b=(a*34+b)+1 by omega,gJ,List.getElem?_cons_succ,flC,List.getElem?_map,List.getElem?_range (by omega),Option.map_some]
 rw[show (a*34+b)/34=a by omega,show (a*34+b)%34=b by omega]
def kA (fl:Nat→Nat→Int) (a b:Nat) (v:Int):Nat→Nat→Int:=fun c d=>if c=a∧d=b then v else fl c d
theorem qK {v:AV} {fl:Nat→Nat→Int} {a b:Nat} {n:Int} (ha:a<34) (hb:b<34):bT (gJ v fl) (1+a*34+b) [I n]=gJ v (kA fl a b n):=by
 rw[jF (by rw[aF];omega)]
 apply List.ext_getElem?
 intro j
 rw[List.getElem?_set,aF]
 by_cases hj:1+a*34+b=j
 ·subst hj
  rw[if_pos rfl,if_pos (by omega),bM ha hb,kA,if_pos ⟨rfl,rfl⟩]
 ·rw[if_neg hj]
  by_cases h0:j=0
  ·subst h0;rfl
  ·by_cases h:j<1157
   ·obtain⟨c,d,hc,hd,rfl⟩:∃ c d,c<34∧d<34∧j=1+c*34+d:=⟨(j-1)/34,(j-1)%34,by omega,by omega,by omega⟩
    rw[bM hc hd,bM hc hd,kA,if_neg (by rintro ⟨rfl,rfl⟩;exact hj rfl)]
   ·rw[List.getElem?_eq_none (by rw[aF];omega),List.getElem?_eq_none (by rw[aF];omega)]
def bO (st:Nat→Nat) (s nur fix a b:Nat):Int :=
 if a=32 then (if b%2=0∧b<32∧s.testBit (b/2)=true then 16 else 0)
 else if b=33 then (if a%2=1∧a<32∧nur.testBit (a/2)=true then 16 else 0)
 else if 32≤a∨32≤b then 0
 else if a%2=0∧b=a+1 then (if fix.testBit (a/2)=true then 16 else 1)
 else if a%2=1∧b%2=0∧(st (a/2)).testBit (b/2)=true then 16 else 0
structure aCl (l:List AV) (st:Nat→Nat) (F s nur fix:Nat):Prop where
 k:∀ k,k<16→l[6+k]?=some (I (st k))
 l0:l[0]?=some (I F)
 l3:l[3]?=some (I s)
 l4:l[4]?=some (I nur)
 l5:l[5]?=some (I fix)
 F16:F≤16
 st:∀ k,st k<65536
 s:s<65536
 nur:nur<65536
 fix:fix<65536
theorem aNG {x:Vn} (ok:x.Ok):aCl (eR x (dQ x)) (dQ x) x.F x.sick x.nur x.fix:=by
 have hp:=bA ok.F16
 have:=ok.s
 have:=ok.n
 have:=ok.f
 exact⟨fun k hk=>iQ hk,rfl,rfl,rfl,rfl,ok.F16,fun k=>Nat.lt_of_lt_of_le (gE ok _ k) hp,by omega,by omega,by omega⟩
def FlB (fl:Nat→Nat→Int):Prop:=∀ a b,0≤fl a b∧fl a b≤100
def cK (st:Nat→Nat) (s nur fix:Nat) (fl:Nat→Nat→Int) (a b:Nat):Int:=bO st s nur fix a b-fl a b+fl b a
abbrev gN (l:List AV) (fl:Nat→Nat→Int):XH:=[some (.blk false (.cells true (gJ (.pt 1 0) fl))),some (.blk true (.cells true l))]
end Go.Proofs.YtiabjdfdkiijmaaDoor
