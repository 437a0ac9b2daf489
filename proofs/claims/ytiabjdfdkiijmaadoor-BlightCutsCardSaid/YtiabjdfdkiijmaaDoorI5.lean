/- Parts of a proof, joined: GT E0 K1 K2 K3 K4 K5 K6 K7 K8 K9 K10 K11 K12 K13 K14 K15 K16 K17 K18 K19 K20 K21 K22 K23 K24 K25 K26 K27 K28 K29 K30 K31 K32 K33 K34 K35 K36 K37 K38 K39 K40 K41 K42 K43 K44. No statement of the seed is proved here. -/
import Derived.KernelRfl
import Derived.Test.YtiabjdfdkiijmaaDoorI4
set_option linter.unusedSimpArgs false
set_option linter.unusedVariables false
set_option linter.unusedSectionVars false
namespace Go.Proofs.YtiabjdfdkiijmaaDoor
open Go Go.DL Go.Proofs.Tryd

def aA:Nat→Option XFn
 | 5=>some x5
 | 15=>some x15
 | 16=>some x16
 | 17=>some x17
 | 18=>some x18
 | 20=>some x20
 | 22=>some x22
 | 23=>some x23
 | 24=>some x24
 | 25=>some x25
 | 27=>some x27
 | 29=>some x29
 | 30=>some x30
 | 31=>some x31
 | 32=>some x32
 | 33=>some x33
 | 34=>some x34
 | 35=>some x35
 | 44=>some x44
 | 45=>some x45
 | 46=>some x46
 | 47=>some x47
 | 49=>some x49
 | 50=>some x50
 | 51=>some x51
 | 52=>some x52
 | 53=>some x53
 | 54=>some x54
 | 56=>some x56
 | 57=>some x57
 | 58=>some x58
 | 59=>some x59
 | 60=>some x60
 | 61=>some x61
 | 62=>some x62
 | 63=>some x63
 | 64=>some x64
 | 65=>some x65
 | 66=>some x66
 | 67=>some x67
 | 68=>some x68
 | 69=>some x69
 | 70=>some x70
 | 71=>some x71
 | 72=>some x72
 | 74=>some x74
 | 75=>some x75
 | 76=>some x76
 | 77=>some x77
 | 78=>some x78
 | 79=>some x79
 | 80=>some x80
 | 81=>some x81
 | 82=>some x82
 | 83=>some x83
 | 84=>some x84
 | 85=>some x85
 | 86=>some x86
 | 87=>some x87
 | 88=>some x88
 | 89=>some x89
 | 90=>some x90
 | 91=>some x91
 | _=>none
theorem aGl:XOk prog aA:=by
 refine⟨rfl,fun k d h=>?_,fun k d h=>?_,fun k d h=>?_⟩
 ·unfold aA at h
  split at h
  ·simp only[oSI]at h;subst h;exact is5
  ·simp only[oSI]at h;subst h;exact aQh
  ·simp only[oSI]at h;subst h;exact aQg
  ·simp only[oSI]at h;subst h;exact aQf
  ·simp only[oSI]at h;subst h;exact aQe
  ·simp only[oSI]at h;subst h;exact aQd
  ·simp only[oSI]at h;subst h;exact aQc
  ·simp only[oSI]at h;subst h;exact aQb
  ·simp only[oSI]at h;subst h;exact aQa
  ·simp only[oSI]at h;subst h;exact aPZ
  ·simp only[oSI]at h;subst h;exact aPY
  ·simp only[oSI]at h;subst h;exact aPX
  ·simp only[oSI]at h;subst h;exact aPW
  ·simp only[oSI]at h;subst h;exact aPV
  ·simp only[oSI]at h;subst h;exact aPU
  ·simp only[oSI]at h;subst h;exact aPT
  ·simp only[oSI]at h;subst h;exact aPS
  ·simp only[oSI]at h;subst h;exact aPR
  ·simp only[oSI]at h;subst h;exact aPQ
  ·simp only[oSI]at h;subst h;exact aPP
  ·simp only[oSI]at h;subst h;exact aPO
  ·simp only[oSI]at h;subst h;exact aPN
  ·simp only[oSI]at h;subst h;exact aPM
  ·simp only[oSI]at h;subst h;exact aPL
  ·simp only[oSI]at h;subst h;exact aPK
  ·simp only[oSI]at h;subst h;exact aPJ
  ·simp only[oSI]at h;subst h;exact aPI
  ·simp only[oSI]at h;subst h;exact aPH
  ·simp only[oSI]at h;subst h;exact aPG
  ·simp only[oSI]at h;subst h;exact aPF
  ·simp only[oSI]at h;subst h;exact aPE
  ·simp only[oSI]at h;subst h;exact aPD
  ·simp only[oSI]at h;subst h;exact aPC
  ·simp only[oSI]at h;subst h;exact aPB
  ·simp only[oSI]at h;subst h;exact aPA
  ·simp only[oSI]at h;subst h;exact aPz
  ·simp only[oSI]at h;subst h;exact aPy
  ·simp only[oSI]at h;subst h;exact aPx
  ·simp only[oSI]at h;subst h;exact aPw
  ·simp only[oSI]at h;subst h;exact aPv
  ·simp only[oSI]at h;subst h;exact aPu
  ·simp only[oSI]at h;subst h;exact aPt
  ·simp only[oSI]at h;subst h;exact aPs
  ·simp only[oSI]at h;subst h;exact aPr
  ·simp only[oSI]at h;subst h;exact aPq
  ·simp only[oSI]at h;subst h;exact aPp
  ·simp only[oSI]at h;subst h;exact aPo
  ·simp only[oSI]at h;subst h;exact aPn
  ·simp only[oSI]at h;subst h;exact aPm
  ·simp only[oSI]at h;subst h;exact aPl
  ·simp only[oSI]at h;subst h;exact aPk
  ·simp only[oSI]at h;subst h;exact aPj
  ·simp only[oSI]at h;subst h;exact aPi
  ·simp only[oSI]at h;subst h;exact aPh
  ·simp only[oSI]at h;subst h;exact aPg
  ·simp only[oSI]at h;subst h;exact aPf
  ·simp only[oSI]at h;subst h;exact aPe
  ·simp only[oSI]at h;subst h;exact aPd
  ·simp only[oSI]at h;subst h;exact aPc
  ·simp only[oSI]at h;subst h;exact aPb
  ·simp only[oSI]at h;subst h;exact aPa
  ·simp only[oSI]at h;subst h;exact aOZ
  ·simp only[oSI]at h;subst h;exact aOY
  ·cases h
 ·unfold aA at h
  split at h
  ·simp only[oSI]at h;subst h;exact ok5
  ·simp only[oSI]at h;subst h;exact aOW
  ·simp only[oSI]at h;subst h;exact aOV
  ·simp only[oSI]at h;subst h;exact aOU
  ·simp only[oSI]at h;subst h;exact aOT
  ·simp only[oSI]at h;subst h;exact aOS
  ·simp only[oSI]at h;subst h;exact aOR
  ·simp only[oSI]at h;subst h;exact aOQ
  ·simp only[oSI]at h;subst h;exact aOP
  ·simp only[oSI]at h;subst h;exact aOO
  ·simp only[oSI]at h;subst h;exact aON
  ·simp only[oSI]at h;subst h;exact aOM
  ·simp only[oSI]at h;subst h;exact aOL
  ·simp only[oSI]at h;subst h;exact aOK
  ·simp only[oSI]at h;subst h;exact aOJ
  ·simp only[oSI]at h;subst h;exact aOI
  ·simp only[oSI]at h;subst h;exact aOH
  ·simp only[oSI]at h;subst h;exact aOG
  ·simp only[oSI]at h;subst h;exact aOF
  ·simp only[oSI]at h;subst h;exact aOE
  ·simp only[oSI]at h;subst h;exact aOD
  ·simp only[oSI]at h;subst h;exact aOC
  ·simp only[oSI]at h;subst h;exact aOB
  ·simp only[oSI]at h;subst h;exact aOA
  ·simp only[oSI]at h;subst h;exact aOz
  ·simp only[oSI]at h;subst h;exact aOy
  ·simp only[oSI]at h;subst h;exact aOx
  ·simp only[oSI]at h;subst h;exact aOw
  ·simp only[oSI]at h;subst h;exact aOv
  ·simp only[oSI]at h;subst h;exact aOu
  ·simp only[oSI]at h;subst h;exact aOt
  ·simp only[oSI]at h;subst h;exact aOs
  ·simp only[oSI]at h;subst h;exact aOr
  ·simp only[oSI]at h;subst h;exact aOq
  ·simp only[oSI]at h;subst h;exact aOp
  ·simp only[oSI]at h;subst h;exact aOo
  ·simp only[oSI]at h;subst h;exact aOn
  ·simp only[oSI]at h;subst h;exact aOm
  ·simp only[oSI]at h;subst h;exact aOl
  ·simp only[oSI]at h;subst h;exact aOk
  ·simp only[oSI]at h;subst h;exact aOj
  ·simp only[oSI]at h;subst h;exact aOi
  ·simp only[oSI]at h;subst h;exact aOh
  ·simp only[oSI]at h;subst h;exact aOg
  ·simp only[oSI]at h;subst h;exact aOf
  ·simp only[oSI]at h;subst h;exact aOe
  ·simp only[oSI]at h;subst h;exact aOd
  ·simp only[oSI]at h;subst h;exact aOc
  ·simp only[oSI]at h;subst h;exact aOb
  ·simp only[oSI]at h;subst h;exact aOa
  ·simp only[oSI]at h;subst h;exact aNZ
  ·simp only[oSI]at h;subst h;exact aNY
  ·simp only[oSI]at h;subst h;exact aNX
  ·simp only[oSI]at h;subst h;exact aNW
  ·simp only[oSI]at h;subst h;exact aNV
  ·simp only[oSI]at h;subst h;exact aNU
  ·simp only[oSI]at h;subst h;exact aNT
  ·simp only[oSI]at h;subst h;exact aNS
  ·simp only[oSI]at h;subst h;exact aNR
  ·simp only[oSI]at h;subst h;exact aNQ
  ·simp only[oSI]at h;subst h;exact aNP
  ·simp only[oSI]at h;subst h;exact aNO
  ·simp only[oSI]at h;subst h;exact aNN
  ·cases h
 ·unfold aA at h
  split at h
  ·simp only[oSI]at h;subst h;exact st5
  ·simp only[oSI]at h;subst h;exact aNK
  ·simp only[oSI]at h;subst h;exact aNJ
  ·simp only[oSI]at h;subst h;exact aNI
  ·simp only[oSI]at h;subst h;exact aNH
  ·simp only[oSI]at h;subst h;exact aNG
  ·simp only[oSI]at h;subst h;exact aNF
  ·simp only[oSI]at h;subst h;exact aNE
  ·simp only[oSI]at h;subst h;exact aND
  ·simp only[oSI]at h;subst h;exact aNC
  ·simp only[oSI]at h;subst h;exact aNB
  ·simp only[oSI]at h;subst h;exact aNA
  ·simp only[oSI]at h;subst h;exact aNz
  ·simp only[oSI]at h;subst h;exact aNy
  ·simp only[oSI]at h;subst h;exact aNx
  ·simp only[oSI]at h;subst h;exact aNw
  ·simp only[oSI]at h;subst h;exact aNv
  ·simp only[oSI]at h;subst h;exact aNu
  ·simp only[oSI]at h;subst h;exact aNt
  ·simp only[oSI]at h;subst h;exact aNs
  ·simp only[oSI]at h;subst h;exact aNr
  ·simp only[oSI]at h;subst h;exact aNq
  ·simp only[oSI]at h;subst h;exact aNp
  ·simp only[oSI]at h;subst h;exact aNo
  ·simp only[oSI]at h;subst h;exact aNn
  ·simp only[oSI]at h;subst h;exact aNm
  ·simp only[oSI]at h;subst h;exact aNl
  ·simp only[oSI]at h;subst h;exact aNk
  ·simp only[oSI]at h;subst h;exact aNj
  ·simp only[oSI]at h;subst h;exact aNi
  ·simp only[oSI]at h;subst h;exact aNh
  ·simp only[oSI]at h;subst h;exact aNg
  ·simp only[oSI]at h;subst h;exact aNf
  ·simp only[oSI]at h;subst h;exact aNe
  ·simp only[oSI]at h;subst h;exact aNd
  ·simp only[oSI]at h;subst h;exact aNc
  ·simp only[oSI]at h;subst h;exact aNb
  ·simp only[oSI]at h;subst h;exact aNa
  ·simp only[oSI]at h;subst h;exact aMZ
  ·simp only[oSI]at h;subst h;exact aMY
  ·simp only[oSI]at h;subst h;exact aMX
  ·simp only[oSI]at h;subst h;exact aMW
  ·simp only[oSI]at h;subst h;exact aMV
  ·simp only[oSI]at h;subst h;exact aMU
  ·simp only[oSI]at h;subst h;exact aMT
  ·simp only[oSI]at h;subst h;exact aMS
  ·simp only[oSI]at h;subst h;exact aMR
  ·simp only[oSI]at h;subst h;exact aMQ
  ·simp only[oSI]at h;subst h;exact aMP
  ·simp only[oSI]at h;subst h;exact aMO
  ·simp only[oSI]at h;subst h;exact aMN
  ·simp only[oSI]at h;subst h;exact aMM
  ·simp only[oSI]at h;subst h;exact aML
  ·simp only[oSI]at h;subst h;exact aMK
  ·simp only[oSI]at h;subst h;exact aMJ
  ·simp only[oSI]at h;subst h;exact aMI
  ·simp only[oSI]at h;subst h;exact aMH
  ·simp only[oSI]at h;subst h;exact aMG
  ·simp only[oSI]at h;subst h;exact aMF
  ·simp only[oSI]at h;subst h;exact aME
  ·simp only[oSI]at h;subst h;exact aMD
  ·simp only[oSI]at h;subst h;exact aMC
  ·simp only[oSI]at h;subst h;exact aMB
  ·cases h
theorem r5 {vs:List AV} {h:XH} (hl:vs.length≤105):runW aA 5 vs h=bD none x5.res x5.ownR h.length (execW aA 5 h.length none x5.body (aN (if x5.ownA then vs else eD vs)) h):=aS rfl hl h rfl
theorem r15 {vs:List AV} {h:XH} (hl:vs.length≤13):runW aA 15 vs h=bD none x15.res x15.ownR h.length (execW aA 15 h.length none x15.body (aN (if x15.ownA then vs else eD vs)) h):=aS rfl hl h rfl
theorem r16 {vs:List AV} {h:XH} (hl:vs.length≤168):runW aA 16 vs h=bD none x16.res x16.ownR h.length (execW aA 16 h.length none x16.body (aN (if x16.ownA then vs else eD vs)) h):=aS rfl hl h rfl
theorem r17 {vs:List AV} {h:XH} (hl:vs.length≤34):runW aA 17 vs h=bD none x17.res x17.ownR h.length (execW aA 17 h.length none x17.body (aN (if x17.ownA then vs else eD vs)) h):=aS rfl hl h rfl
theorem r20 {vs:List AV} {h:XH} (hl:vs.length≤26):runW aA 20 vs h=bD none x20.res x20.ownR h.length (execW aA 20 h.length none x20.body (aN (if x20.ownA then vs else eD vs)) h):=aS rfl hl h rfl
theorem r22 {vs:List AV} {h:XH} (hl:vs.length≤26):runW aA 22 vs h=bD none x22.res x22.ownR h.length (execW aA 22 h.length none x22.body (aN (if x22.ownA then vs else eD vs)) h):=aS rfl hl h rfl
theorem r23 {vs:List AV} {h:XH} (hl:vs.length≤83):runW aA 23 vs h=bD none x23.res x23.ownR h.length (execW aA 23 h.length none x23.body (aN (if x23.ownA then vs else eD vs)) h):=aS rfl hl h rfl
theorem r24 {vs:List AV} {h:XH} (hl:vs.length≤117):runW aA 24 vs h=bD none x24.res x24.ownR h.length (execW aA 24 h.length none x24.body (aN (if x24.ownA then vs else eD vs)) h):=aS rfl hl h rfl
theorem r29 {vs:List AV} {h:XH} (hl:vs.length≤50):runW aA 29 vs h=bD none x29.res x29.ownR h.length (execW aA 29 h.length none x29.body (aN (if x29.ownA then vs else eD vs)) h):=aS rfl hl h rfl
theorem r30 {vs:List AV} {h:XH} (hl:vs.length≤61):runW aA 30 vs h=bD none x30.res x30.ownR h.length (execW aA 30 h.length none x30.body (aN (if x30.ownA then vs else eD vs)) h):=aS rfl hl h rfl
theorem r31 {vs:List AV} {h:XH} (hl:vs.length≤57):runW aA 31 vs h=bD none x31.res x31.ownR h.length (execW aA 31 h.length none x31.body (aN (if x31.ownA then vs else eD vs)) h):=aS rfl hl h rfl
theorem r32 {vs:List AV} {h:XH} (hl:vs.length≤35):runW aA 32 vs h=bD none x32.res x32.ownR h.length (execW aA 32 h.length none x32.body (aN (if x32.ownA then vs else eD vs)) h):=aS rfl hl h rfl
theorem r33 {vs:List AV} {h:XH} (hl:vs.length≤82):runW aA 33 vs h=bD none x33.res x33.ownR h.length (execW aA 33 h.length none x33.body (aN (if x33.ownA then vs else eD vs)) h):=aS rfl hl h rfl
theorem r34 {vs:List AV} {h:XH} (hl:vs.length≤118):runW aA 34 vs h=bD none x34.res x34.ownR h.length (execW aA 34 h.length none x34.body (aN (if x34.ownA then vs else eD vs)) h):=aS rfl hl h rfl
theorem r35 {vs:List AV} {h:XH} (hl:vs.length≤75):runW aA 35 vs h=bD none x35.res x35.ownR h.length (execW aA 35 h.length none x35.body (aN (if x35.ownA then vs else eD vs)) h):=aS rfl hl h rfl
theorem r45 {vs:List AV} {h:XH} (hl:vs.length≤15):runW aA 45 vs h=bD none x45.res x45.ownR h.length (execW aA 45 h.length none x45.body (aN (if x45.ownA then vs else eD vs)) h):=aS rfl hl h rfl
theorem r47 {vs:List AV} {h:XH} (hl:vs.length≤11):runW aA 47 vs h=bD none x47.res x47.ownR h.length (execW aA 47 h.length none x47.body (aN (if x47.ownA then vs else eD vs)) h):=aS rfl hl h rfl
theorem r49 {vs:List AV} {h:XH} (hl:vs.length≤17):runW aA 49 vs h=bD none x49.res x49.ownR h.length (execW aA 49 h.length none x49.body (aN (if x49.ownA then vs else eD vs)) h):=aS rfl hl h rfl
theorem r51 {vs:List AV} {h:XH} (hl:vs.length≤8):runW aA 51 vs h=bD none x51.res x51.ownR h.length (execW aA 51 h.length none x51.body (aN (if x51.ownA then vs else eD vs)) h):=aS rfl hl h rfl
theorem r52 {vs:List AV} {h:XH} (hl:vs.length≤10):runW aA 52 vs h=bD none x52.res x52.ownR h.length (execW aA 52 h.length none x52.body (aN (if x52.ownA then vs else eD vs)) h):=aS rfl hl h rfl
theorem r53 {vs:List AV} {h:XH} (hl:vs.length≤26):runW aA 53 vs h=bD none x53.res x53.ownR h.length (execW aA 53 h.length none x53.body (aN (if x53.ownA then vs else eD vs)) h):=aS rfl hl h rfl
theorem r56 {vs:List AV} {h:XH} (hl:vs.length≤77):runW aA 56 vs h=bD none x56.res x56.ownR h.length (execW aA 56 h.length none x56.body (aN (if x56.ownA then vs else eD vs)) h):=aS rfl hl h rfl
theorem r57 {vs:List AV} {h:XH} (hl:vs.length≤15):runW aA 57 vs h=bD none x57.res x57.ownR h.length (execW aA 57 h.length none x57.body (aN (if x57.ownA then vs else eD vs)) h):=aS rfl hl h rfl
theorem r58 {vs:List AV} {h:XH} (hl:vs.length≤51):runW aA 58 vs h=bD none x58.res x58.ownR h.length (execW aA 58 h.length none x58.body (aN (if x58.ownA then vs else eD vs)) h):=aS rfl hl h rfl
theorem r59 {vs:List AV} {h:XH} (hl:vs.length≤24):runW aA 59 vs h=bD none x59.res x59.ownR h.length (execW aA 59 h.length none x59.body (aN (if x59.ownA then vs else eD vs)) h):=aS rfl hl h rfl
theorem r60 {vs:List AV} {h:XH} (hl:vs.length≤10):runW aA 60 vs h=bD none x60.res x60.ownR h.length (execW aA 60 h.length none x60.body (aN (if x60.ownA then vs else eD vs)) h):=aS rfl hl h rfl
theorem r61 {vs:List AV} {h:XH} (hl:vs.length≤36):runW aA 61 vs h=bD none x61.res x61.ownR h.length (execW aA 61 h.length none x61.body (aN (if x61.ownA then vs else eD vs)) h):=aS rfl hl h rfl
theorem r62 {vs:List AV} {h:XH} (hl:vs.length≤5):runW aA 62 vs h=bD none x62.res x62.ownR h.length (execW aA 62 h.length none x62.body (aN (if x62.ownA then vs else eD vs)) h):=aS rfl hl h rfl
theorem r63 {vs:List AV} {h:XH} (hl:vs.length≤6):runW aA 63 vs h=bD none x63.res x63.ownR h.length (execW aA 63 h.length none x63.body (aN (if x63.ownA then vs else eD vs)) h):=aS rfl hl h rfl
theorem r64 {vs:List AV} {h:XH} (hl:vs.length≤45):runW aA 64 vs h=bD none x64.res x64.ownR h.length (execW aA 64 h.length none x64.body (aN (if x64.ownA then vs else eD vs)) h):=aS rfl hl h rfl
theorem r65 {vs:List AV} {h:XH} (hl:vs.length≤27):runW aA 65 vs h=bD none x65.res x65.ownR h.length (execW aA 65 h.length none x65.body (aN (if x65.ownA then vs else eD vs)) h):=aS rfl hl h rfl
theorem r66 {vs:List AV} {h:XH} (hl:vs.length≤19):runW aA 66 vs h=bD none x66.res x66.ownR h.length (execW aA 66 h.length none x66.body (aN (if x66.ownA then vs else eD vs)) h):=aS rfl hl h rfl
theorem r67 {vs:List AV} {h:XH} (hl:vs.length≤5):runW aA 67 vs h=bD none x67.res x67.ownR h.length (execW aA 67 h.length none x67.body (aN (if x67.ownA then vs else eD vs)) h):=aS rfl hl h rfl
theorem r68 {vs:List AV} {h:XH} (hl:vs.length≤19):runW aA 68 vs h=bD none x68.res x68.ownR h.length (execW aA 68 h.length none x68.body (aN (if x68.ownA then vs else eD vs)) h):=aS rfl hl h rfl
theorem r69 {vs:List AV} {h:XH} (hl:vs.length≤61):runW aA 69 vs h=bD none x69.res x69.ownR h.length (execW aA 69 h.length none x69.body (aN (if x69.ownA then vs else eD vs)) h):=aS rfl hl h rfl
theorem r70 {vs:List AV} {h:XH} (hl:vs.length≤9):runW aA 70 vs h=bD none x70.res x70.ownR h.length (execW aA 70 h.length none x70.body (aN (if x70.ownA then vs else eD vs)) h):=aS rfl hl h rfl
theorem r71 {vs:List AV} {h:XH} (hl:vs.length≤10):runW aA 71 vs h=bD none x71.res x71.ownR h.length (execW aA 71 h.length none x71.body (aN (if x71.ownA then vs else eD vs)) h):=aS rfl hl h rfl
theorem r72 {vs:List AV} {h:XH} (hl:vs.length≤65):runW aA 72 vs h=bD none x72.res x72.ownR h.length (execW aA 72 h.length none x72.body (aN (if x72.ownA then vs else eD vs)) h):=aS rfl hl h rfl
theorem r74 {vs:List AV} {h:XH} (hl:vs.length≤15):runW aA 74 vs h=bD none x74.res x74.ownR h.length (execW aA 74 h.length none x74.body (aN (if x74.ownA then vs else eD vs)) h):=aS rfl hl h rfl
theorem r76 {vs:List AV} {h:XH} (hl:vs.length≤21):runW aA 76 vs h=bD none x76.res x76.ownR h.length (execW aA 76 h.length none x76.body (aN (if x76.ownA then vs else eD vs)) h):=aS rfl hl h rfl
theorem r77 {vs:List AV} {h:XH} (hl:vs.length≤98):runW aA 77 vs h=pW 19 h.length (eQ (runW aA) (runYW aA) [⟨0,(some 4),(.box (.t 0)),none⟩,⟨0,(some 7),(.box (.t 3)),none⟩,⟨0,(some 19),(.load false 1 (.t 7)),none⟩] (aN (if x77.ownA then vs else eD vs)) h) fun b e1 h1=>bD (some b) x77.res x77.ownR h.length (execW aA 77 h.length none x77.body e1 h1):=aFw rfl hl h rfl
theorem r78 {vs:List AV} {h:XH} (hl:vs.length≤20):runW aA 78 vs h=bD none x78.res x78.ownR h.length (execW aA 78 h.length none x78.body (aN (if x78.ownA then vs else eD vs)) h):=aS rfl hl h rfl
theorem r79 {vs:List AV} {h:XH} (hl:vs.length≤5):runW aA 79 vs h=bD none x79.res x79.ownR h.length (execW aA 79 h.length none x79.body (aN (if x79.ownA then vs else eD vs)) h):=aS rfl hl h rfl
theorem r80 {vs:List AV} {h:XH} (hl:vs.length≤4):runW aA 80 vs h=bD none x80.res x80.ownR h.length (execW aA 80 h.length none x80.body (aN (if x80.ownA then vs else eD vs)) h):=aS rfl hl h rfl
theorem r81 {vs:List AV} {h:XH} (hl:vs.length≤8):runW aA 81 vs h=bD none x81.res x81.ownR h.length (execW aA 81 h.length none x81.body (aN (if x81.ownA then vs else eD vs)) h):=aS rfl hl h rfl
theorem r84 {vs:List AV} {h:XH} (hl:vs.length≤30):runW aA 84 vs h=bD none x84.res x84.ownR h.length (execW aA 84 h.length none x84.body (aN (if x84.ownA then vs else eD vs)) h):=aS rfl hl h rfl
theorem r85 {vs:List AV} {h:XH} (hl:vs.length≤13):runW aA 85 vs h=bD none x85.res x85.ownR h.length (execW aA 85 h.length none x85.body (aN (if x85.ownA then vs else eD vs)) h):=aS rfl hl h rfl
theorem r86 {vs:List AV} {h:XH} (hl:vs.length≤15):runW aA 86 vs h=bD none x86.res x86.ownR h.length (execW aA 86 h.length none x86.body (aN (if x86.ownA then vs else eD vs)) h):=aS rfl hl h rfl
theorem r87 {vs:List AV} {h:XH} (hl:vs.length≤8):runW aA 87 vs h=bD none x87.res x87.ownR h.length (execW aA 87 h.length none x87.body (aN (if x87.ownA then vs else eD vs)) h):=aS rfl hl h rfl
theorem r88 {vs:List AV} {h:XH} (hl:vs.length≤66):runW aA 88 vs h=bD none x88.res x88.ownR h.length (execW aA 88 h.length none x88.body (aN (if x88.ownA then vs else eD vs)) h):=aS rfl hl h rfl
theorem r89 {vs:List AV} {h:XH} (hl:vs.length≤126):runW aA 89 vs h=bD none x89.res x89.ownR h.length (execW aA 89 h.length none x89.body (aN (if x89.ownA then vs else eD vs)) h):=aS rfl hl h rfl
theorem r91 {vs:List AV} {h:XH} (hl:vs.length≤14):runW aA 91 vs h=bD none x91.res x91.ownR h.length (execW aA 91 h.length none x91.body (aN (if x91.ownA then vs else eD vs)) h):=aS rfl hl h rfl

end Go.Proofs.YtiabjdfdkiijmaaDoor
namespace Go.Proofs.YtiabjdfdkiijmaaDoor
open Go Go.DL
theorem aMo:runW aA 44 [I (0)] []=some (.agg [I (8),.fs [[I (0),I (1)],[I (0),I (2)],[I (1),I (3)],[I (2),I (3)],[I (3),I (4)],[I (3),I (5)],[I (4),I (6)],[I (5),I (6)]],.fs [[I (0),I (2),I (7)],[I (3),I (4),I (7)]],I (1),I (192),I (0)],[]):=aV.2 ⟨400,by kernel_rfl⟩
theorem aMn:runW aA 18 [.agg [I (8),.fs [[I (0),I (1)],[I (0),I (2)],[I (1),I (3)],[I (2),I (3)],[I (3),I (4)],[I (3),I (5)],[I (4),I (6)],[I (5),I (6)]],.fs [[I (0),I (2),I (7)],[I (3),I (4),I (7)]],I (1),I (192),I (0)],I (2)] []=some (.tup [.fs [[I (0)],[I (1)],[I (2)],[I (3)],[I (7)]],I (0)],[]):=aV.2 ⟨400,by kernel_rfl⟩
theorem aMk:runW aA 44 [I (9)] []=some (.agg [I (8),.fs [[I (0),I (1)],[I (0),I (2)],[I (1),I (3)],[I (2),I (3)],[I (3),I (4)],[I (3),I (5)],[I (4),I (6)],[I (5),I (6)]],.fs [[I (0),I (2),I (7)],[I (3),I (4),I (7)]],I (1),I (192),I (9)],[]):=aV.2 ⟨400,by kernel_rfl⟩
theorem aMi:runW aA 44 [I (79)] []=some (.agg [I (8),.fs [[I (0),I (1)],[I (0),I (2)],[I (1),I (3)],[I (2),I (3)],[I (3),I (4)],[I (3),I (5)],[I (4),I (6)],[I (5),I (6)]],.fs [[I (0),I (2),I (7)],[I (3),I (4),I (7)]],I (1),I (192),I (79)],[]):=aV.2 ⟨400,by kernel_rfl⟩
theorem aMg:runW aA 44 [I (15)] []=some (.agg [I (8),.fs [[I (0),I (1)],[I (0),I (2)],[I (1),I (3)],[I (2),I (3)],[I (3),I (4)],[I (3),I (5)],[I (4),I (6)],[I (5),I (6)]],.fs [[I (0),I (2),I (7)],[I (3),I (4),I (7)]],I (1),I (192),I (15)],[]):=aV.2 ⟨400,by kernel_rfl⟩
theorem aLk:runW aA 25 [.agg [I (8),.fs [[I (0),I (1)],[I (0),I (2)],[I (1),I (3)],[I (2),I (3)],[I (3),I (4)],[I (3),I (5)],[I (4),I (6)],[I (5),I (6)]],.fs [[I (0),I (2),I (7)],[I (3),I (4),I (7)]],I (1),I (192),I (0)],.sl 0 0 1 2,I (4)] [some (.blk true (.cells true [I (2),I (3)]))]=some (.tup [.fs [[I (0)],[I (1)]],I (0)],[none]):=aV.2 ⟨400,by kernel_rfl⟩
theorem aLj:runW aA 22 [.fs [[I (0)],[I (1)],[I (2)],[I (3)],[I (7)]],.sl 0 0 1 5] [some (.blk true (.cells true [I (0),I (1),I (2),I (3),I (7)]))]=some (.bool true,[some (.blk true (.cells true [I (0),I (1),I (2),I (3),I (7)]))]):=aV.2 ⟨400,by kernel_rfl⟩
theorem aLi:runW aA 22 [.fs [[I (0)],[I (1)],[I (1)],[I (2)],[I (3)],[I (3)],[I (4)],[I (1)]],.sl 0 0 1 8] [some (.blk true (.cells true [I (0),I (1),I (1),I (2),I (3),I (3),I (4),I (1)]))]=some (.bool true,[some (.blk true (.cells true [I (0),I (1),I (1),I (2),I (3),I (3),I (4),I (1)]))]):=aV.2 ⟨400,by kernel_rfl⟩
theorem aLh:runW aA 22 [.fs [[I (0)]],.sl 0 0 1 1] [some (.blk true (.cells true [I (0)]))]=some (.bool true,[some (.blk true (.cells true [I (0)]))]):=aV.2 ⟨400,by kernel_rfl⟩
theorem aLg:runW aA 22 [.fs [[I (1)],[I (2)]],.sl 0 0 1 2] [some (.blk true (.cells true [I (1),I (2)]))]=some (.bool true,[some (.blk true (.cells true [I (1),I (2)]))]):=aV.2 ⟨400,by kernel_rfl⟩
theorem aLf:runW aA 22 [.fs [[I (4)],[I (5)],[I (7)]],.sl 0 0 1 3] [some (.blk true (.cells true [I (4),I (5),I (7)]))]=some (.bool true,[some (.blk true (.cells true [I (4),I (5),I (7)]))]):=aV.2 ⟨400,by kernel_rfl⟩
theorem aLe:runW aA 22 [.fs [[I (6)],[I (7)]],.sl 0 0 1 2] [some (.blk true (.cells true [I (6),I (7)]))]=some (.bool true,[some (.blk true (.cells true [I (6),I (7)]))]):=aV.2 ⟨400,by kernel_rfl⟩
theorem aLd:runW aA 22 [.fs [[I (0)],[I (1)]],.sl 0 0 1 2] [some (.blk true (.cells true [I (0),I (1)]))]=some (.bool true,[some (.blk true (.cells true [I (0),I (1)]))]):=aV.2 ⟨400,by kernel_rfl⟩
theorem aLc:runW aA 27 [.agg [I (8),.fs [[I (0),I (1)],[I (0),I (2)],[I (1),I (3)],[I (2),I (3)],[I (3),I (4)],[I (3),I (5)],[I (4),I (6)],[I (5),I (6)]],.fs [[I (0),I (2),I (7)],[I (3),I (4),I (7)]],I (1),I (192),I (0)],.sl 0 0 1 2] [some (.blk true (.cells true [I (3),I (7)]))]=some (I (0),[none]):=aV.2 ⟨400,by kernel_rfl⟩
theorem aLb:runW aA 27 [.agg [I (8),.fs [[I (0),I (1)],[I (0),I (2)],[I (1),I (3)],[I (2),I (3)],[I (3),I (4)],[I (3),I (5)],[I (4),I (6)],[I (5),I (6)]],.fs [[I (0),I (2),I (7)],[I (3),I (4),I (7)]],I (1),I (192),I (0)],.sl 0 0 1 2] [some (.blk true (.cells true [I (3),I (4)]))]=some (I (11),[none]):=aV.2 ⟨400,by kernel_rfl⟩
theorem aLa:runW aA 35 [.agg [I (8),.fs [[I (0),I (1)],[I (0),I (2)],[I (1),I (3)],[I (2),I (3)],[I (3),I (4)],[I (3),I (5)],[I (4),I (6)],[I (5),I (6)]],.fs [[I (0),I (2),I (7)],[I (3),I (4),I (7)]],I (1),I (192),I (9)],.sl 0 0 1 2] [some (.blk false (.cells true [.sl 1 0 1 3,.sl 2 0 1 5])),some (.blk true (.cells true [I (0),I (2),I (7)])),some (.blk true (.cells true [I (0),I (1),I (3),I (4),I (7)]))]=some (I (6),[some (.blk true (.cells true [.fs [[I (0)],[I (2)],[I (7)]],.fs [[I (0)],[I (1)],[I (3)],[I (4)],[I (7)]]])),none,none]):=aV.2 ⟨400,by kernel_rfl⟩
end Go.Proofs.YtiabjdfdkiijmaaDoor
namespace Go.Proofs.YtiabjdfdkiijmaaDoor
open Go Go.DL
set_option maxRecDepth 100000
set_option maxHeartbeats 1000000
theorem ptf (p:Prop):p=True∨p=False:=by
 by_cases h:p
 ·exact .inl (eq_true h)
 ·exact .inr (eq_false h)
theorem aW {α:Type} {l:List α} {i:Nat} (h:i<l.length):∃ x,l[i]?=some x:=⟨_,List.getElem?_eq_getElem h⟩
theorem cZ {α:Type} {l:List α} {i:Nat} (h:i<l.length):((i:Int)<(l.length:Int))=True:=eq_true (by omega)
theorem fI {n i:Nat} (h:i<n) (hn:n≤9223372036854775807):IntKind.i64.wrap ((i:Int)+1)=(i:Int)+1:=aE (by omega) (by omega)
theorem dO {α:Type} {l:List α} {i:Nat} {x:α} (h:l[i]?=some x):i<l.length:=(List.getElem?_eq_some_iff.1 h).1

def bM (f:Nat→Int):Nat→Int
 | 0=>0
 | n+1=>if bM f n=0 then f n else bM f n
theorem cO (f:Nat→Int):∀ n,∃ m,m≤n∧(∀ i,i<m→f i=0)∧((m=n∧bM f n=0)∨(m<n∧f m≠0∧bM f n=f m))
 | 0=>⟨0,Nat.le_refl _,fun i hi=>by omega,.inl ⟨rfl,rfl⟩⟩
 | n+1=>by
   obtain⟨m,h1,h2,h3⟩:=cO f n
   rcases h3 with ⟨rfl,h4⟩|⟨h4,h5,h6⟩
   ·by_cases hf:f m=0
    ·refine⟨m+1,Nat.le_refl _,fun i hi=>?_,.inl ⟨rfl,by rw[bM,if_pos h4,hf]⟩⟩
     by_cases hi2:i=m
     ·rw[hi2];exact hf
     ·exact h2 i (by omega)
    ·exact⟨m,by omega,h2,.inr ⟨by omega,hf,by rw[bM,if_pos h4]⟩⟩
   ·exact⟨m,by omega,h2,.inr ⟨by omega,h5,by rw[bM,if_neg (by rw[h6];exact h5),h6]⟩⟩
theorem dW {f:Nat→Int}:∀ {n},bM f n=0→∀ i,i<n→f i=0
 | 0,_,i,hi=>by omega
 | n+1,h,i,hi=>by
   rw[bM]at h
   by_cases h0:bM f n=0
   ·rw[if_pos h0]at h
    by_cases hin:i=n
    ·rw[hin];exact h
    ·exact dW h0 i (by omega)
   ·rw[if_neg h0]at h
    exact absurd h h0

theorem bV {res:List (Nat×Option (Bool×Nat))} {own:Bool} {k:Nat} {r:Option (DX×aH×XH)} {v:AV×XH} (h1:dN r=true) (h2:bD none res own k r=some v):∃ e h,r=some (.ret,e,h)∧bD none res own k (some (.ret,e,h))=some v:=by
 match r with
 | none=>simp[dN]at h1
 | some (.normal,e,h)=>simp[dN]at h1
 | some (.exit _,e,h)=>simp[bD]at h2
 | some (.ret,e,h)=>exact⟨e,h,rfl,h2⟩
def big (k:IntKind):Prop:=k = .u64∨k = .i64
theorem aDT:big .u64:=.inl rfl
theorem bX:big .i64:=.inr rfl
theorem lJ {k:IntKind} (h:big k):k.bits=64:=by rcases h with rfl|rfl<;>rfl
theorem hX {k:IntKind} (h:big k) {a:Nat} (ha:a<2^63):k.wrap (a:Int)=(a:Int):=by
 rcases h with rfl|rfl
 ·simp[IntKind.wrap,IntKind.bits,IntKind.signed];omega
 ·simp[IntKind.wrap,IntKind.bits,IntKind.signed];omega
theorem fE {w:Nat} (a:Nat):BitVec.ofInt w (a:Int)=BitVec.ofNat w a:=by
 apply BitVec.eq_of_toNat_eq
 simp
theorem iS {k:IntKind} (h:big k) {a b:Nat} (ha:a<2^63) (hb:b<2^63):cB .and k (a:Int) (b:Int)=((a&&&b:Nat):Int):=by
 unfold cB
 dsimp only
 rw[fE,fE,lJ h,BitVec.toNat_and,BitVec.toNat_ofNat,BitVec.toNat_ofNat,Nat.mod_eq_of_lt (by omega),Nat.mod_eq_of_lt (by omega)]
 exact hX h (Nat.lt_of_le_of_lt Nat.and_le_left ha)
theorem dG {k:IntKind} (h:big k) {a b:Nat} (ha:a<2^63) (hb:b<2^63):cB .or k (a:Int) (b:Int)=((a|||b:Nat):Int):=by
 unfold cB
 dsimp only
 rw[fE,fE,lJ h,BitVec.toNat_or,BitVec.toNat_ofNat,BitVec.toNat_ofNat,Nat.mod_eq_of_lt (by omega),Nat.mod_eq_of_lt (by omega)]
 exact hX h (Nat.or_lt_two_pow ha hb)
def gF (a b:Nat):Nat:=a&&&(2^64-(b+1))
theorem iY (a b:Nat):gF a b≤a:=Nat.and_le_left
theorem iR {k:IntKind} (h:big k) {a b:Nat} (ha:a<2^63) (hb:b<2^63):cB .andNot k (a:Int) (b:Int)=((gF a b:Nat):Int):=by
 unfold cB
 dsimp only
 rw[fE,fE,lJ h,BitVec.toNat_and,BitVec.toNat_not,BitVec.toNat_ofNat,BitVec.toNat_ofNat,Nat.mod_eq_of_lt (by omega),Nat.mod_eq_of_lt (by omega),show 2^64-1-b=2^64-(b+1) by omega]
 exact hX h (Nat.lt_of_le_of_lt (iY a b) ha)
theorem bS {a b:Nat} (hb:b<2^64) {i:Nat}:(gF a b).testBit i=(a.testBit i&&(decide (i<64) && !b.testBit i)):=by
 unfold gF
 rw[Nat.testBit_and,Nat.testBit_two_pow_sub_succ hb]
theorem qB {a n:Nat} (h:a<2^n) {i:Nat} (hi:n≤i):a.testBit i=false:=Nat.testBit_lt_two_pow (Nat.lt_of_lt_of_le h (Nat.pow_le_pow_right (by omega) hi))
theorem aHc {a b:Nat} (ha:a<2^63) (hb:b<2^63):gF a b=0↔∀ i,a.testBit i=true→b.testBit i=true:=by
 constructor
 ·intro h i hi
  have hlt:i<64:=by
   by_cases hc:i<64
   ·exact hc
   ·rw[qB ha (by omega)]at hi;simp at hi
  have:=bS (a:=a) (b:=b) (by omega) (i:=i)
  rw[h,hi,Nat.zero_testBit,decide_eq_true hlt]at this
  simpa using this.symm
 ·intro h
  apply Nat.eq_of_testBit_eq
  intro i
  rw[bS (by omega),Nat.zero_testBit]
  cases hi:a.testBit i with
  | false=>rfl
  | true=>rw[h i hi];simp
theorem lP {k:IntKind} (h:big k) {i:Nat} (hi:i<63):k.wrap (1*2^min i k.bits)=((2^i:Nat):Int):=by
 rw[lJ h,Nat.min_eq_left (by omega),Int.one_mul,show (2:Int)^i=((2^i:Nat):Int) by norm_cast]
 exact hX h (Nat.pow_lt_pow_right (by omega) hi)
theorem aDk {k:IntKind} (h:big k) {i:Nat} (hi:i<63):k.wrap (2^min i k.bits)=((2^i:Nat):Int):=by
 rw[←lP h hi,Int.one_mul]
theorem aHO {k:IntKind} (h:big k) {a i:Nat} (hi:i<64):(a:Int).fdiv (2^min i k.bits)=((a>>>i:Nat):Int):=by
 rw[lJ h,Nat.min_eq_left (by omega),show (2:Int)^i=((2^i:Nat):Int) by norm_cast,Int.fdiv_eq_ediv_of_nonneg _ (Int.natCast_nonneg _),Nat.shiftRight_eq_div_pow]
 exact(Int.natCast_ediv a (2^i)).symm
theorem aKP {k:IntKind} (h:big k) {a i:Nat} (ha:a<2^63) (hi:i<64):cB .and k ((a:Int).fdiv (2^min i k.bits)) 1=if a.testBit i then 1 else 0:=by
 have:a>>>i≤a:=Nat.shiftRight_le a i
 rw[aHO h hi,show (1:Int)=((1:Nat):Int) from rfl,iS h (by omega) (by omega)]
 unfold Nat.testBit
 rw[Nat.and_comm,Nat.one_and_eq_mod_two]
 by_cases hb:(a>>>i)%2=0
 ·simp[hb]
 ·have:(a>>>i)%2=1:=by omega
  simp[this]
theorem aHq {k:IntKind} (h:big k) {a i:Nat} (ha:a<2^63) (hi:i<64):(cB .and k ((a:Int).fdiv (2^min i k.bits)) 1=1)=(a.testBit i=true):=by
 rw[aKP h ha hi]
 cases a.testBit i<;>simp
theorem qW {a i n:Nat} (ha:a<2^n) (hi:i<n):a|||2^i<2^n:=Nat.or_lt_two_pow ha (Nat.pow_lt_pow_right (by omega) hi)
theorem dV (a i j:Nat):(a|||2^i).testBit j=(a.testBit j||decide (i=j)):=by
 rw[Nat.testBit_or,Nat.testBit_two_pow]


def btw (a b c:Int):Bool:=decide (a≤b)&&decide (b≤c)
theorem oU {a b c:Int}:btw a b c=true↔a≤b∧b≤c:=by simp[btw]
theorem w45 (a b c:Int):runW aA 45 [I a,I b,I c] []=some (.bool (btw a b c),[]):=by
 rw[r45 (by simp)];unfold x45;dsimp only
 rcases ptf (a≤b)with h|h
 ·(sym=>(simp[Za,Zb,Zf,Zh,Zl,Zm,Zp,Zq,Zv,Zy,Z3,ZV,Yt,YY,Xs,XK,We,Wf,WB,WK,WO,WP,WR,WS,Vv,V9,VA,VC,VD,VE,VF,VG,VJ,VK,VL,VM,VO,VY,Ua,Ud,Uf,Uh,Ul,Uy,U2,U3,U4,UD,UE,Tt,Tu,Tv,Tz,T6,T7,Sw,h,btw.eq_1];all_goals tactic=>exact rfl))
 ·(sym=>(simp[Za,Zb,Zf,Zh,Zl,Zm,Zp,Zs,Zv,Zy,Z3,ZW,Yt,YY,Xs,XK,We,Wf,WB,WK,WO,WP,WR,WS,Vv,V9,VA,VC,VD,VE,VF,VG,VJ,VK,VL,VM,VO,VY,Ua,Ud,Uf,Uh,Un,Uz,U2,U3,U4,UD,UE,Tt,Tu,Tv,Tz,T6,T7,Sw,h,btw.eq_1];all_goals tactic=>exact rfl))
theorem w74 (a b c:Int):runW aA 74 [I b,I a,I c] []=some (.bool (btw a b c),[]):=by
 rw[r74 (by simp)];unfold x74;dsimp only
 rcases ptf (a≤b)with h|h
 ·(sym=>(simp[Za,Zb,Zf,Zh,Zl,Zm,Zp,Zq,Zv,Zy,Z3,ZV,Yt,Yv,YY,Xs,XK,We,Wf,WB,WK,WO,WP,WR,WS,Vv,V9,VA,VC,VD,VE,VF,VG,VJ,VK,VL,VM,VO,VY,Ua,Ud,Uf,Uh,Ul,Uy,U2,U3,U4,UD,UE,Tt,Tu,Tv,Tz,T6,T7,Sw,h,btw.eq_1];all_goals tactic=>exact rfl))
 ·(sym=>(simp[Za,Zb,Zf,Zh,Zl,Zm,Zp,Zs,Zv,Zy,Z3,ZW,Yv,YY,Xs,XK,We,Wf,WB,WK,WO,WP,WR,WS,Vv,V9,VA,VC,VD,VE,VF,VG,VJ,VK,VL,VM,VO,VY,Ua,Ud,Uf,Uh,Un,Uz,U2,U3,U4,UD,UE,Tt,Tu,Tv,Tz,T6,T7,Sw,h,btw.eq_1];all_goals tactic=>exact rfl))
theorem w47 (a b c:Int):runW aA 47 [I b,I a,I c] []=some (.bool (btw a b c),[]):=by
 have e:=w74 a b c
 rw[r47 (by simp)];unfold x47;dsimp only
 (sym=>(simp[Za,Zb,Zf,Zg,Zh,Zj,Zl,Zv,ZO,ZP,ZT,ZU,YX,YY,Xr,Xs,XJ,XK,We,Wf,WA,WB,WK,WN,WO,WP,WR,WS,WU,WV,Vi,Vj,Vk,Vv,Vx,Vy,Vz,V9,VA,VC,VD,VE,VF,VG,VJ,VK,VL,VM,VO,VY,VZ,Ua,Uc,Ud,Uf,Uh,U2,U3,U4,U5,U6,UD,UE,Tu,Tv,Tz,T6,T7,Sw,SE,SF,SI,SJ,SK,SL,e];all_goals tactic=>exact rfl))
theorem qC {a j:Nat} (ha:a<2^63) (hj:j<64):runW aA 60 [I a,I j] []=some (.bool (a.testBit j),[]):=by
 have e:=aHq bX (a:=a) (i:=j) ha hj
 have n0:((j:Int)<0)=False:=eq_false (by omega)
 rw[r60 (by simp)];unfold x60;dsimp only
 cases hb:a.testBit j
 ·rw[hb]at e
  have e:=e.trans (eq_false (by simp))
  (sym=>(simp[Za,Zb,Zf,Zh,Zl,Zm,Zv,Z3,Ym,Yp,Yq,Yx,YY,Xs,XK,We,Wf,WB,WK,WO,WP,WR,WS,Vv,V9,VA,VC,VD,VE,VF,VG,VJ,VK,VL,VM,VO,VY,Ua,Ud,Uf,Uh,Uz,U2,U3,U4,UD,UE,Tt,Tu,Tv,Tz,T6,T7,Sw,n0,e];all_goals tactic=>exact rfl))
 ·rw[hb]at e
  have e:=e.trans (eq_true rfl)
  (sym=>(simp[Za,Zb,Zf,Zh,Zl,Zm,Zv,Z3,Ym,Yp,Yq,Yx,YY,Xs,XK,We,Wf,WB,WK,WO,WP,WR,WS,Vv,V9,VA,VC,VD,VE,VF,VG,VJ,VK,VL,VM,VO,VY,Ua,Ud,Uf,Uh,Uy,U2,U3,U4,UD,UE,Tt,Tu,Tv,Tz,T6,T7,Sw,n0,e];all_goals tactic=>exact rfl))
theorem w52 {a j:Nat} (ha:a<2^63) (hj:j<64):runW aA 52 [I a,I j] []=some (.bool (a.testBit j),[]):=by
 have e:=aHq bX (a:=a) (i:=j) ha hj
 have n0:((j:Int)<0)=False:=eq_false (by omega)
 rw[r52 (by simp)];unfold x52;dsimp only
 cases hb:a.testBit j
 ·rw[hb]at e
  have e:=e.trans (eq_false (by simp))
  (sym=>(simp[Za,Zb,Zf,Zh,Zl,Zm,Zv,Z3,Ym,Yp,Yq,Yx,YY,Xs,XK,We,Wf,WB,WK,WO,WP,WR,WS,Vv,V9,VA,VC,VD,VE,VF,VG,VJ,VK,VL,VM,VO,VY,Ua,Ud,Uf,Uh,Uz,U2,U3,U4,UD,UE,Tt,Tu,Tv,Tz,T6,T7,Sw,n0,e];all_goals tactic=>exact rfl))
 ·rw[hb]at e
  have e:=e.trans (eq_true rfl)
  (sym=>(simp[Za,Zb,Zf,Zh,Zl,Zm,Zv,Z3,Ym,Yp,Yq,Yx,YY,Xs,XK,We,Wf,WB,WK,WO,WP,WR,WS,Vv,V9,VA,VC,VD,VE,VF,VG,VJ,VK,VL,VM,VO,VY,Ua,Ud,Uf,Uh,Uy,U2,U3,U4,UD,UE,Tt,Tu,Tv,Tz,T6,T7,Sw,n0,e];all_goals tactic=>exact rfl))
theorem w62 {j:Nat} (hj:j<63):runW aA 62 [I j] []=some (I (2^j:Nat),[]):=by
 have e:=lP bX hj
 have n0:((j:Int)<0)=False:=eq_false (by omega)
 rw[r62 (by simp)];unfold x62;dsimp only
 (sym=>(simp[Za,Zb,Zf,Zh,Zl,Zm,Zv,Z3,Yo,Yx,YX,Xr,XJ,We,WB,WK,WO,WP,WR,WS,Vv,V9,VA,VC,VD,VE,VF,VG,VJ,VK,VL,VM,VO,VY,Ua,Ud,Uf,Uh,U2,U3,U4,UD,UE,Tt,Tu,Tv,Tz,T6,T7,Sw,n0,e];all_goals tactic=>exact rfl))
abbrev nL (l:List Int):AV:=.fs (l.map fun n=>[I n])
theorem aGt (l:List Int):(l.map fun n=>([I n]:List AV)).length=l.length:=List.length_map _
theorem yY {l:List Int} {i:Nat} {n:Int} (h:l[i]?=some n):(l.map fun n=>([I n]:List AV))[i]?=some [I n]:=by rw[List.getElem?_map,h];rfl
def agree (a b:List Int):Nat→Nat→Prop:=fun m n=>m≤n∧(∀ i,i<m→a[i]?=b[i]?)∧(m=n∨a[m]?≠b[m]?)
theorem xM (a b:List Int):∀ n,∃ m,agree a b m n
 | 0=>⟨0,Nat.le_refl _,fun i hi=>by omega,.inl rfl⟩
 | n+1=>by
   obtain⟨m,h1,h2,h3⟩:=xM a b n
   rcases h3 with rfl|h3
   ·by_cases h:a[m]?=b[m]?
    ·exact⟨m+1,Nat.le_refl _,fun i hi=>by
     by_cases hi2:i=m
     ·rw[hi2];exact h
     ·exact h2 i (by omega),.inl rfl⟩
    ·exact⟨m,by omega,h2,.inr h⟩
   ·exact⟨m,by omega,h2,.inr h3⟩
theorem w22 (a b:List Int) (hb:b.length<1000000000):runW aA 22 [nL a,nL b] []=some (.bool (decide (a=b)),[]):=by
 have la:=aGt a
 have lb:=aGt b
 rw[r22 (by simp)];unfold x22;dsimp only
 by_cases hl:a.length=b.length
 ·have e1:((a.length:Int)=(b.length:Int))=True:=eq_true (by omega)
  obtain⟨m,m1,m2,m3⟩:=xM a b b.length
  have z:=Te (n:=(b.length:Int))
  sym =>
   simp[Za,Zb,Zf,Zh,Zl,Zm,Zv,Z3,ZF,Yc,Yr,Wi,WB,VO,VT,VV,VY,Uh,Ui,Uq,Uy,UD,UE,Tt,Tu,Tw,Ty,Tz,T6,T7,la,lb,e1]
   tactic =>
    unfold aJu
    rw[aC m (fun i=>[nL a,nL b,I (i:Nat)]) (fun _=>[])]
    ·rcases m3 with rfl|m3
     ·have hab:a=b:=List.ext_getElem? fun i=>by
       by_cases hi:i<b.length
       ·exact m2 i hi
       ·rw[List.getElem?_eq_none (by omega),List.getElem?_eq_none (by omega)]
      have d:decide (a=b)=true:=decide_eq_true hab
      rw[d]
      (sym=>(simp[Za,Zb,Zf,Zh,Zl,Zm,Zv,Z3,ZF,Yc,Ys,YY,Xs,XK,Wf,WK,WO,WP,WR,WS,Vv,V9,VA,VC,VD,VE,VF,VG,VJ,VK,VL,VM,VQ,VT,VV,Ua,Ud,Uf,Ui,Uz,U2,U3,U4,Te,Tt,Tu,Tv,Tx,Tz,T0,T4,T6,T7,Sw,la,lb,z,hl];all_goals tactic=>exact rfl))
     ·have hm:m<b.length:=by
       by_cases hm:m<b.length
       ·exact hm
       ·exact absurd (by rw[List.getElem?_eq_none (by omega),List.getElem?_eq_none (by omega)]) m3
      have d:decide (a=b)=false:=decide_eq_false fun h=>m3 (by rw[h])
      rw[d]
      obtain⟨x,hx⟩:=aW (l:=a) (i:=m) (by omega)
      obtain⟨y,hy⟩:=aW (l:=b) (i:=m) hm
      have hxy:(x=y)=False:=eq_false fun h=>m3 (by rw[hx,hy,h])
      have ax:=yY hx
      have ay:=yY hy
      have i1:((m:Int)<(b.length:Int))=True:=eq_true (by omega)
      have i2:((m:Int)<(a.length:Int))=True:=eq_true (by omega)
      (sym=>(simp[Za,Zb,Zf,Zh,Zi,Zl,Zm,Zv,Z3,ZA,ZF,ZI,ZJ,Yc,Yg,Yh,Yr,Ys,Yw,Yx,YY,Xs,XK,Wf,WC,WK,WO,WP,WR,WS,Vv,V9,VA,VC,VD,VE,VF,VG,VJ,VK,VL,VM,VQ,VT,VU,Ua,Ud,Uf,Ug,Uh,Ui,Uj,Uk,Ur,Uu,Uy,Uz,U2,U3,U4,Th,Ti,Tk,Tt,Tu,Tv,Tw,Ty,Tz,T1,T3,T6,T7,Sw,hx,hy,hxy,i1,i2];all_goals tactic=>exact rfl))
    ·(sym=>(simp[Za,Y9,YX,Xb,Xr,Xv,WB,WK,WO,WP,WR,WS,VO,VR,VS,VZ,Ua,Ud,Uf,U2,U3,U4,U5,U6,T5,la];all_goals tactic=>exact rfl))
    ·intro i hi
     have hib:i<b.length:=by omega
     obtain⟨y,hy⟩:=aW (l:=b) hib
     have hx:a[i]?=some y:=by rw[m2 i hi];exact hy
     have ax:=yY hx
     have ay:=yY hy
     have i1:((i:Int)<(b.length:Int))=True:=eq_true (by omega)
     have i2:((i:Int)<(a.length:Int))=True:=eq_true (by omega)
     have a2:=fI hib (by omega)
     (sym=>(simp[Za,Zb,Zf,Zh,Zi,Zl,Zm,Zv,Z3,ZA,ZF,ZI,ZJ,Yc,Yg,Yh,Yj,Yr,Ys,Yw,Yx,YX,Xb,Xr,Xv,WC,WK,WO,WP,WR,WS,VQ,VR,VS,VT,VU,VV,VZ,Ua,Ud,Uf,Ug,Uh,Ui,Uj,Uk,Uq,Uu,Uy,U2,U3,U4,U5,U6,Th,Ti,Tk,Tt,Tu,Tw,Ty,Tz,T2,T5,T6,T7,hx,hy,i1,i2,a2];all_goals tactic=>exact rfl))
    ·rcases m3 with rfl|m3
     ·(sym=>(simp[Za,Zb,Zf,Zh,Zl,Zm,Zv,Z3,ZF,Yc,Ys,VQ,VT,VV,VW,Ui,Uz,Te,Tt,Tu,Tx,Tz,T0,T6,la,lb,z,hl];all_goals tactic=>exact rfl))
     ·have hm:m<b.length:=by
       by_cases hm:m<b.length
       ·exact hm
       ·exact absurd (by rw[List.getElem?_eq_none (by omega),List.getElem?_eq_none (by omega)]) m3
      obtain⟨x,hx⟩:=aW (l:=a) (i:=m) (by omega)
      obtain⟨y,hy⟩:=aW (l:=b) (i:=m) hm
      have hxy:(x=y)=False:=eq_false fun h=>m3 (by rw[hx,hy,h])
      have ax:=yY hx
      have ay:=yY hy
      have i1:((m:Int)<(b.length:Int))=True:=eq_true (by omega)
      have i2:((m:Int)<(a.length:Int))=True:=eq_true (by omega)
      (sym=>(simp[Za,Zb,Zf,Zh,Zi,Zl,Zm,Zv,Z3,ZA,ZF,ZI,ZJ,Yc,Yg,Yh,Yr,Ys,Yw,Yx,WC,VQ,VT,VU,VX,Ug,Uh,Ui,Uj,Uk,Ur,Uu,Uy,Uz,Th,Ti,Tk,Tt,Tu,Tv,Tw,Ty,Tz,T1,T3,T6,T7,hx,hy,hxy,i1,i2];all_goals tactic=>exact rfl))
 ·have e1:((a.length:Int)=(b.length:Int))=False:=eq_false (by omega)
  have d:decide (a=b)=false:=decide_eq_false fun h=>hl (by rw[h])
  rw[d]
  (sym=>(simp[Za,Zb,Zf,Zh,Zl,Zm,Zv,Z3,ZF,Yc,Yr,YY,Xs,XK,Wf,Wi,WB,WK,WO,WP,WR,WS,Vv,V9,VA,VC,VD,VE,VF,VG,VJ,VK,VL,VM,VO,VT,VU,VY,Ua,Ud,Uf,Uh,Ui,Ur,Uz,U2,U3,U4,UD,UE,Tt,Tu,Tv,Tz,T1,T6,T7,Sw,la,lb,e1];all_goals tactic=>exact rfl))
end Go.Proofs.YtiabjdfdkiijmaaDoor
namespace Go.Proofs.YtiabjdfdkiijmaaDoor
open Go Go.DL
set_option maxRecDepth 100000
set_option maxHeartbeats 4000000

theorem aKd:∀ a:Nat,a≠0→∃ p m,a=2^p*(2*m+1):=by
 intro a
 induction a using Nat.strongRecOn with
 | _ a ih =>
   intro h0
   by_cases h:a%2=1
   ·exact⟨0,a/2,by omega⟩
   ·obtain⟨p,m,hm⟩:=ih (a/2) (by omega) (by omega)
    refine⟨p+1,m,?_⟩
    rw[Nat.pow_succ,Nat.mul_comm (2^p) 2,Nat.mul_assoc,←hm]
    omega
theorem zT (m j:Nat):(2*m+1).testBit j=if j=0 then true else m.testBit (j-1):=by
 cases j with
 | zero=>simp[Nat.testBit]
 | succ j=>simp only[Nat.add_one_ne_zero,if_false,Nat.add_sub_cancel];rw[Nat.testBit_succ];congr 1;omega
theorem zU (m j:Nat):(2*m).testBit j=if j=0 then false else m.testBit (j-1):=by
 cases j with
 | zero=>simp[Nat.testBit]
 | succ j=>simp only[Nat.add_one_ne_zero,if_false,Nat.add_sub_cancel];rw[Nat.testBit_succ];congr 1;omega
theorem lO (p x i:Nat):(2^p*x).testBit i=if i<p then false else x.testBit (i-p):=by
 have:=Nat.testBit_two_pow_mul_add x (b:=0) (i:=p) (Nat.two_pow_pos p) i
 rw[Nat.add_zero,Nat.zero_testBit]at this
 exact this
theorem aEJ (p m:Nat):2^p*(2*m+1)&&&(2^p*(2*m+1)-1)=2^p*(2*m):=by
 have h1:2^p*(2*m+1)-1=2^p*(2*m)+(2^p-1):=by
  have:=Nat.two_pow_pos p
  rw[Nat.mul_add,Nat.mul_one];omega
 apply Nat.eq_of_testBit_eq
 intro i
 rw[Nat.testBit_and,lO,h1,Nat.testBit_two_pow_mul_add _ (by have:=Nat.two_pow_pos p;omega),lO]
 by_cases hi:i<p
 ·simp[hi]
 ·simp only[hi,if_false,zT,zU]
  by_cases h0:i-p=0
  ·simp[h0]
  ·simp[h0]
theorem aIE (p m:Nat) (h:2^p*(2*m+1)<2^64):2^p*(2*m+1)&&&(2^64-2^p*(2*m+1))=2^p:=by
 have hp:p<64:=by
  by_cases hp:p<64
  ·exact hp
  ·have h1:2^64≤2^p:=Nat.pow_le_pow_right (by omega) (by omega)
   have h2:2^p*1≤2^p*(2*m+1):=Nat.mul_le_mul_left _ (by omega)
   omega
 have e64:(2:Nat)^64=2^p*(2*2^(63-p)):=by
  rw[←Nat.pow_succ',←Nat.pow_add];congr 1;omega
 have hm:m<2^(63-p):=by
  rw[e64]at h
  have:=Nat.lt_of_mul_lt_mul_left h
  omega
 have h1:2^64-2^p*(2*m+1)=2^p*(2*(2^(63-p)-(m+1))+1):=by
  rw[e64,←Nat.mul_sub];congr 1;omega
 rw[h1]
 apply Nat.eq_of_testBit_eq
 intro i
 rw[Nat.testBit_and,lO,lO,Nat.testBit_two_pow]
 by_cases hi:i<p
 ·simp[hi];omega
 ·simp only[hi,if_false,zT]
  by_cases h0:i-p=0
  ·have:p=i:=by omega
   simp[h0,this]
  ·have:p≠i:=by omega
   simp only[h0,if_false,Nat.testBit_two_pow_sub_succ hm]
   cases m.testBit (i-p-1)<;>simp[this]

def el (a:Nat):List Nat:=(List.range 16).filter (a.testBit ·)
def rD (a:Nat):Nat:=(el a).headD 0
theorem iI {a k:Nat}:k∈el a↔k<16∧a.testBit k=true:=by simp[el]
theorem aGX {a:Nat} (ha:a<65536) (h0:a≠0):∃ p m,p<16∧a=2^p*(2*m+1)∧el a=p::el (a&&&(a-1)):=by
 obtain⟨p,m,rfl⟩:=aKd a h0
 have hp:p<16:=by
  by_cases hp:p<16
  ·exact hp
  ·have h1:2^16≤2^p:=Nat.pow_le_pow_right (by omega) (by omega)
   have h2:2^p*1≤2^p*(2*m+1):=Nat.mul_le_mul_left _ (by omega)
   omega
 refine⟨p,m,hp,rfl,?_⟩
 rw[aEJ]
 unfold el
 have hr:List.range 16=List.range p++p::List.range' (p+1) (15-p):=by
  rw[List.range_eq_range',List.range_eq_range',show (16:Nat)=p+(1+(15-p)) by omega,←List.range'_append_1,←List.range'_append_1]
  simp
 rw[hr,List.filter_append,List.filter_append,List.filter_cons,List.filter_cons]
 have f1:∀ x:Nat,(List.range p).filter (fun i=>(2^p*x).testBit i)=[]:=fun x=>by
  rw[List.filter_eq_nil_iff]
  intro i hi
  rw[List.mem_range]at hi
  rw[lO,if_pos hi];simp
 have t1:(2^p*(2*m+1)).testBit p=true:=by rw[lO,if_neg (by omega),Nat.sub_self,zT];rfl
 have t2:(2^p*(2*m)).testBit p=false:=by rw[lO,if_neg (by omega),Nat.sub_self,zU];rfl
 rw[f1,f1]
 simp only[t1,t2,if_true,List.nil_append,Bool.false_eq_true,if_false]
 congr 1
 refine List.filter_congr fun i hi=>?_
 rw[List.mem_range'_1]at hi
 rw[lO,lO,if_neg (by omega),if_neg (by omega),zT,zU,if_neg (by omega),if_neg (by omega)]
theorem vA {a:Nat} (ha:a<65536) (h0:a≠0):el a=rD a::el (a&&&(a-1)):=by
 obtain⟨p,m,_,_,h⟩:=aGX ha h0
 rw[rD,h];rfl
theorem aQi {a:Nat} (ha:a<65536):el a=[]↔a=0:=by
 constructor
 ·intro h
  by_cases h0:a=0
  ·exact h0
  ·rw[vA ha h0]at h;simp at h
 ·rintro rfl;rfl
theorem aGz {a:Nat} (ha:a<65536) (h0:a≠0):rD a<16∧a.testBit (rD a)=true:=by
 have:=vA ha h0
 exact iI.1 (by rw[this];simp)
theorem aJn {a:Nat} (ha:a<65536) (h0:a≠0):a&&&(2^64-a)=2^rD a:=by
 obtain⟨p,m,hp,e,h⟩:=aGX ha h0
 have hl:rD a=p:=by rw[rD,h];rfl
 rw[hl]
 conv=>lhs;rw[e]
 exact aIE p m (by rw[←e];omega)

abbrev U (a:Nat):AV:=.int .u64 (a:Int)
theorem w91 {a:Nat} (ha:a<65536) (h0:a≠0):runW aA 91 [U a] []=some (I (rD a:Nat),[]):=by
 have n0:((a:Int)=0)=False:=eq_false (by omega)
 have u1:IntKind.u64.wrap (0-(a:Int))=((2^64-a:Nat):Int):=by
  simp[IntKind.wrap,IntKind.bits,IntKind.signed];omega
 have u2:cB .and .u64 (a:Int) ((2^64-a:Nat):Int)=((2^rD a:Nat):Int):=by
  unfold cB
  dsimp only
  rw[fE,fE,lJ aDT,BitVec.toNat_and,BitVec.toNat_ofNat,BitVec.toNat_ofNat,Nat.mod_eq_of_lt (by omega),Nat.mod_eq_of_lt (by omega),aJn ha h0]
  exact hX aDT (Nat.pow_lt_pow_right (by omega) (by have:=(aGz ha h0).1;omega))
 obtain⟨p,hp⟩:∃ p,rD a=p:=⟨_,rfl⟩
 have hp16:=(aGz ha h0).1
 rw[hp]at u2 hp16 ⊢
 generalize 2^64-a=na at u1 u2
 rw[r91 (by simp)];unfold x91;dsimp only
 have fin:p=0∨p=1∨p=2∨p=3∨p=4∨p=5∨p=6∨p=7∨p=8∨p=9∨p=10∨p=11∨p=12∨p=13∨p=14∨p=15:=by omega
 rcases fin with rfl|rfl|rfl|rfl|rfl|rfl|rfl|rfl|rfl|rfl|rfl|rfl|rfl|rfl|rfl|rfl
 ·have u2:cB .and .u64 (a:Int) (na:Int)=1:=u2
  have u3:IntKind.u64.wrap 285870213051353865=285870213051353865:=by decide
  have u4:(285870213051353865:Int).fdiv (2^min (Int.toNat 58) IntKind.u64.bits)=0:=by decide
  have u5:Int.toNat 0=0:=rfl
  (sym=>(simp[Za,Zb,Zf,Zh,Zl,Zm,Zv,Z3,Z6,Z7,Z9,ZG,ZY,ZZ,Yl,Ym,Yp,Yq,Yy,Y8,Y9,YP,YX,Xr,XJ,We,WB,WC,WK,WO,WP,WR,WS,Vv,V9,VA,VC,VD,VE,VF,VG,VJ,VK,VL,VM,VO,VT,VV,VY,Ua,Ud,Uf,Uh,Uu,Uz,U2,U3,U4,UD,UE,Th,Ti,Tk,Tt,Tu,Tv,Tw,Tz,T6,T7,Sw,SC,n0,u1,u2,u3,u4,u5];all_goals tactic=>exact rfl))
 ·have u2:cB .and .u64 (a:Int) (na:Int)=2:=u2
  have u3:IntKind.u64.wrap 571740426102707730=571740426102707730:=by decide
  have u4:(571740426102707730:Int).fdiv (2^min (Int.toNat 58) IntKind.u64.bits)=1:=by decide
  have u5:Int.toNat 1=1:=rfl
  (sym=>(simp[Za,Zb,Zf,Zh,Zl,Zm,Zv,Z3,Z6,Z7,Z9,ZG,ZY,ZZ,Yl,Ym,Yp,Yq,Yz,YA,YB,YP,YX,Xr,XJ,We,WB,WC,WK,WO,WP,WR,WS,Vv,V9,VA,VC,VD,VE,VF,VG,VJ,VK,VL,VM,VO,VT,VV,VY,Ua,Ud,Uf,Uh,Uu,Uz,U2,U3,U4,UD,UE,Th,Ti,Tk,Tt,Tu,Tv,Tw,Tz,T6,T7,Sw,SC,n0,u1,u2,u3,u4,u5];all_goals tactic=>exact rfl))
 ·have u2:cB .and .u64 (a:Int) (na:Int)=4:=u2
  have u3:IntKind.u64.wrap 1143480852205415460=1143480852205415460:=by decide
  have u4:(1143480852205415460:Int).fdiv (2^min (Int.toNat 58) IntKind.u64.bits)=3:=by decide
  have u5:Int.toNat 3=3:=rfl
  (sym=>(simp[Za,Zb,Zf,Zh,Zl,Zm,Zv,Z3,Z6,Z7,Z9,ZG,ZY,ZZ,Yl,Ym,Yp,Yq,Y0,YD,YE,YP,YX,Xr,XJ,We,WB,WC,WK,WO,WP,WR,WS,Vv,V9,VA,VC,VD,VE,VF,VG,VJ,VK,VL,VM,VO,VT,VV,VY,Ua,Ud,Uf,Uh,Uu,Uz,U2,U3,U4,UD,UE,Th,Ti,Tk,Tt,Tu,Tv,Tw,Tz,T6,T7,Sw,SC,n0,u1,u2,u3,u4,u5];all_goals tactic=>exact rfl))
 ·have u2:cB .and .u64 (a:Int) (na:Int)=8:=u2
  have u3:IntKind.u64.wrap 2286961704410830920=2286961704410830920:=by decide
  have u4:(2286961704410830920:Int).fdiv (2^min (Int.toNat 58) IntKind.u64.bits)=7:=by decide
  have u5:Int.toNat 7=7:=rfl
  (sym=>(simp[Za,Zb,Zf,Zh,Zl,Zm,Zv,Z3,Z6,Z7,Z9,ZG,ZY,ZZ,Yl,Ym,Yp,Yq,Y1,YF,YK,YP,YX,Xr,XJ,We,WB,WC,WK,WO,WP,WR,WS,Vv,V9,VA,VC,VD,VE,VF,VG,VJ,VK,VL,VM,VO,VT,VV,VY,Ua,Ud,Uf,Uh,Uu,Uz,U2,U3,U4,UD,UE,Th,Ti,Tk,Tt,Tu,Tv,Tw,Tz,T6,T7,Sw,SC,n0,u1,u2,u3,u4,u5];all_goals tactic=>exact rfl))
 ·have u2:cB .and .u64 (a:Int) (na:Int)=16:=u2
  have u3:IntKind.u64.wrap 4573923408821661840=4573923408821661840:=by decide
  have u4:(4573923408821661840:Int).fdiv (2^min (Int.toNat 58) IntKind.u64.bits)=15:=by decide
  have u5:Int.toNat 15=15:=rfl
  (sym=>(simp[Za,Zb,Zf,Zh,Zl,Zm,Zv,Z3,Z6,Z7,Z9,ZG,ZY,ZZ,Yl,Ym,Yp,Yq,Y2,YG,YP,YX,Xr,XJ,We,WB,WC,WK,WO,WP,WR,WS,Vv,V9,VA,VC,VD,VE,VF,VG,VJ,VK,VL,VM,VO,VT,VV,VY,Ua,Ud,Uf,Uh,Uu,Uz,U2,U3,U4,UD,UE,Th,Ti,Tk,Tt,Tu,Tv,Tw,Tz,T6,T7,Sw,SC,n0,u1,u2,u3,u4,u5];all_goals tactic=>exact rfl))
 ·have u2:cB .and .u64 (a:Int) (na:Int)=32:=u2
  have u3:IntKind.u64.wrap 9147846817643323680=9147846817643323680:=by decide
  have u4:(9147846817643323680:Int).fdiv (2^min (Int.toNat 58) IntKind.u64.bits)=31:=by decide
  have u5:Int.toNat 31=31:=rfl
  (sym=>(simp[Za,Zb,Zf,Zh,Zl,Zm,Zv,Z3,Z6,Z7,Z9,ZG,ZY,ZZ,Yl,Ym,Yp,Yq,Y3,YH,YP,YX,Xr,XJ,We,WB,WC,WK,WO,WP,WR,WS,Vv,V9,VA,VC,VD,VE,VF,VG,VJ,VK,VL,VM,VO,VT,VV,VY,Ua,Ud,Uf,Uh,Uu,Uz,U2,U3,U4,UD,UE,Th,Ti,Tk,Tt,Tu,Tv,Tw,Tz,T6,T7,Sw,SC,n0,u1,u2,u3,u4,u5];all_goals tactic=>exact rfl))
 ·have u2:cB .and .u64 (a:Int) (na:Int)=64:=u2
  have u3:IntKind.u64.wrap 18295693635286647360=18295693635286647360:=by decide
  have u4:(18295693635286647360:Int).fdiv (2^min (Int.toNat 58) IntKind.u64.bits)=63:=by decide
  have u5:Int.toNat 63=63:=rfl
  (sym=>(simp[Za,Zb,Zf,Zh,Zl,Zm,Zv,Z3,Z6,Z7,Z9,ZG,ZY,ZZ,Yl,Ym,Yp,Yq,Y4,YJ,YP,YX,Xr,XJ,We,WB,WC,WK,WO,WP,WR,WS,Vv,V9,VA,VC,VD,VE,VF,VG,VJ,VK,VL,VM,VO,VT,VV,VY,Ua,Ud,Uf,Uh,Uu,Uz,U2,U3,U4,UD,UE,Th,Ti,Tk,Tt,Tu,Tv,Tw,Tz,T6,T7,Sw,SC,n0,u1,u2,u3,u4,u5];all_goals tactic=>exact rfl))
 ·have u2:cB .and .u64 (a:Int) (na:Int)=128:=u2
  have u3:IntKind.u64.wrap 36591387270573294720=18144643196863743104:=by decide
  have u4:(18144643196863743104:Int).fdiv (2^min (Int.toNat 58) IntKind.u64.bits)=62:=by decide
  have u5:Int.toNat 62=62:=rfl
  (sym=>(simp[Za,Zb,Zf,Zh,Zl,Zm,Zv,Z3,Z6,Z7,Z9,ZG,ZY,ZZ,Yl,Ym,Yp,Yq,Y5,YL,YP,YX,Xr,XJ,We,WB,WC,WK,WO,WP,WR,WS,Vv,V9,VA,VC,VD,VE,VF,VG,VJ,VK,VL,VM,VO,VT,VV,VY,Ua,Ud,Uf,Uh,Uu,Uz,U2,U3,U4,UD,UE,Th,Ti,Tk,Tt,Tu,Tv,Tw,Tz,T6,T7,Sw,SC,n0,u1,u2,u3,u4,u5];all_goals tactic=>exact rfl))
 ·have u2:cB .and .u64 (a:Int) (na:Int)=256:=u2
  have u3:IntKind.u64.wrap 73182774541146589440=17842542320017934592:=by decide
  have u4:(17842542320017934592:Int).fdiv (2^min (Int.toNat 58) IntKind.u64.bits)=61:=by decide
  have u5:Int.toNat 61=61:=rfl
  (sym=>(simp[Za,Zb,Zf,Zh,Zl,Zm,Zv,Z3,Z6,Z7,Z9,ZG,ZY,ZZ,Yl,Ym,Yp,Yq,Y6,YM,YP,YX,Xr,XJ,We,WB,WC,WK,WO,WP,WR,WS,Vv,V9,VA,VC,VD,VE,VF,VG,VJ,VK,VL,VM,VO,VT,VV,VY,Ua,Ud,Uf,Uh,Uu,Uz,U2,U3,U4,UD,UE,Th,Ti,Tk,Tt,Tu,Tv,Tw,Tz,T6,T7,Sw,SC,n0,u1,u2,u3,u4,u5];all_goals tactic=>exact rfl))
 ·have u2:cB .and .u64 (a:Int) (na:Int)=512:=u2
  have u3:IntKind.u64.wrap 146365549082293178880=17238340566326317568:=by decide
  have u4:(17238340566326317568:Int).fdiv (2^min (Int.toNat 58) IntKind.u64.bits)=59:=by decide
  have u5:Int.toNat 59=59:=rfl
  (sym=>(simp[Za,Zb,Zf,Zh,Zl,Zm,Zv,Z3,Z6,Z7,Z9,ZG,ZY,ZZ,Yl,Ym,Yp,Yq,Y7,YN,YP,YX,Xr,XJ,We,WB,WC,WK,WO,WP,WR,WS,Vv,V9,VA,VC,VD,VE,VF,VG,VJ,VK,VL,VM,VO,VT,VV,VY,Ua,Ud,Uf,Uh,Uu,Uz,U2,U3,U4,UD,UE,Th,Ti,Tk,Tt,Tu,Tv,Tw,Tz,T6,T7,Sw,SC,n0,u1,u2,u3,u4,u5];all_goals tactic=>exact rfl))
 ·have u2:cB .and .u64 (a:Int) (na:Int)=1024:=u2
  have u3:IntKind.u64.wrap 292731098164586357760=16029937058943083520:=by decide
  have u4:(16029937058943083520:Int).fdiv (2^min (Int.toNat 58) IntKind.u64.bits)=55:=by decide
  have u5:Int.toNat 55=55:=rfl
  (sym=>(simp[Za,Zb,Zf,Zh,Zl,Zm,Zv,Z3,Z6,Z7,Z9,ZG,ZY,ZZ,Yl,Ym,Yp,Yq,YP,YX,Xr,XJ,We,WB,WC,WK,WO,WP,WR,WS,Vv,V9,VA,VC,VD,VE,VF,VG,VJ,VK,VL,VM,VO,VT,VV,VY,Ua,Ud,Uf,Uh,Uu,Uz,U2,U3,U4,UD,UE,Th,Ti,Tk,Tt,Tu,Tv,Tw,Tz,T6,T7,Sw,S2,SC,n0,u1,u2,u3,u4,u5];all_goals tactic=>exact rfl))
 ·have u2:cB .and .u64 (a:Int) (na:Int)=2048:=u2
  have u3:IntKind.u64.wrap 585462196329172715520=13613130044176615424:=by decide
  have u4:(13613130044176615424:Int).fdiv (2^min (Int.toNat 58) IntKind.u64.bits)=47:=by decide
  have u5:Int.toNat 47=47:=rfl
  (sym=>(simp[Za,Zb,Zf,Zh,Zl,Zm,Zv,Z3,Z6,Z7,Z9,ZG,ZY,ZZ,Yl,Ym,Yp,Yq,YP,YX,Xr,XJ,We,WB,WC,WK,WO,WP,WR,WS,Vv,V9,VA,VC,VD,VE,VF,VG,VJ,VK,VL,VM,VO,VT,VV,VY,Ua,Ud,Uf,Uh,Uu,Uz,U2,U3,U4,UD,UE,Th,Ti,Tk,Tt,Tu,Tv,Tw,Tz,T6,T7,Sw,S3,SC,n0,u1,u2,u3,u4,u5];all_goals tactic=>exact rfl))
 ·have u2:cB .and .u64 (a:Int) (na:Int)=4096:=u2
  have u3:IntKind.u64.wrap 1170924392658345431040=8779516014643679232:=by decide
  have u4:(8779516014643679232:Int).fdiv (2^min (Int.toNat 58) IntKind.u64.bits)=30:=by decide
  have u5:Int.toNat 30=30:=rfl
  (sym=>(simp[Za,Zb,Zf,Zh,Zl,Zm,Zv,Z3,Z6,Z7,Z9,ZG,ZY,ZZ,Yl,Ym,Yp,Yq,YP,YX,Xr,XJ,We,WB,WC,WK,WO,WP,WR,WS,Vv,V9,VA,VC,VD,VE,VF,VG,VJ,VK,VL,VM,VO,VT,VV,VY,Ua,Ud,Uf,Uh,Uu,Uz,U2,U3,U4,UD,UE,Th,Ti,Tk,Tt,Tu,Tv,Tw,Tz,T6,T7,Sw,S4,SC,n0,u1,u2,u3,u4,u5];all_goals tactic=>exact rfl))
 ·have u2:cB .and .u64 (a:Int) (na:Int)=8192:=u2
  have u3:IntKind.u64.wrap 2341848785316690862080=17559032029287358464:=by decide
  have u4:(17559032029287358464:Int).fdiv (2^min (Int.toNat 58) IntKind.u64.bits)=60:=by decide
  have u5:Int.toNat 60=60:=rfl
  (sym=>(simp[Za,Zb,Zf,Zh,Zl,Zm,Zv,Z3,Z6,Z7,Z9,ZG,ZY,ZZ,Yl,Ym,Yp,Yq,YP,YX,Xr,XJ,We,WB,WC,WK,WO,WP,WR,WS,Vv,V9,VA,VC,VD,VE,VF,VG,VJ,VK,VL,VM,VO,VT,VV,VY,Ua,Ud,Uf,Uh,Uu,Uz,U2,U3,U4,UD,UE,Th,Ti,Tk,Tt,Tu,Tv,Tw,Tz,T6,T7,Sw,S5,SC,n0,u1,u2,u3,u4,u5];all_goals tactic=>exact rfl))
 ·have u2:cB .and .u64 (a:Int) (na:Int)=16384:=u2
  have u3:IntKind.u64.wrap 4683697570633381724160=16671319984865165312:=by decide
  have u4:(16671319984865165312:Int).fdiv (2^min (Int.toNat 58) IntKind.u64.bits)=57:=by decide
  have u5:Int.toNat 57=57:=rfl
  (sym=>(simp[Za,Zb,Zf,Zh,Zl,Zm,Zv,Z3,Z6,Z7,Z9,ZG,ZY,ZZ,Yl,Ym,Yp,Yq,YP,YX,Xr,XJ,We,WB,WC,WK,WO,WP,WR,WS,Vv,V9,VA,VC,VD,VE,VF,VG,VJ,VK,VL,VM,VO,VT,VV,VY,Ua,Ud,Uf,Uh,Uu,Uz,U2,U3,U4,UD,UE,Th,Ti,Tk,Tt,Tu,Tv,Tw,Tz,T6,T7,Sw,S6,SC,n0,u1,u2,u3,u4,u5];all_goals tactic=>exact rfl))
 ·have u2:cB .and .u64 (a:Int) (na:Int)=32768:=u2
  have u3:IntKind.u64.wrap 9367395141266763448320=14895895896020779008:=by decide
  have u4:(14895895896020779008:Int).fdiv (2^min (Int.toNat 58) IntKind.u64.bits)=51:=by decide
  have u5:Int.toNat 51=51:=rfl
  (sym=>(simp[Za,Zb,Zf,Zh,Zl,Zm,Zv,Z3,Z6,Z7,Z9,ZG,ZY,ZZ,Yl,Ym,Yp,Yq,YP,YX,Xr,XJ,We,WB,WC,WK,WO,WP,WR,WS,Vv,V9,VA,VC,VD,VE,VF,VG,VJ,VK,VL,VM,VO,VT,VV,VY,Ua,Ud,Uf,Uh,Uu,Uz,U2,U3,U4,UD,UE,Th,Ti,Tk,Tt,Tu,Tv,Tw,Tz,T6,T7,Sw,S7,SC,n0,u1,u2,u3,u4,u5];all_goals tactic=>exact rfl))
theorem w87 {a:Nat} (ha:a<65536) (h0:a≠0):runW aA 87 [U a] []=some (I (rD a:Nat),[]):=by
 have e:=w91 ha h0
 rw[r87 (by simp)];unfold x87;dsimp only
 (sym=>(simp[Za,Zb,Zf,Zh,Zl,Zv,ZO,ZP,ZT,ZU,YX,Xr,XJ,We,WA,WB,WK,WN,WO,WP,WR,WS,WU,WV,Vi,Vj,Vk,Vv,V9,VA,VC,VD,VE,VF,VG,VJ,VK,VL,VM,VO,VT,VV,VY,VZ,Ua,Uc,Ud,Uf,Uh,U2,U3,U4,U5,U6,UD,UE,Tu,Tv,Tw,Tz,T6,T7,Sw,e];all_goals tactic=>exact rfl))
def tG (a:Nat):Nat→Nat
 | 0=>a
 | i+1=>tG a i&&&(tG a i-1)
theorem tF {a:Nat} (ha:a<65536):∀ i,tG a i<65536
 | 0=>ha
 | i+1=>by rw[tG];exact Nat.lt_of_le_of_lt Nat.and_le_left (tF ha i)
theorem aCE {a:Nat} (ha:a<65536):∀ i,el (tG a i)=(el a).drop i
 | 0=>rfl
 | i+1=>by
   have ih:=aCE ha i
   rw[tG]
   by_cases h0:tG a i=0
   ·rw[h0]at ih ⊢
    have e0:el 0=[]:=rfl
    rw[show (0&&&(0-1))=0 from rfl,e0]
    rw[e0]at ih
    have:=congrArg List.length ih
    rw[List.length_nil,List.length_drop]at this
    exact(List.drop_eq_nil_of_le (by omega)).symm
   ·rw[vA (tF ha i) h0]at ih
    rw[←List.drop_drop,←ih]
    rfl
theorem aHe {a:Nat} (ha:a<65536) {i:Nat} (hi:i<(el a).length):tG a i≠0∧(el a)[i]?=some (rD (tG a i)):=by
 have h:=aCE ha i
 have h0:tG a i≠0:=fun hc=>by
  rw[hc,show el 0=[] from rfl]at h
  have:=congrArg List.length h
  rw[List.length_nil,List.length_drop]at this
  omega
 refine⟨h0,?_⟩
 rw[vA (tF ha i) h0]at h
 have:=congrArg (fun l=>l[0]?) h
 simpa using this.symm
theorem aDO {a:Nat} (ha:a<65536):tG a (el a).length=0:=by
 have h:=aCE ha (el a).length
 rw[List.drop_length]at h
 exact(aQi (tF ha _)).1 h
abbrev cI (a:Nat):Option XB:=some (.blk true (.cells true [I a]))
structure aEQ (n:Nat) (H:XH):Prop where
 hat:∀ a,hat (H++[cI a]) n=cI a
 set:∀ a b,(H++[cI a]).set n (cI b)=H++[cI b]
 len:∀ a,(H++[cI a]).length=n+1
 head:∀ (a:Nat) (e:aH),e 0 = .fn (.yield 0) [] []→e 1 = .pt n 0→aU (n+1) [0,1] (some (.normal,e,H++[cI a]))=some ([.fn (.yield 0) [] [],.pt n 0],H++[cI a])
 fin:∀ a,iG false (n+1) (.tup []) (H++[cI a])=(.tup [],H++[cI a])
def Yd (H H':XH) (v:Nat) (b:Bool):Prop:=∀ a:Nat,eK (runW aA) (runYW aA) (.fn (.yield 0) [] []) [I v] (H++[cI a])=some (.bool b,H'++[cI a])
theorem aHU {n:Nat} {H H':XH} (g:aEQ n H) (g':aEQ n H') {a:Nat} (ha:a<65536) (h0:a≠0) (hy:Yd H H' (rD a) true) :
 aU (n+1) [0,1] (execW aA 86 (n+1) none (match vJ with | .loop _ a=>a|c=>c) (aQ [0,1] [.fn (.yield 0) [] [],.pt n 0]) (H++[cI a]))=some ([.fn (.yield 0) [] [],.pt n 0],H'++[cI (a&&&(a-1))]):=by
 have h1:=g.hat a
 have h2:=g'.hat a
 have h3:=g'.set a
 have h4:=hy a
 have t:=w87 ha h0
 have n0:((a:Int)=0)=False:=eq_false (by omega)
 have u1:IntKind.i64.wrap ((a:Int)-1)=((a-1:Nat):Int):=by
  rw[show (a:Int)-1=((a-1:Nat):Int) by omega];exact hX bX (by omega)
 have u2:=iS bX (a:=a) (b:=a-1) (by omega) (by omega)
 have u3:=hX aDT (a:=a) (by omega)
 have hd:=g'.head (a&&&(a-1))
 unfold vJ
 dsimp only
 sym =>
  simp[Za,Zb,Zc,Zf,Zh,Zl,Zm,Zv,Z3,Z5,Z7,ZG,ZK,ZL,ZO,ZP,ZT,ZU,ZX,ZZ,Yk,Ym,Yr,YX,Xi,Xr,Wq,W4,W5,W7,W9,WA,WC,WK,WN,WP,WU,WV,Vi,Vj,Vk,VQ,VT,VU,VV,VZ,Ua,Uc,Ud,Ug,Uh,Um,Uq,Ur,Uu,Uz,U2,U3,U4,U5,U6,U7,U8,UF,Tf,Tg,Tk,Tl,Tm,Tt,Tu,Tw,Ty,Tz,T2,T6,T7,TH,h1,h2,t,h4,n0,u1,u2,u3,h3]
  tactic=>exact hd _ rfl rfl
theorem rM {n:Nat} {G:Nat→XH} {a:Nat} (ha:a<65536) (g:∀ i,i≤(el a).length→aEQ n (G i)) (hy:∀ i v,(el a)[i]?=some v→Yd (G i) (G (i+1)) v true) :
 runW aA 86 [.fn (.yield 0) [] [],.pt n 0] (G 0++[cI a])=some (.tup [],G (el a).length++[cI 0]):=by
 have l0:=(g 0 (by omega)).len a
 have g1:=g (el a).length (by omega)
 have h1:hat (G (el a).length++[some (.blk true (.cells true [.int .i64 0]))]) n=some (.blk true (.cells true [.int .i64 0])):=g1.hat 0
 have hf:iG false (n+1) (.tup []) (G (el a).length++[some (.blk true (.cells true [.int .i64 0]))])=(.tup [],G (el a).length++[some (.blk true (.cells true [.int .i64 0]))]):=g1.fin 0
 have c0:=aDO ha
 rw[r86 (by simp)];unfold x86;dsimp only
 rw[l0]
 unfold vJ
 sym =>
  simp[Y9,Wl,Wp,VY,UD,UE,Ty]
  tactic =>
   rw[aC (el a).length (fun _=>[.fn (.yield 0) [] [],.pt n 0]) (fun i=>G i++[cI (tG a i)])]
   ·rw[c0]
    (sym=>(simp[Za,Zb,Zf,Zh,Zl,Zm,Z3,ZG,Yr,Y9,W4,W5,WC,V8,VA,VF,VH,VJ,VQ,VT,VV,Uq,Uy,Tf,Tg,Tk,Tt,Tu,Tx,Tz,T0,T4,T6,T7,h1,hf];all_goals tactic=>exact rfl))
   ·exact(g 0 (by omega)).head a _ rfl rfl
   ·intro i hi
    obtain⟨p1,p2⟩:=aHe ha hi
    exact aHU (g i (by omega)) (g (i+1) (by omega)) (tF ha i) p1 (hy i _ p2)
   ·rw[c0]
    (sym=>(simp[Za,Zb,Zf,Zh,Zl,Zm,Z3,ZG,Yr,Y9,W4,W5,WC,VQ,VT,VV,VW,Uq,Uy,Tf,Tg,Tk,Tt,Tu,Tx,Tz,T0,T6,T7,h1];all_goals tactic=>exact rfl))
structure zO (n:Nat) (M K:Nat→XH):Prop where
 hat:∀ a,hat (M a) n=cI a
 set:∀ a b,(M a).set n (cI b)=M b
 head:∀ (a:Nat) (e:aH),e 0 = .fn (.yield 0) [] []→e 1 = .pt n 0→aU (n+1) [0,1] (some (.normal,e,M a))=some ([.fn (.yield 0) [] [],.pt n 0],K a)
def YdF (K K':Nat→XH) (v:Nat) (b:Bool):Prop:=∀ a:Nat,eK (runW aA) (runYW aA) (.fn (.yield 0) [] []) [I v] (K a)=some (.bool b,K' a)
theorem aJU {n:Nat} {K M K':Nat→XH} {a:Nat} (h1:hat (K a) n=cI a) (g':zO n M K') (ha:a<65536) (h0:a≠0) (hy:YdF K M (rD a) true) :
 aU (n+1) [0,1] (execW aA 86 (n+1) none (match vJ with | .loop _ a=>a|c=>c) (aQ [0,1] [.fn (.yield 0) [] [],.pt n 0]) (K a))=some ([.fn (.yield 0) [] [],.pt n 0],K' (a&&&(a-1))):=by
 have h2:=g'.hat a
 have h3:=g'.set a
 have h4:=hy a
 have t:=w87 ha h0
 have n0:((a:Int)=0)=False:=eq_false (by omega)
 have u1:IntKind.i64.wrap ((a:Int)-1)=((a-1:Nat):Int):=by
  rw[show (a:Int)-1=((a-1:Nat):Int) by omega];exact hX bX (by omega)
 have u2:=iS bX (a:=a) (b:=a-1) (by omega) (by omega)
 have u3:=hX aDT (a:=a) (by omega)
 have hd:=g'.head (a&&&(a-1))
 unfold vJ
 dsimp only
 sym =>
  simp[Za,Zb,Zc,Zf,Zh,Zl,Zm,Zv,Z3,Z5,Z7,ZG,ZK,ZL,ZO,ZP,ZT,ZU,ZX,ZZ,Yk,Ym,Yr,YX,Xi,Xr,Wq,W4,W5,W7,W9,WA,WC,WK,WN,WP,WU,WV,Vi,Vj,Vk,VQ,VT,VU,VV,VZ,Ua,Uc,Ud,Ug,Uh,Um,Uq,Ur,Uu,Uz,U2,U3,U4,U5,U6,U7,U8,UF,Tf,Tg,Tk,Tl,Tm,Tt,Tu,Tw,Ty,Tz,T2,T6,T7,h1,h2,t,h4,n0,u1,u2,u3,h3]
  tactic=>exact hd _ rfl rfl
theorem aLV {n:Nat} {G:Nat→Nat→XH} {a:Nat} {X:XH} (ha:a<65536) (l0:(G 0 a).length=n+1) (g0:zO n (G 0) (G 0)) (gh:∀ i,i≤(el a).length→∀ a,hat (G i a) n=cI a) (hf:iG false (n+1) (.tup []) (G (el a).length 0)=(.tup [],X)) (hy:∀ i v,(el a)[i]?=some v→∃ M,YdF (G i) M v true∧zO n M (G (i+1))) :
 runW aA 86 [.fn (.yield 0) [] [],.pt n 0] (G 0 a)=some (.tup [],X):=by
 have h1:=gh (el a).length (by omega) 0
 have h1:hat (G (el a).length 0) n=some (.blk true (.cells true [.int .i64 0])):=h1
 have c0:=aDO ha
 rw[r86 (by simp)];unfold x86;dsimp only
 rw[l0]
 unfold vJ
 sym =>
  simp[Wl,Wp,VY,UD,UE,Ty]
  tactic =>
   rw[aC (el a).length (fun _=>[.fn (.yield 0) [] [],.pt n 0]) (fun i=>G i (tG a i))]
   ·rw[c0]
    (sym=>(simp[Za,Zb,Zf,Zh,Zl,Zm,Z3,ZG,Yr,W4,W5,WC,V8,VA,VF,VH,VJ,VQ,VT,VV,Uq,Uy,Tf,Tg,Tk,Tt,Tu,Tx,Tz,T0,T4,T6,T7,h1,hf];all_goals tactic=>exact rfl))
   ·exact g0.head a _ rfl rfl
   ·intro i hi
    obtain⟨p1,p2⟩:=aHe ha hi
    obtain⟨M,m1,m2⟩:=hy i _ p2
    exact aJU (gh i (by omega) _) m2 (tF ha i) p1 m1
   ·rw[c0]
    (sym=>(simp[Za,Zb,Zf,Zh,Zl,Zm,Z3,ZG,Yr,W4,W5,WC,VQ,VT,VV,VW,Uq,Uy,Tf,Tg,Tk,Tt,Tu,Tx,Tz,T0,T6,T7,h1];all_goals tactic=>exact rfl))
def bG (ks:List Nat):List Int:=ks.map fun k:Nat=>(k:Int)
theorem tD (a:Nat):(el a).length≤16:=by
 have:=List.length_filter_le (fun i=>a.testBit i) (List.range 16)
 simpa [el]using this
theorem dB {ks:List Nat} {i v:Nat} (h:ks[i]?=some v):(bG ks)[i]?=some (v:Int):=by
 unfold bG
 rw[List.getElem?_map,h];rfl
theorem aZ (ks:List Nat):(bG ks).length=ks.length:=by simp[bG]
abbrev gCn (a:Nat):XH:=[some (.loop 85 0 [.pt 1 0] .ready),some (.blk true (.cells true [.nilsl])),cI a]
abbrev gCc (x:Int) (r:List Int) (a:Nat):XH:=[some (.loop 85 0 [.pt 1 0] .ready),some (.blk false (.cells true [.sl 3 0 1 (r.length+1)])),cI a,some (.blk true (.cells true (I x::r.map I)))]
abbrev gCm (x:Int) (r:List Int) (a:Nat):XH:=[some (.loop 85 0 [.pt 1 0] .ready),some (.blk false (.cells true [.sl 4 0 1 (r.length+1)])),cI a,none,some (.blk true (.cells true (I x::r.map I)))]
def gC:List Int→Nat→XH
 | []=>gCn
 | x::r=>gCc x r
theorem aKo:zO 2 gCn gCn:=by
 refine⟨fun _=>rfl,fun _ _=>rfl,?_⟩
 intro a e h0 h1
 (sym=>(simp[Xd,Xh,Xx,XI,WE,WI,WK,WM,WO,WP,WQ,WR,WS,WY,WZ,Vc,Ve,Vf,Vh,VR,VS,VZ,Ua,Ub,Uc,Ud,Ue,Uf,Ux,U2,U3,U4,U5,U6,T5,h0,h1];all_goals tactic=>exact rfl))
theorem aKq (x:Int) (r:List Int):zO 2 (gCc x r) (gCc x r):=by
 refine⟨fun _=>rfl,fun _ _=>rfl,?_⟩
 intro a e h0 h1
 (sym=>(simp[Xc,Xd,Xh,Xw,Xx,XI,W3,WE,WH,WI,WK,WL,WM,WO,WQ,WR,WS,WT,WY,WZ,Vb,Vc,Ve,Vf,Vg,Vh,VR,VS,VZ,Ua,Ub,Uc,Ud,Ue,Uf,Uk,Ux,U3,U4,U5,U6,T5,h0,h1];all_goals tactic=>exact rfl))
theorem aKp (x:Int) (r:List Int):zO 2 (gCm x r) (gCc x r):=by
 refine⟨fun _=>rfl,fun _ _=>rfl,?_⟩
 intro a e h0 h1
 (sym=>(simp[Xc,Xd,Xh,Xw,Xx,XI,W3,WE,WH,WI,WK,WL,WM,WO,WQ,WR,WS,WT,WY,WZ,Vb,Vc,Ve,Vf,Vg,Vh,VR,VS,VZ,Ua,Ub,Uc,Ud,Ue,Uf,Uk,Ux,U3,U4,U5,U6,T5,h0,h1];all_goals tactic=>exact rfl))
theorem yCn (v:Nat):YdF gCn (gCc (v:Int) []) v true:=by
 have y:runYW aA (.fn (.yield 0) [] []) [I (v:Nat)] [some (.loop 85 0 [.pt 1 0] .ready),some (.blk true (.cells true [.nilsl]))]=some (.bool true,[some (.loop 85 0 [.pt 1 0] .ready),some (.blk false (.cells true [.sl 2 0 1 1])),some (.blk true (.cells true [I (v:Nat)]))]):=by
  rw[jO (K:=85) (d:=x85) (site:=0) (vs:=[.pt 1 0]) rfl rfl (by rfl) rfl]
  (sym=>(simp[Za,Zb,Zc,Zd,Ze,Zf,Zg,Zh,Zj,Zl,Zm,Zo,Zv,Z1,ZG,ZK,ZL,ZS,YY,Xc,Xd,Xi,Xm,Xs,Xw,Xx,XJ,We,Wq,Wu,W3,W4,W5,W6,W7,W8,W9,WA,WC,WE,WH,WI,WK,WL,WM,WO,WQ,WR,WS,WT,WY,WZ,Vb,Vc,Ve,Vf,Vg,Vh,Vv,Vx,Vy,Vz,VB,VE,VQ,VZ,Ua,Ub,Uc,Ud,Ue,Uf,Ug,Uh,Uk,Um,Uo,Uu,Ux,U0,U1,U3,U4,U5,U6,U7,U8,UF,UG,UH,UI,UQ,UR,UU,UV,UW,UX,UY,UZ,Ta,Tb,Tf,Tg,Tk,Tl,Tm,Tn,Tq,Tr,Ts,Ty,T2,T6,TP,Sa,Sb,Sc,Sd,Sm,Sn,Sp,Sq,Sw,SE,SF,SI,SJ,SK,SL];all_goals tactic=>exact rfl))
 intro a
 (sym=>(simp[YX,Xd,Xh,Xr,Xs,Xw,Xx,XI,W3,W6,W9,WC,WE,WF,WG,WH,WJ,WK,WL,WM,WN,WQ,WU,WV,WW,WY,WZ,Vb,Vc,Vf,Vh,Vi,Vj,Vk,Vl,VZ,Ua,Ub,Uc,Ud,Ug,Uh,Uk,Ux,U3,U4,U5,U6,Sl,y];all_goals tactic=>exact rfl))
theorem yCc (v:Nat) (x:Int) (r:List Int) (hr:r.length≤20):YdF (gCc x r) (gCm x (r++[(v:Int)])) v true:=by
 have b1:((r.length+1+1)*8≤1099511627776)=True:=eq_true (by omega)
 have b2:(r.length+1+1≤1099511627776)=True:=eq_true (by omega)
 have y:runYW aA (.fn (.yield 0) [] []) [I (v:Nat)] [some (.loop 85 0 [.pt 1 0] .ready),some (.blk false (.cells true [.sl 2 0 1 (r.length+1)])),some (.blk true (.cells true (I x::r.map I)))]=some (.bool true,[some (.loop 85 0 [.pt 1 0] .ready),some (.blk false (.cells true [.sl 3 0 1 (r.length+1+1)])),none,some (.blk true (.cells true (I x::(r.map I++[I (v:Nat)]))))]):=by
  rw[jO (K:=85) (d:=x85) (site:=0) (vs:=[.pt 1 0]) rfl rfl (by rfl) rfl]
  (sym=>(simp[Za,Zb,Zc,Zd,Ze,Zf,Zg,Zh,Zj,Zl,Zm,Zo,Zv,Z1,ZG,ZK,ZL,ZS,YY,Xc,Xd,Xi,Xm,Xs,Xw,Xx,XJ,We,Wq,Wu,W3,W4,W5,W6,W7,W8,W9,WA,WC,WE,WH,WI,WK,WL,WM,WO,WQ,WR,WS,WT,WX,WY,WZ,Vb,Vc,Vd,Ve,Vf,Vg,Vh,Vv,Vx,Vy,Vz,VB,VE,VQ,VZ,Ua,Ub,Uc,Ud,Ue,Uf,Ug,Uh,Ui,Uk,Um,Uo,Uu,Ux,U0,U1,U3,U4,U5,U6,U7,U8,UF,UG,UH,UI,UQ,UR,UU,UV,UW,UX,UY,UZ,Ta,Tc,Td,Tf,Tg,Tk,Tl,Tm,Tn,Tp,Tq,Tr,Ty,T2,T6,TI,TP,Sa,Sb,Sc,Sd,Sm,Sn,Sp,Sq,Sw,SE,SF,SI,SJ,SK,SL,b1,b2];all_goals tactic=>exact rfl))
 intro a
 (sym=>(simp[YX,Xc,Xd,Xh,Xr,Xs,Xw,Xx,XI,W3,W6,W9,WC,WE,WF,WG,WH,WJ,WK,WL,WM,WN,WQ,WU,WV,WW,WX,WY,WZ,Vb,Vc,Vf,Vg,Vh,Vi,Vj,Vk,Vl,VZ,Ua,Ub,Uc,Ud,Ug,Uh,Uk,Ux,U3,U4,U5,U6,TG,TH,Sl,y];all_goals tactic=>exact rfl))
theorem aKs (os:List Int):iG false 3 (.tup []) (gC os 0)=(.tup [],gC os 0):=by
 cases os with
 | nil=>unfold gC; (sym=>(simp[Za,Y9,Xa,Xd,Xu,Xx,XM,Wh,WE,WI,WK,WM,WO,WP,WQ,WR,WS,WY,WZ,Vc,Ve,Vf,Vh,Vv,VC,VD,VE,VZ,Ua,Uc,Ud,Ue,Uf,Ux,U2,U3,U4,U5,U6,U9,UD,Sw];all_goals tactic=>exact rfl))
 | cons x r=>unfold gC; (sym=>(simp[Za,Y9,Xa,Xc,Xd,Xu,Xw,Xx,XM,Wh,W3,WE,WH,WI,WK,WL,WM,WO,WQ,WR,WS,WT,WY,WZ,Vb,Vc,Ve,Vf,Vg,Vh,Vv,VC,VD,VE,VZ,Ua,Ub,Uc,Ud,Ue,Uf,Uk,Ux,U3,U4,U5,U6,U9,UD,Sw];all_goals tactic=>exact rfl))
theorem w85 {a:Nat} (ha:a<65536):runW aA 85 [.nilsl,.fn (.func 86) [] [.pt 0 0]] [cI a]=some (nL (bG (el a)),[some (.blk true (.cells true [.int .i64 0]))]):=by
 have e:=aLV (n:=2) (G:=fun i=>gC (bG ((el a).take i))) (X:=gC (bG (el a)) 0) ha rfl aKo
  (by intro i _ c;cases bG ((el a).take i)<;>rfl)
  (by
   show iG false 3 (.tup []) (gC (bG ((el a).take (el a).length)) 0)=_
   rw[List.take_length]
   exact aKs _)
  (by
   intro i v hv
   have e1:bG ((el a).take (i+1))=bG ((el a).take i)++[(v:Int)]:=by
    rw[List.take_add_one,hv]
    simp[bG]
   have hl:=aZ ((el a).take i)
   have hl2:=tD a
   rw[List.length_take]at hl
   rw[e1]
   generalize bG ((el a).take i)=os at *
   rcases os with _|⟨x,r⟩
   ·exact⟨_,yCn v,aKq _ _⟩
   ·exact⟨_,yCc v x r (by simp at hl;omega),aKp _ _⟩)
 have e:runW aA 86 [.fn (.yield 0) [] [],.pt 2 0] [some (.loop 85 0 [.pt 1 0] .ready),some (.blk true (.cells true [.nilsl])),cI a]=some (.tup [],gC (bG (el a)) 0):=e
 generalize bG (el a)=os at *
 rw[r85 (by simp)];unfold x85;dsimp only
 rcases os with _|⟨x,r⟩
 ·have e:runW aA 86 [.fn (.yield 0) [] [],.pt 2 0] [some (.loop 85 0 [.pt 1 0] .ready),some (.blk true (.cells true [.nilsl])),cI a]=some (.tup [],[some (.loop 85 0 [.pt 1 0] .ready),some (.blk true (.cells true [.nilsl])),some (.blk true (.cells true [.int .i64 0]))]):=e
  (sym=>(simp[Za,Zb,Zf,Zh,Zl,Zm,Zo,Zv,Zz,ZG,ZT,ZU,Xb,Xd,Xh,Xo,Xu,Xv,Xx,XI,XQ,Wm,Ww,W3,W4,W5,W6,W9,WA,WB,WC,WE,WF,WG,WH,WJ,WK,WL,WM,WN,WO,WP,WQ,WR,WS,WU,WV,WW,WY,WZ,Vc,Ve,Vf,Vh,Vi,Vj,Vk,Vl,Vv,V9,VA,VC,VD,VE,VF,VG,VJ,VK,VL,VM,VO,VZ,Ua,Ub,Uc,Ud,Ue,Uf,Ug,Uh,Uk,Um,Ux,U2,U3,U4,U5,U6,US,UT,Tf,Tg,Tk,Tn,Tu,Tv,Ty,Tz,T2,T6,T7,Sa,Sb,Se,Sf,Sg,Si,Sj,Sk,Sw,e];all_goals tactic=>exact rfl))
 ·have e:runW aA 86 [.fn (.yield 0) [] [],.pt 2 0] [some (.loop 85 0 [.pt 1 0] .ready),some (.blk true (.cells true [.nilsl])),cI a]=some (.tup [],[some (.loop 85 0 [.pt 1 0] .ready),some (.blk false (.cells true [.sl 3 0 1 (r.length+1)])),some (.blk true (.cells true [.int .i64 0])),some (.blk true (.cells true (I x::r.map I)))]):=e
  (sym=>(simp[Za,Zb,Zf,Zh,Zl,Zm,Zo,Zv,Zz,ZG,ZT,ZU,Xb,Xd,Xh,Xl,Xo,Xu,Xv,Xw,Xx,XI,XO,Wb,Wi,Ww,W3,W4,W5,W6,W9,WB,WC,WE,WF,WG,WH,WJ,WK,WL,WM,WN,WO,WQ,WR,WS,WU,WV,WW,WY,WZ,Vb,Vc,Ve,Vf,Vh,Vi,Vj,Vk,Vl,Vs,Vt,Vu,Vv,Vw,V4,V5,V6,V7,V9,VA,VC,VD,VE,VF,VG,VJ,VK,VL,VM,VO,VZ,Ua,Ub,Uc,Ud,Ue,Uf,Ug,Uh,Ui,Uk,Um,Uu,Ux,U3,U4,U5,U6,U7,U8,UB,UC,US,UT,Tf,Tg,Tk,Tn,Tu,Tv,Ty,Tz,T2,T6,T7,TI,TJ,TL,TY,Sa,Sb,Se,Sf,Sg,Si,Sj,Sk,Sw,Sx,Sy,e];all_goals tactic=>exact rfl))
theorem w79 {a:Nat} (ha:a<65536):runW aA 79 [.fn (.func 86) [] [.pt 0 0]] [cI a]=some (nL (bG (el a)),[some (.blk true (.cells true [.int .i64 0]))]):=by
 have e:=w85 ha
 generalize bG (el a)=os at *
 rw[r79 (by simp)];unfold x79;dsimp only
 (sym=>(simp[Za,Zb,Zf,Zh,Zl,Zv,ZO,ZP,ZT,ZU,Xb,Xd,Xe,Xg,Xv,Xx,Xy,X0,XN,Wi,Wo,W3,W6,W9,WA,WB,WE,WG,WH,WK,WL,WM,WN,WO,WP,WQ,WR,WS,WU,WV,WW,WY,WZ,Ve,Vf,Vi,Vj,Vk,Vl,Vv,V9,VA,VC,VD,VE,VF,VG,VJ,VK,VL,VM,VO,VY,VZ,Ua,Uc,Ud,Ue,Uf,Ug,Uh,Ux,U2,U3,U4,U5,U6,UD,UE,Tu,Tv,Tz,T6,T7,Sw,e];all_goals tactic=>exact rfl))
theorem w80 {a:Nat}:runW aA 80 [I a] []=some (.fn (.func 86) [] [.pt 0 0],[cI a]):=by
 rw[r80 (by simp)];unfold x80;dsimp only
 (sym=>(simp[Za,Zb,Zf,Zh,Zl,Zo,Zv,Zx,Zz,Xd,Xg,Xi,Xx,X0,XV,We,Wo,Wq,W3,WB,WE,WH,WI,WK,WL,WM,WO,WQ,WR,WS,WT,WY,WZ,Vf,Vv,V9,VA,VC,VD,VE,VF,VG,VJ,VK,VL,VM,VO,VY,VZ,Ua,Uc,Ud,Uf,Uh,Uk,Ux,U3,U4,U5,U6,UD,UE,US,UT,Tn,Tu,Tv,Tz,T6,T7,TK,Sw];all_goals tactic=>exact rfl))
theorem w63 {a:Nat} (ha:a<65536):runW aA 63 [I a] []=some (nL (bG (el a)),[]):=by
 have e:=w79 ha
 have e2:=w80 (a:=a)
 generalize bG (el a)=os at *
 rw[r63 (by simp)];unfold x63;dsimp only
 (sym=>(simp[Za,Zb,Zf,Zg,Zh,Zj,Zl,Zv,ZO,ZP,ZT,ZU,YX,Xb,Xd,Xg,Xr,Xv,Xx,X0,XJ,XN,We,Wi,W3,W6,W9,WA,WB,WE,WG,WH,WJ,WK,WL,WM,WN,WO,WP,WQ,WR,WS,WU,WV,WW,WY,WZ,Vf,Vi,Vj,Vk,Vl,Vv,Vx,Vy,Vz,V9,VA,VC,VD,VE,VF,VG,VJ,VK,VL,VM,VO,VY,VZ,Ua,Uc,Ud,Uf,Ug,Uh,Ux,U2,U3,U4,U5,U6,UD,UE,Tu,Tv,Tz,T6,T7,Sw,SE,SF,SI,SJ,SK,SL,e,e2];all_goals tactic=>exact rfl))
structure Va where
 F:Int
 bs:List (Int×Int)
 ps:List (Int×Int×Int)
 sick:Int
 nur:Int
 fix:Int
abbrev rB (l:List (Int×Int)):AV:=.fs (l.map fun b=>[I b.1,I b.2])
abbrev rP (l:List (Int×Int×Int)):AV:=.fs (l.map fun p=>[I p.1,I p.2.1,I p.2.2])
abbrev Va.c (v:Va):List AV:=[I v.F,rB v.bs,rP v.ps,I v.sick,I v.nur,I v.fix]
def gR (F a b:Int):Int:=if btw 0 a (F-1)&&btw 0 b (F-1) then (if a=b then 22 else 0) else 5
theorem eU (F a b:Int):(btw 0 a (F-1)=false∧gR F a b=5)∨(btw 0 a (F-1)=true∧btw 0 b (F-1)=false∧gR F a b=5) ∨
 (btw 0 a (F-1)=true∧btw 0 b (F-1)=true∧(a=b)=True∧gR F a b=22)∨(btw 0 a (F-1)=true∧btw 0 b (F-1)=true∧(a=b)=False∧gR F a b=0):=by
 unfold gR
 cases btw 0 a (F-1)
 ·simp
 cases btw 0 b (F-1)
 ·simp
 by_cases h:a=b
 ·simp[h]
 ·simp[h]
theorem w53 (v:Va) (hF:1≤v.F∧v.F≤16) (a b:Int):runW aA 53 [.agg v.c,I a,I b] []=some (I (gR v.F a b),[]):=by
 have u:IntKind.i64.wrap (v.F-1)=v.F-1:=aE (by omega) (by omega)
 have e1:=w45 0 a (v.F-1)
 have e2:=w45 0 b (v.F-1)
 rw[r53 (by simp)];unfold x53;dsimp only
 rcases eU v.F a b with ⟨h1,h⟩|⟨h1,h2,h⟩|⟨h1,h2,h3,h⟩|⟨h1,h2,h3,h⟩
 ·rw[h];rw[h1]at e1; (sym=>(simp[Za,Zb,Zf,Zh,Zl,Zm,Zo,Zp,Zt,Zv,Zy,Zz,Z3,Z5,Z8,ZG,ZO,ZP,ZT,ZU,ZV,ZX,Ya,Yk,YX,Xi,Xk,Xl,Xr,Xs,XJ,We,Wg,Wi,Ws,W3,W4,W5,WA,WB,WC,WK,WN,WO,WP,WQ,WR,WS,WU,WV,Vi,Vj,Vk,Vv,V9,VA,VC,VD,VE,VF,VG,VJ,VK,VL,VM,VO,VT,VU,VY,VZ,Ua,Uc,Ud,Uf,Ug,Uh,Um,Ur,U2,U3,U4,U5,U6,U7,U8,UD,UE,US,UT,Tf,Tg,Tk,Tn,Tt,Tu,Tv,Ty,Tz,T1,T3,T6,T7,Sw,u,e1];all_goals tactic=>exact rfl))
 ·rw[h];rw[h1]at e1;rw[h2]at e2; (sym=>(simp[Za,Zb,Zf,Zh,Zl,Zm,Zo,Zp,Zr,Zv,Zy,Zz,Z3,Z5,Z8,ZG,ZO,ZP,ZT,ZU,ZW,ZX,Ya,Yk,YX,Xi,Xk,Xl,Xr,Xs,XJ,We,Wg,Wi,Ws,W3,W4,W5,WA,WB,WC,WK,WN,WO,WP,WQ,WR,WS,WU,WV,Vi,Vj,Vk,Vv,V9,VA,VC,VD,VE,VF,VG,VJ,VK,VL,VM,VO,VT,VU,VY,VZ,Ua,Uc,Ud,Uf,Ug,Uh,Um,Uq,Ur,U2,U3,U4,U5,U6,U7,U8,UD,UE,US,UT,Tf,Tg,Tk,Tn,Tt,Tu,Tv,Ty,Tz,T1,T3,T6,T7,Sw,u,e1,e2];all_goals tactic=>exact rfl))
 ·rw[h];rw[h1]at e1;rw[h2]at e2; (sym=>(simp[Za,Zb,Zf,Zh,Zl,Zm,Zo,Zp,Zr,Zv,Zy,Zz,Z3,Z5,Z8,ZG,ZO,ZP,ZT,ZU,ZW,ZX,Ya,Yk,Yq,YX,Xi,Xk,Xl,Xr,Xs,XJ,We,Wg,Wi,Ws,W3,W4,W5,WA,WB,WC,WK,WN,WO,WP,WQ,WR,WS,WU,WV,Vi,Vj,Vk,Vv,V9,VA,VC,VD,VE,VF,VG,VJ,VK,VL,VM,VO,VT,VU,VV,VY,VZ,Ua,Uc,Ud,Uf,Ug,Uh,Um,Uq,Uy,U2,U3,U4,U5,U6,U7,U8,UD,UE,US,UT,Tf,Tg,Tk,Tn,Tt,Tu,Tv,Ty,Tz,T1,T3,T6,T7,Sw,u,e1,e2,h3];all_goals tactic=>exact rfl))
 ·rw[h];rw[h1]at e1;rw[h2]at e2; (sym=>(simp[Za,Zb,Zf,Zh,Zl,Zm,Zo,Zp,Zr,Zv,Zy,Zz,Z3,Z5,Z8,ZG,ZO,ZP,ZT,ZU,ZW,ZX,Ya,Yk,Yq,YX,Xi,Xk,Xl,Xr,Xs,XJ,We,Wg,Wi,Ws,W3,W4,W5,WA,WB,WC,WK,WN,WO,WP,WQ,WR,WS,WU,WV,Vi,Vj,Vk,Vv,V9,VA,VC,VD,VE,VF,VG,VJ,VK,VL,VM,VO,VT,VV,VY,VZ,Ua,Uc,Ud,Uf,Ug,Uh,Um,Uq,Uz,U2,U3,U4,U5,U6,U7,U8,UD,UE,US,UT,Tf,Tg,Tk,Tn,Tt,Tu,Tv,Tw,Ty,Tz,T2,T6,T7,Sw,u,e1,e2,h3];all_goals tactic=>exact rfl))
def bE (v:Va) (i:Nat):Int:=gR v.F (v.bs.getD i (0,0)).1 (v.bs.getD i (0,0)).2
def pE (v:Va) (i:Nat):Int:=if gR v.F (v.ps.getD i (0,0,0)).2.1 (v.ps.getD i (0,0,0)).2.2=0 then (if btw 0 (v.ps.getD i (0,0,0)).1 100 then 0 else 2) else gR v.F (v.ps.getD i (0,0,0)).2.1 (v.ps.getD i (0,0,0)).2.2
def Va.A (v:Va):Int:=2^v.F.toNat-1
def sE (v:Va):Int:=if btw 0 v.sick v.A&&(btw 0 v.nur v.A&&btw 0 v.fix v.A) then 0 else 2
def bsE (v:Va):Int:=if 60<v.bs.length then 1 else bM (bE v) v.bs.length
def psE (v:Va):Int:=if 20<v.ps.length then 1 else bM (pE v) v.ps.length
def vE (v:Va):Int:=if btw 1 v.F 16 then (if bsE v=0 then (if psE v=0 then sE v else psE v) else bsE v) else 2
theorem xW {n:Int} (h:n≠0):(n=0)=False:=eq_false h
theorem aR {α:Type} {l:List α} {i:Nat} {x d:α} (h:l[i]?=some x):l.getD i d=x:=by rw[List.getD_eq_getElem?_getD,h];rfl
abbrev bx (v:Va):XH:=[some (.blk true (.cells true v.c))]
theorem vX (v:Va) (hF:1≤v.F∧v.F≤16) (hb:v.bs.length<1000000000) {i:Nat} (hi:i<v.bs.length) (h0:bE v i=0) :
 aU 0 [1,22,23,24] (execW aA 23 0 none (match qI with | .loop _ a=>a|c=>c) (aQ [1,22,23,24] [.pt 0 0,rB v.bs,I v.bs.length,I (i:Nat)]) (bx v))=some ([.pt 0 0,rB v.bs,I v.bs.length,I (i+1:Nat)],bx v):=by
 obtain⟨x,hx⟩:=aW hi
 have a1:=cZ hi
 have a2:=fI hi (by omega)
 have e:=w53 v hF x.1 x.2
 have e0:gR v.F x.1 x.2=0:=by unfold bE at h0;rw[aR hx]at h0;exact h0
 rw[e0]at e
 unfold qI
 dsimp only
 (sym=>(simp[Za,Zb,Zc,Zf,Zg,Zh,Zj,Zl,Zm,Zv,Zw,Z3,Z9,ZA,ZG,ZK,ZL,ZO,ZP,ZT,ZU,Yg,Yh,Yj,Yr,Ys,Yw,Yx,Y8,YA,YD,YO,YX,YZ,Xb,Xd,Xi,Xr,Xt,Xv,Xx,Ws,W3,W4,W5,W6,W7,W8,W9,WA,WC,WE,WH,WI,WK,WL,WM,WN,WO,WP,WQ,WR,WS,WT,WU,WV,WY,WZ,Vf,Vi,Vj,Vk,Vv,Vx,Vy,V0,V1,V3,VQ,VR,VS,VT,VU,VV,VZ,Ua,Ub,Uc,Ud,Uf,Ug,Uh,Ui,Uj,Uk,Um,Uq,Uu,Ux,Uy,U2,U3,U4,U5,U6,U7,U8,UF,Tf,Tg,Th,Ti,Tj,Tk,Tl,Tm,Tt,Tu,Tw,Ty,Tz,T2,T5,T6,T7,TK,SE,SF,SG,SJ,SK,SL,a1,a2,hx,e];all_goals tactic=>exact rfl))
theorem aIQ (v:Va) (hF:1≤v.F∧v.F≤16) {i:Nat} (hi:i<v.bs.length) (h0:bE v i≠0):∃ e h,
 execW aA 23 0 none (match qI with | .loop _ a=>a|c=>c) (aQ [1,22,23,24] [.pt 0 0,rB v.bs,I v.bs.length,I (i:Nat)]) (bx v)=some (.ret,e,h)∧bD none x23.res x23.ownR 0 (some (.ret,e,h))=some (I (bE v i),[]):=by
 obtain⟨x,hx⟩:=aW hi
 have a1:=cZ hi
 have e:=w53 v hF x.1 x.2
 have e0:gR v.F x.1 x.2=bE v i:=by unfold bE;rw[aR hx]
 have n0:=xW h0
 rw[e0]at e
 refine bV ?_ ?_
 ·unfold qI
  dsimp only
  (sym=>(simp[Za,Zb,Zc,Zf,Zg,Zh,Zj,Zl,Zm,Zv,Zw,Z3,Z9,ZA,ZG,ZK,ZL,ZO,ZP,ZT,ZU,Yg,Yh,Yr,Ys,Yw,Yx,Y8,YA,YD,YO,YX,YZ,Xb,Xi,Xr,Xt,Xv,Ws,W3,W4,W5,W6,W7,W8,W9,WA,WC,WK,WN,WP,WU,WV,Vi,Vj,Vk,Vv,Vx,Vy,V0,V1,V3,VQ,VT,VU,VX,VZ,Ua,Ub,Uc,Ud,Ug,Uh,Ui,Uj,Uk,Um,Ur,Uu,Uy,Uz,U2,U3,U4,U5,U6,U7,U8,UF,Tf,Tg,Th,Ti,Tj,Tk,Tl,Tm,Tt,Tu,Tv,Tw,Ty,Tz,T1,T3,T6,T7,SE,SF,SG,SJ,SK,SL,a1,hx,e,n0];all_goals tactic=>exact rfl))
 ·unfold qI
  dsimp only
  (sym=>(simp[Za,Zb,Zc,Zf,Zg,Zh,Zj,Zl,Zm,Zv,Zw,Z3,Z9,ZA,ZG,ZK,ZL,ZO,ZP,ZT,ZU,Yg,Yh,Yr,Ys,Yw,Yx,Y8,YA,YD,YO,YX,YZ,Xb,Xi,Xr,Xt,Xv,Ws,W3,W4,W5,W6,W7,W8,W9,WA,WC,WK,WN,WP,WU,WV,Vi,Vj,Vk,Vv,Vx,Vy,V0,V1,V3,V9,VF,VQ,VT,VU,VZ,Ua,Ub,Uc,Ud,Ug,Uh,Ui,Uj,Uk,Um,Ur,Uu,Uy,Uz,U2,U3,U4,U5,U6,U7,U8,UF,Tf,Tg,Th,Ti,Tj,Tk,Tl,Tm,Tt,Tu,Tv,Tw,Ty,Tz,T1,T3,T6,T7,SE,SF,SG,SJ,SK,SL,a1,hx,e,n0];all_goals tactic=>exact rfl))
theorem lD (v:Va) {i:Nat} {p:Int×Int×Int} (hp:v.ps[i]?=some p):(gR v.F p.2.1 p.2.2≠0∧pE v i=gR v.F p.2.1 p.2.2)∨(gR v.F p.2.1 p.2.2=0∧btw 0 p.1 100=true∧pE v i=0)∨(gR v.F p.2.1 p.2.2=0∧btw 0 p.1 100=false∧pE v i=2):=by
 unfold pE
 rw[aR hp]
 by_cases h:gR v.F p.2.1 p.2.2=0
 ·cases h2:btw 0 p.1 100<;>simp[h]
 ·simp[h]
theorem aAU (v:Va) (hF:1≤v.F∧v.F≤16) (hb:v.ps.length<1000000000) {i:Nat} (hi:i<v.ps.length) (h0:pE v i=0) :
 aU 0 [1,43,44,45] (execW aA 23 0 none (match oX with | .loop _ a=>a|c=>c) (aQ [1,43,44,45] [.pt 0 0,rP v.ps,I v.ps.length,I (i:Nat)]) (bx v))=some ([.pt 0 0,rP v.ps,I v.ps.length,I (i+1:Nat)],bx v):=by
 obtain⟨x,hx⟩:=aW hi
 have a1:=cZ hi
 have a2:=fI hi (by omega)
 have e:=w53 v hF x.2.1 x.2.2
 have e2:=w45 0 x.1 100
 rcases lD v hx with ⟨h1,h2⟩|⟨h1,h2,_⟩|⟨h1,h2,h3⟩
 ·exact absurd (h2.symm.trans h0) h1
 ·rw[h1]at e
  rw[h2]at e2
  unfold oX
  dsimp only
  (sym=>(simp[Za,Zb,Zc,Zf,Zg,Zh,Zj,Zl,Zm,Zv,Zw,Z3,Z5,Z8,ZA,ZG,ZK,ZL,ZO,ZP,ZT,ZU,ZX,Ya,Yg,Yh,Yj,Yr,Ys,Yw,Yx,YX,YZ,Xb,Xd,Xi,Xr,Xs,Xt,Xv,Xx,Ws,W3,W4,W5,W6,W7,W8,W9,WA,WC,WE,WH,WI,WK,WL,WM,WN,WO,WP,WQ,WR,WS,WT,WU,WV,WY,WZ,Vf,Vi,Vj,Vk,Vv,Vx,Vy,V0,V1,V3,VQ,VR,VS,VT,VU,VV,VZ,Ua,Ub,Uc,Ud,Uf,Ug,Uh,Ui,Uj,Uk,Um,Uq,Uu,Ux,Uy,U2,U3,U4,U5,U6,U7,U8,UF,Tf,Tg,Th,Ti,Tj,Tk,Tl,Tm,Tt,Tu,Tw,Ty,Tz,T2,T5,T6,T7,TK,SE,SF,SG,SJ,SK,SL,a1,a2,hx,e,e2];all_goals tactic=>exact rfl))
 ·rw[h0]at h3;simp at h3
theorem aIP (v:Va) (hF:1≤v.F∧v.F≤16) {i:Nat} (hi:i<v.ps.length) (h0:pE v i≠0):∃ e h,
 execW aA 23 0 none (match oX with | .loop _ a=>a|c=>c) (aQ [1,43,44,45] [.pt 0 0,rP v.ps,I v.ps.length,I (i:Nat)]) (bx v)=some (.ret,e,h)∧bD none x23.res x23.ownR 0 (some (.ret,e,h))=some (I (pE v i),[]):=by
 obtain⟨x,hx⟩:=aW hi
 have a1:=cZ hi
 have e:=w53 v hF x.2.1 x.2.2
 have e2:=w45 0 x.1 100
 rcases lD v hx with ⟨h1,h2⟩|⟨h1,h2,h3⟩|⟨h1,h2,h3⟩
 ·have n0:=xW h1
  rw[h2]
  generalize gR v.F x.2.1 x.2.2=er at *
  refine bV ?_ ?_
  ·unfold oX
   dsimp only
   (sym=>(simp[Za,Zb,Zc,Zf,Zg,Zh,Zj,Zl,Zm,Zv,Zw,Z3,Z8,ZA,ZG,ZK,ZL,ZO,ZP,ZT,ZU,Ya,Yg,Yh,Yr,Ys,Yw,Yx,YX,YZ,Xb,Xi,Xr,Xt,Xv,Ws,W3,W4,W5,W6,W7,W8,W9,WA,WC,WK,WN,WP,WU,WV,Vi,Vj,Vk,Vv,Vx,Vy,V0,V1,V3,VQ,VT,VU,VX,VZ,Ua,Ub,Uc,Ud,Ug,Uh,Ui,Uj,Uk,Um,Ur,Uu,Uy,Uz,U2,U3,U4,U5,U6,U7,U8,UF,Tf,Tg,Th,Ti,Tj,Tk,Tl,Tm,Tt,Tu,Tv,Tw,Ty,Tz,T1,T3,T6,T7,SE,SF,SG,SJ,SK,SL,a1,hx,e,n0];all_goals tactic=>exact rfl))
  ·unfold oX
   dsimp only
   (sym=>(simp[Za,Zb,Zc,Zf,Zg,Zh,Zj,Zl,Zm,Zv,Zw,Z3,Z8,ZA,ZG,ZK,ZL,ZO,ZP,ZT,ZU,Ya,Yg,Yh,Yr,Ys,Yw,Yx,YX,YZ,Xb,Xi,Xr,Xt,Xv,Ws,W3,W4,W5,W6,W7,W8,W9,WA,WC,WK,WN,WP,WU,WV,Vi,Vj,Vk,Vv,Vx,Vy,V0,V1,V3,V9,VF,VQ,VT,VU,VZ,Ua,Ub,Uc,Ud,Ug,Uh,Ui,Uj,Uk,Um,Ur,Uu,Uy,Uz,U2,U3,U4,U5,U6,U7,U8,UF,Tf,Tg,Th,Ti,Tj,Tk,Tl,Tm,Tt,Tu,Tv,Tw,Ty,Tz,T1,T3,T6,T7,SE,SF,SG,SJ,SK,SL,a1,hx,e,n0];all_goals tactic=>exact rfl))
 ·exact absurd h3 h0
 ·rw[h1]at e
  rw[h2]at e2
  rw[h3]
  refine bV ?_ ?_
  ·unfold oX
   dsimp only
   (sym=>(simp[Za,Zb,Zc,Zf,Zg,Zh,Zj,Zl,Zm,Zv,Zw,Z3,Z5,Z8,ZA,ZG,ZK,ZL,ZO,ZP,ZT,ZU,ZX,Ya,Yg,Yh,Yr,Ys,Yw,Yx,YX,YZ,Xb,Xi,Xr,Xs,Xt,Xv,Ws,W3,W4,W5,W6,W7,W8,W9,WA,WC,WK,WN,WP,WU,WV,Vi,Vj,Vk,Vv,Vx,Vy,V0,V1,V3,VQ,VT,VU,VV,VX,VZ,Ua,Ub,Uc,Ud,Ug,Uh,Ui,Uj,Uk,Um,Uq,Ur,Uu,Uy,U2,U3,U4,U5,U6,U7,U8,UF,Tf,Tg,Th,Ti,Tj,Tk,Tl,Tm,Tt,Tu,Tv,Tw,Ty,Tz,T1,T3,T6,T7,SE,SF,SG,SJ,SK,SL,a1,hx,e,e2];all_goals tactic=>exact rfl))
  ·unfold oX
   dsimp only
   (sym=>(simp[Za,Zb,Zc,Zf,Zg,Zh,Zj,Zl,Zm,Zv,Zw,Z3,Z5,Z8,ZA,ZG,ZK,ZL,ZO,ZP,ZT,ZU,ZX,Ya,Yg,Yh,Yr,Ys,Yw,Yx,YX,YZ,Xb,Xi,Xr,Xs,Xt,Xv,Ws,W3,W4,W5,W6,W7,W8,W9,WA,WC,WK,WN,WP,WU,WV,Vi,Vj,Vk,Vv,Vx,Vy,V0,V1,V3,V9,VF,VQ,VT,VU,VV,VZ,Ua,Ub,Uc,Ud,Ug,Uh,Ui,Uj,Uk,Um,Uq,Ur,Uu,Uy,U2,U3,U4,U5,U6,U7,U8,UF,Tf,Tg,Th,Ti,Tj,Tk,Tl,Tm,Tt,Tu,Tv,Tw,Ty,Tz,T1,T3,T6,T7,SE,SF,SG,SJ,SK,SL,a1,hx,e,e2];all_goals tactic=>exact rfl))
theorem aKV (v:Va) (hF:1≤v.F∧v.F≤16):IntKind.i64.wrap (1*2^min v.F.toNat IntKind.i64.bits)=2^v.F.toNat∧IntKind.i64.wrap (2^v.F.toNat-1)=v.A∧0<v.A∧v.A<65536:=by
 obtain⟨f,hf⟩:∃ f:Nat,v.F=f:=⟨v.F.toNat,by omega⟩
 unfold Va.A
 rw[hf]at hF ⊢
 simp only[Int.toNat_natCast]
 have h1:=lP bX (i:=f) (by omega)
 have h2:(2:Nat)^f≤2^16:=Nat.pow_le_pow_right (by omega) (by omega)
 have h3:(2:Nat)^1≤2^f:=Nat.pow_le_pow_right (by omega) (by omega)
 have e:(2:Int)^f=((2^f:Nat):Int):=by norm_cast
 rw[h1,e]
 exact⟨rfl,aE (by omega) (by omega),by omega,by omega⟩
theorem vU (v:Va):(btw 0 v.sick v.A=false∧sE v=2)∨(btw 0 v.sick v.A=true∧btw 0 v.nur v.A=false∧sE v=2)∨(btw 0 v.sick v.A=true∧btw 0 v.nur v.A=true∧btw 0 v.fix v.A=false∧sE v=2) ∨
 (btw 0 v.sick v.A=true∧btw 0 v.nur v.A=true∧btw 0 v.fix v.A=true∧sE v=0):=by
 unfold sE
 cases btw 0 v.sick v.A<;>cases btw 0 v.nur v.A<;>cases btw 0 v.fix v.A<;>simp
abbrev bx3 (v:Va):XH:=[some (.blk true (.cells true v.c)),some (.blk true (.cells true [I v.sick,I v.nur,I v.fix]))]
theorem aFU (v:Va) (hF:1≤v.F∧v.F≤16) {i:Nat} {s:Int} (hs:(i=0∧s=v.sick)∨(i=1∧s=v.nur)∨(i=2∧s=v.fix)) (h0:btw 0 s v.A=true) :
 aU 0 [1,69,70,71] (execW aA 23 0 none (match vM with | .loop _ a=>a|c=>c) (aQ [1,69,70,71] [.pt 0 0,.sl 1 0 1 3,I 3,I (i:Nat)]) (bx3 v))=some ([.pt 0 0,.sl 1 0 1 3,I 3,I (i+1:Nat)],bx3 v):=by
 obtain⟨u1,u2,_,_⟩:=aKV v hF
 have e:=w45 0 s v.A
 have n0:(v.F<0)=False:=eq_false (by omega)
 rw[h0]at e
 rcases hs with ⟨rfl,rfl⟩|⟨rfl,rfl⟩|⟨rfl,rfl⟩
 all_goals
  unfold vM
  dsimp only
  (sym=>(simp[Za,Zb,Zf,Zg,Zh,Zj,Zl,Zm,Zv,Z3,Z5,Z8,ZA,ZG,ZO,ZP,ZT,ZU,ZX,Ya,Yf,Yj,Yk,Yo,Ys,Yz,Y0,Y1,Y8,Y9,YA,YB,YC,YD,YF,YX,Xc,Xd,Xr,Xs,Xw,Xx,XJ,We,W3,W4,W5,WA,WC,WE,WF,WH,WI,WK,WL,WM,WN,WO,WP,WQ,WR,WS,WT,WU,WV,WY,WZ,Vf,Vi,Vj,Vk,Vv,Vx,Vy,Vz,VQ,VR,VS,VT,VU,VV,VZ,Ua,Ub,Uc,Ud,Uf,Ug,Uh,Uk,Uq,Uu,Ux,Uy,U2,U3,U4,U5,U6,Tf,Tg,Tk,Tt,Tu,Tw,Ty,Tz,T2,T5,T6,T7,TK,Sw,SE,SF,SI,SJ,SK,SL,u1,u2,e,n0];all_goals tactic=>exact rfl))
theorem aIO (v:Va) (hF:1≤v.F∧v.F≤16) {i:Nat} {s:Int} (hs:(i=0∧s=v.sick)∨(i=1∧s=v.nur)∨(i=2∧s=v.fix)) (h0:btw 0 s v.A=false):∃ e h,
 execW aA 23 0 none (match vM with | .loop _ a=>a|c=>c) (aQ [1,69,70,71] [.pt 0 0,.sl 1 0 1 3,I 3,I (i:Nat)]) (bx3 v)=some (.ret,e,h)∧bD none x23.res x23.ownR 0 (some (.ret,e,h))=some (I 2,[]):=by
 obtain⟨u1,u2,_,_⟩:=aKV v hF
 have e:=w45 0 s v.A
 have n0:(v.F<0)=False:=eq_false (by omega)
 rw[h0]at e
 rcases hs with ⟨rfl,rfl⟩|⟨rfl,rfl⟩|⟨rfl,rfl⟩
 all_goals
  refine bV ?_ ?_
  ·unfold vM
   dsimp only
   (sym=>(simp[Za,Zb,Zf,Zg,Zh,Zj,Zl,Zm,Zv,Z3,Z5,Z8,ZA,ZG,ZO,ZP,ZT,ZU,ZX,Ya,Yf,Yk,Yo,Ys,Y8,Y9,YA,YB,YC,YD,YF,YX,Xr,Xs,XJ,We,W3,W4,W5,WA,WC,WK,WN,WP,WU,WV,Vi,Vj,Vk,Vv,Vx,Vy,Vz,VQ,VT,VU,VX,VZ,Ua,Uc,Ud,Ug,Uh,Ur,Uu,Uy,U2,U3,U4,U5,U6,Tf,Tg,Tk,Tt,Tu,Tv,Tw,Ty,Tz,T1,T3,T6,T7,Sw,SE,SF,SI,SJ,SK,SL,u1,u2,e,n0];all_goals tactic=>exact rfl))
  ·unfold vM
   dsimp only
   (sym=>(simp[Za,Zb,Zf,Zg,Zh,Zj,Zl,Zm,Zv,Z3,Z5,Z8,ZA,ZG,ZO,ZP,ZT,ZU,ZX,Ya,Yf,Yk,Yo,Ys,Y8,Y9,YA,YB,YC,YD,YF,YX,Xr,Xs,XJ,We,W3,W4,W5,WA,WC,WK,WN,WP,WU,WV,Vi,Vj,Vk,Vv,Vx,Vy,Vz,V9,VF,VQ,VT,VU,VZ,Ua,Uc,Ud,Ug,Uh,Ur,Uu,Uy,U2,U3,U4,U5,U6,Tf,Tg,Tk,Tt,Tu,Tv,Tw,Ty,Tz,T1,T3,T6,T7,Sw,SE,SF,SI,SJ,SK,SL,u1,u2,e,n0];all_goals tactic=>exact rfl))
theorem w23 (v:Va) (hb:v.bs.length<1000000000) (hp:v.ps.length<1000000000):runW aA 23 [.agg v.c] []=some (I (vE v),[]):=by
 have e0:=w45 1 v.F 16
 rw[r23 (by simp)];unfold x23;dsimp only
 unfold vE
 cases hF:btw 1 v.F 16
 ·rw[hF]at e0
  rw[if_neg (by simp)]
  (sym=>(simp[Za,Zb,Zf,Zg,Zh,Zj,Zl,Zm,Zo,Zv,Zz,Z5,Z8,ZG,ZO,ZP,ZT,ZU,ZX,Ya,YX,Xi,Xk,Xl,Xr,Xs,XJ,We,Wg,Wi,Ws,W3,W4,W5,WA,WB,WC,WK,WN,WO,WP,WQ,WR,WS,WU,WV,Vi,Vj,Vk,Vv,Vx,Vy,V0,V1,V3,V9,VA,VC,VD,VE,VF,VG,VJ,VK,VL,VM,VO,VT,VU,VY,VZ,Ua,Uc,Ud,Uf,Ug,Uh,Um,Ur,U2,U3,U4,U5,U6,U7,U8,UD,UE,US,UT,Tf,Tg,Tk,Tn,Tu,Tv,Ty,Tz,T1,T3,T6,T7,Sw,SE,SF,SG,SJ,SK,SL,e0];all_goals tactic=>exact rfl))
 ·rw[hF]at e0
  rw[if_pos rfl]
  have hF':=oU.1 hF
  unfold bsE
  by_cases h60:60<v.bs.length
  ·rw[if_pos h60,if_neg (by decide)]
   have c60:((60:Int)<(v.bs.length:Int))=True:=eq_true (by omega)
   (sym=>(simp[Za,Zb,Zf,Zg,Zh,Zj,Zl,Zm,Zo,Zv,Zz,Z3,Z5,Z8,ZF,ZG,ZO,ZP,ZT,ZU,ZX,Ya,Yc,Yu,YX,Xi,Xk,Xl,Xr,Xs,XJ,We,Wg,Wi,Ws,W3,W4,W5,WA,WB,WC,WK,WN,WO,WP,WQ,WR,WS,WU,WV,Vi,Vj,Vk,Vv,Vx,Vy,V0,V1,V3,V9,VA,VC,VD,VE,VF,VG,VJ,VK,VL,VM,VO,VT,VU,VV,VZ,Ua,Uc,Ud,Uf,Ug,Uh,Ui,Um,Uq,Uy,U2,U3,U4,U5,U6,U7,U8,UD,UE,US,UT,Tf,Tg,Tk,Tn,Tt,Tu,Tv,Ty,Tz,T1,T3,T6,T7,Sw,SE,SF,SG,SJ,SK,SL,e0,c60];all_goals tactic=>exact rfl))
  ·rw[if_neg h60]
   have g60:((60:Int)<(v.bs.length:Int))=False:=eq_false (by omega)
   have z:=Te (n:=(v.bs.length:Int))
   obtain⟨m,m1,m2,m3⟩:=cO (bE v) v.bs.length
   rcases m3 with ⟨rfl,e⟩|⟨m3,m4,e⟩
   ·rw[e, if_pos rfl]
    unfold psE
    by_cases h20:20<v.ps.length
    ·rw[if_pos h20,if_neg (by decide)]
     have c20:((20:Int)<(v.ps.length:Int))=True:=eq_true (by omega)
     sym =>
      simp[Za,Zb,Zf,Zg,Zh,Zj,Zl,Zm,Zo,Zv,Zz,Z3,Z5,Z8,ZF,ZG,ZO,ZP,ZT,ZU,ZX,Ya,Yc,Yu,YX,Xi,Xk,Xl,Xr,Xs,We,Wg,Wi,Ws,W3,W4,W5,WA,WB,WC,WK,WN,WP,WU,WV,Vi,Vj,Vk,Vv,Vx,Vy,V0,V1,V3,VO,VT,VV,VZ,Ua,Uc,Ud,Ug,Uh,Ui,Um,Uq,Uz,U2,U3,U4,U5,U6,U7,U8,UD,UE,US,UT,Tf,Tg,Tk,Tn,Tt,Tu,Tw,Ty,Tz,T2,T6,T7,SE,SF,SG,SJ,SK,SL,e0,g60]
      tactic =>
       unfold qI
       rw[aC v.bs.length (fun i=>[.pt 0 0,rB v.bs,I v.bs.length,I (i:Nat)]) (fun _=>bx v)]
       ·(sym=>(simp[Za,Zb,Zf,Zh,Zl,Zm,Zv,Z3,Z8,ZF,ZG,Ya,Yc,Ys,Yu,YX,Xr,XJ,We,W3,W4,W5,WC,WK,WO,WQ,WR,WS,Vv,V9,VA,VC,VD,VE,VF,VG,VJ,VK,VL,VM,VQ,VT,VU,VV,Ua,Ud,Uf,Ui,Uy,Uz,U3,U4,Te,Tf,Tg,Tk,Tt,Tu,Tv,Tx,Tz,T0,T1,T4,T6,T7,Sw,z,c20];all_goals tactic=>exact rfl))
       ·(sym=>(simp[Za,Y9,YX,Xb,Xd,Xr,Xv,Xx,W3,WE,WH,WI,WK,WL,WM,WO,WQ,WR,WS,WT,WY,WZ,Vf,VR,VS,VZ,Ua,Uc,Ud,Uf,Uk,Ux,U3,U4,U5,U6,T5,TK];all_goals tactic=>exact rfl))
       ·exact fun i hi=>vX v hF' hb hi (m2 i hi)
       ·(sym=>(simp[Za,Zb,Zf,Zh,Zl,Zm,Z3,Ys,VQ,VT,VV,VW,Uz,Te,Tt,Tu,Tx,Tz,T0,T6,z];all_goals tactic=>exact rfl))
    ·rw[if_neg h20]
     have g20:((20:Int)<(v.ps.length:Int))=False:=eq_false (by omega)
     have z2:=Te (n:=(v.ps.length:Int))
     obtain⟨k,k1,k2,k3⟩:=cO (pE v) v.ps.length
     sym =>
      simp[Za,Zb,Zf,Zg,Zh,Zj,Zl,Zm,Zo,Zv,Zz,Z3,Z5,Z8,ZF,ZG,ZO,ZP,ZT,ZU,ZX,Ya,Yc,Yu,YX,Xi,Xk,Xl,Xr,Xs,We,Wg,Wi,Ws,W3,W4,W5,WA,WB,WC,WK,WN,WP,WU,WV,Vi,Vj,Vk,Vv,Vx,Vy,V0,V1,V3,VO,VT,VV,VY,VZ,Ua,Uc,Ud,Ug,Uh,Ui,Um,Uq,Uz,U2,U3,U4,U5,U6,U7,U8,UD,UE,US,UT,Tf,Tg,Tk,Tn,Tt,Tu,Tw,Ty,Tz,T2,T6,T7,SE,SF,SG,SJ,SK,SL,e0,g60]
      tactic =>
       unfold qI
       rw[aC v.bs.length (fun i=>[.pt 0 0,rB v.bs,I v.bs.length,I (i:Nat)]) (fun _=>bx v)]
       ·sym =>
        simp[Za,Zb,Zf,Zh,Zl,Zm,Zv,Z3,Z8,ZF,ZG,Ya,Yc,Ys,Yu,W3,W4,W5,WC,VQ,VT,VV,Ui,Uz,Te,Tf,Tg,Tk,Tt,Tu,Tw,Tx,Ty,Tz,T0,T4,T6,T7,z,g20]
        tactic =>
         rcases k3 with ⟨rfl,e3⟩|⟨k3,k4,e3⟩
         ·rw[e3, if_pos rfl]
          unfold oX
          rw[aC v.ps.length (fun i=>[.pt 0 0,rP v.ps,I v.ps.length,I (i:Nat)]) (fun _=>bx v)]
          ·sym =>
           simp[Za,Zb,Zd,Ze,Zf,Zg,Zh,Zj,Zl,Zm,Zo,Zv,Z1,Z3,Z8,ZF,ZG,Ya,Ye,Ys,YF,Xi,Wq,W3,W4,W5,W7,W9,WA,WC,Vv,Vx,Vy,V0,V1,V3,VQ,VT,VV,VZ,Ua,Ub,Uc,Ud,Ug,Uh,Um,Uu,Uz,U0,U1,U7,U8,UF,UG,UH,UI,UU,UV,UW,UX,Te,Tf,Tg,Tk,Tn,Tt,Tu,Tx,Ty,Tz,T0,T4,T6,T7,TR,SE,SF,SG,SJ,SK,SL,z2]
           tactic =>
            have lf:=fun i s hs h0=>aIO v hF' (i:=i) (s:=s) hs h0
            have rd:=fun i s hs h0=>aFU v hF' (i:=i) (s:=s) hs h0
            unfold vM at lf rd ⊢
            dsimp only at lf rd
            rcases vU v with ⟨h1,h⟩|⟨h1,h2,h⟩|⟨h1,h2,h3,h⟩|⟨h1,h2,h3,h⟩
            ·rw[h]
             obtain⟨eo,ho,q1,q2⟩:=lf 0 v.sick (by simp) h1
             rw[aC 0 (fun i=>[.pt 0 0,.sl 1 0 1 3,I 3,I (i:Nat)]) (fun _=>bx3 v)]
             ·rw[q1];exact q2
             ·(sym=>(simp[Za,Y9,YX,Xc,Xd,Xr,Xw,Xx,W3,WE,WF,WH,WI,WK,WL,WM,WO,WQ,WR,WS,WT,WY,WZ,Vf,VQ,VR,VS,VZ,Ua,Ub,Uc,Ud,Uf,Uk,Ux,U3,U4,U5,U6,T5,TK];all_goals tactic=>exact rfl))
             ·intro i hi;omega
             ·rw[q1];rfl
            ·rw[h]
             obtain⟨eo,ho,q1,q2⟩:=lf 1 v.nur (by simp) h2
             rw[aC 1 (fun i=>[.pt 0 0,.sl 1 0 1 3,I 3,I (i:Nat)]) (fun _=>bx3 v)]
             ·rw[q1];exact q2
             ·(sym=>(simp[Za,Y9,YX,Xc,Xd,Xr,Xw,Xx,W3,WE,WF,WH,WI,WK,WL,WM,WO,WQ,WR,WS,WT,WY,WZ,Vf,VQ,VR,VS,VZ,Ua,Ub,Uc,Ud,Uf,Uk,Ux,U3,U4,U5,U6,T5,TK];all_goals tactic=>exact rfl))
             ·intro i hi
              obtain rfl:i=0:=by omega
              exact rd 0 v.sick (by simp) h1
             ·rw[q1];rfl
            ·rw[h]
             obtain⟨eo,ho,q1,q2⟩:=lf 2 v.fix (by simp) h3
             rw[aC 2 (fun i=>[.pt 0 0,.sl 1 0 1 3,I 3,I (i:Nat)]) (fun _=>bx3 v)]
             ·rw[q1];exact q2
             ·(sym=>(simp[Za,Y9,YX,Xc,Xd,Xr,Xw,Xx,W3,WE,WF,WH,WI,WK,WL,WM,WO,WQ,WR,WS,WT,WY,WZ,Vf,VQ,VR,VS,VZ,Ua,Ub,Uc,Ud,Uf,Uk,Ux,U3,U4,U5,U6,T5,TK];all_goals tactic=>exact rfl))
             ·intro i hi
              have:i=0∨i=1:=by omega
              rcases this with rfl|rfl
              ·exact rd 0 v.sick (by simp) h1
              ·exact rd 1 v.nur (by simp) h2
             ·rw[q1];rfl
            ·rw[h]
             rw[aC 3 (fun i=>[.pt 0 0,.sl 1 0 1 3,I 3,I (i:Nat)]) (fun _=>bx3 v)]
             ·(sym=>(simp[Za,Zb,Zf,Zh,Zl,Zm,Zv,Z3,Ys,YF,YX,Xr,XJ,We,WK,WO,WQ,WR,WS,Vv,V9,VA,VC,VD,VE,VF,VG,VJ,VK,VL,VM,VQ,VT,VV,Ua,Ud,Uf,Uz,U3,U4,Tt,Tu,Tv,Tx,Tz,T0,T4,T6,T7,Sw];all_goals tactic=>exact rfl))
             ·(sym=>(simp[Za,Y9,YX,Xc,Xd,Xr,Xw,Xx,W3,WE,WF,WH,WI,WK,WL,WM,WO,WQ,WR,WS,WT,WY,WZ,Vf,VQ,VR,VS,VZ,Ua,Ub,Uc,Ud,Uf,Uk,Ux,U3,U4,U5,U6,T5,TK];all_goals tactic=>exact rfl))
             ·intro i hi
              have:i=0∨i=1∨i=2:=by omega
              rcases this with rfl|rfl|rfl
              ·exact rd 0 v.sick (by simp) h1
              ·exact rd 1 v.nur (by simp) h2
              ·exact rd 2 v.fix (by simp) h3
             ·(sym=>(simp[Za,Zb,Zf,Zh,Zl,Zm,Z3,Ys,YF,VQ,VT,VV,VW,Uz,Tt,Tu,Tx,Tz,T0,T6];all_goals tactic=>exact rfl))
          ·(sym=>(simp[Za,Y9,YX,Xb,Xd,Xr,Xv,Xx,W3,WE,WH,WI,WK,WL,WM,WO,WQ,WR,WS,WT,WY,WZ,Vf,VQ,VR,VS,VZ,Ua,Uc,Ud,Uf,Uk,Ux,U3,U4,U5,U6,T5,TK];all_goals tactic=>exact rfl))
          ·exact fun i hi=>aAU v hF' hp hi (k2 i hi)
          ·(sym=>(simp[Za,Zb,Zf,Zh,Zl,Zm,Z3,Ys,VQ,VT,VV,VW,Uz,Te,Tt,Tu,Tx,Tz,T0,T6,z2];all_goals tactic=>exact rfl))
         ·rw[e3,if_neg k4]
          obtain⟨eo,ho,q1,q2⟩:=aIP v hF' k3 k4
          unfold oX at q1 ⊢
          rw[aC k (fun i=>[.pt 0 0,rP v.ps,I v.ps.length,I (i:Nat)]) (fun _=>bx v)]
          ·dsimp only at q1;rw[q1];exact q2
          ·(sym=>(simp[Za,Y9,YX,Xb,Xd,Xr,Xv,Xx,W3,WE,WH,WI,WK,WL,WM,WO,WQ,WR,WS,WT,WY,WZ,Vf,VQ,VR,VS,VZ,Ua,Uc,Ud,Uf,Uk,Ux,U3,U4,U5,U6,T5,TK];all_goals tactic=>exact rfl))
          ·exact fun i hi=>aAU v hF' hp (by omega) (k2 i hi)
          ·dsimp only at q1;rw[q1];rfl
       ·(sym=>(simp[Za,Y9,YX,Xb,Xd,Xr,Xv,Xx,W3,WE,WH,WI,WK,WL,WM,WO,WQ,WR,WS,WT,WY,WZ,Vf,VR,VS,VZ,Ua,Uc,Ud,Uf,Uk,Ux,U3,U4,U5,U6,T5,TK];all_goals tactic=>exact rfl))
       ·exact fun i hi=>vX v hF' hb hi (m2 i hi)
       ·(sym=>(simp[Za,Zb,Zf,Zh,Zl,Zm,Z3,Ys,VQ,VT,VV,VW,Uz,Te,Tt,Tu,Tx,Tz,T0,T6,z];all_goals tactic=>exact rfl))
   ·rw[e,if_neg m4]
    obtain⟨eo,ho,q1,q2⟩:=aIQ v hF' m3 m4
    sym =>
     simp[Za,Zb,Zf,Zg,Zh,Zj,Zl,Zm,Zo,Zv,Zz,Z3,Z5,Z8,ZF,ZG,ZO,ZP,ZT,ZU,ZX,Ya,Yc,Yu,YX,Xi,Xk,Xl,Xr,Xs,We,Wg,Wi,Ws,W3,W4,W5,WA,WB,WC,WK,WN,WP,WU,WV,Vi,Vj,Vk,Vv,Vx,Vy,V0,V1,V3,VO,VT,VV,VY,VZ,Ua,Uc,Ud,Ug,Uh,Ui,Um,Uq,Uz,U2,U3,U4,U5,U6,U7,U8,UD,UE,US,UT,Tf,Tg,Tk,Tn,Tt,Tu,Tw,Ty,Tz,T2,T6,T7,SE,SF,SG,SJ,SK,SL,e0,g60]
     tactic =>
      unfold qI at q1 ⊢
      rw[aC m (fun i=>[.pt 0 0,rB v.bs,I v.bs.length,I (i:Nat)]) (fun _=>bx v)]
      ·dsimp only at q1;rw[q1];exact q2
      ·(sym=>(simp[Za,Y9,YX,Xb,Xd,Xr,Xv,Xx,W3,WE,WH,WI,WK,WL,WM,WO,WQ,WR,WS,WT,WY,WZ,Vf,VR,VS,VZ,Ua,Uc,Ud,Uf,Uk,Ux,U3,U4,U5,U6,T5,TK];all_goals tactic=>exact rfl))
      ·exact fun i hi=>vX v hF' hb (by omega) (m2 i hi)
      ·dsimp only at q1;rw[q1];rfl
theorem u_F (v:Va) (hF:1≤v.F∧v.F≤16):IntKind.i64.wrap (v.F-1)=v.F-1:=aE (by omega) (by omega)
theorem vW (v:Va) (hF:1≤v.F∧v.F≤16) (hb:v.bs.length<1000000000) {i:Nat} (hi:i<v.bs.length) (h0:bE v i=0) :
 aU 0 [1,3] (execW aA 24 0 none (match kW with | .loop _ a=>a|c=>c) (aQ [1,3] [.pt 0 0,I (i:Nat)]) (bx v))=some ([.pt 0 0,I (i+1:Nat)],bx v):=by
 obtain⟨x,hx⟩:=aW hi
 have a1:=cZ hi
 have a2:=fI hi (by omega)
 have u:=u_F v hF
 have e1:=w47 0 x.1 (v.F-1)
 have e2:=w47 0 x.2 (v.F-1)
 unfold bE at h0
 rw[aR hx]at h0
 rcases eU v.F x.1 x.2 with ⟨h1,h⟩|⟨h1,h2,h⟩|⟨h1,h2,h3,h⟩|⟨h1,h2,h3,h⟩
 ·rw[h]at h0;simp at h0
 ·rw[h]at h0;simp at h0
 ·rw[h]at h0;simp at h0
 ·rw[h1]at e1;rw[h2]at e2
  unfold kW
  dsimp only
  (sym=>(simp[Za,Zb,Zf,Zh,Zi,Zl,Zm,Zp,Zr,Zv,Zy,Z3,Z5,Z8,Z9,ZA,ZF,ZG,ZH,ZI,ZJ,ZO,ZP,ZT,ZU,ZW,ZX,Ya,Yc,Yg,Yh,Yj,Yk,Yq,Ys,Yw,Yx,Y8,YA,YD,YP,YX,Xd,Xr,Xs,Xx,W3,W4,W5,WA,WC,WE,WH,WI,WK,WL,WM,WN,WO,WP,WQ,WR,WS,WT,WU,WV,WY,WZ,Vf,Vi,Vj,Vk,VQ,VR,VS,VT,VU,VV,VZ,Ua,Uc,Ud,Uf,Ug,Uh,Ui,Uj,Uk,Uq,Uu,Ux,Uy,Uz,U2,U3,U4,U5,U6,Tf,Tg,Th,Ti,Tk,Tt,Tu,Tw,Ty,Tz,T2,T5,T6,T7,TK,a1,a2,hx,u,e1,e2,h3];all_goals tactic=>exact rfl))
theorem aIN (v:Va) (hF:1≤v.F∧v.F≤16) {i:Nat} (hi:i<v.bs.length) (h0:bE v i≠0):∃ e h,
 execW aA 24 0 none (match kW with | .loop _ a=>a|c=>c) (aQ [1,3] [.pt 0 0,I (i:Nat)]) (bx v)=some (.ret,e,h)∧bD none x24.res x24.ownR 0 (some (.ret,e,h))=some (I (bE v i),[]):=by
 obtain⟨x,hx⟩:=aW hi
 have a1:=cZ hi
 have u:=u_F v hF
 have e1:=w47 0 x.1 (v.F-1)
 have e2:=w47 0 x.2 (v.F-1)
 unfold bE at h0 ⊢
 rw[aR hx]at h0 ⊢
 rcases eU v.F x.1 x.2 with ⟨h1,h⟩|⟨h1,h2,h⟩|⟨h1,h2,h3,h⟩|⟨h1,h2,h3,h⟩
 ·rw[h];rw[h1]at e1
  refine bV ?_ ?_
  ·unfold kW;dsimp only; (sym=>(simp[Za,Zb,Zf,Zh,Zi,Zl,Zm,Zp,Zt,Zv,Zy,Z3,Z5,Z8,Z9,ZA,ZF,ZG,ZH,ZI,ZJ,ZO,ZP,ZT,ZU,ZV,ZX,Ya,Yc,Yg,Yh,Yk,Ys,Yw,Yx,Y8,YA,YD,YP,YX,Xr,Xs,W3,W4,W5,WA,WC,WK,WN,WP,WU,WV,Vi,Vj,Vk,VQ,VT,VU,VX,VZ,Ua,Uc,Ud,Ug,Uh,Ui,Uj,Uk,Ur,Uu,Uy,U2,U3,U4,U5,U6,Tf,Tg,Th,Ti,Tk,Tt,Tu,Tv,Tw,Ty,Tz,T1,T3,T6,T7,a1,hx,u,e1];all_goals tactic=>exact rfl))
  ·unfold kW;dsimp only; (sym=>(simp[Za,Zb,Zf,Zh,Zi,Zl,Zm,Zp,Zt,Zv,Zy,Z3,Z5,Z8,Z9,ZA,ZF,ZG,ZH,ZI,ZJ,ZO,ZP,ZT,ZU,ZV,ZX,Ya,Yc,Yg,Yh,Yk,Ys,Yw,Yx,Y8,YA,YD,YP,YX,Xr,Xs,W3,W4,W5,WA,WC,WK,WN,WP,WU,WV,Vi,Vj,Vk,V9,VF,VQ,VT,VU,VZ,Ua,Uc,Ud,Ug,Uh,Ui,Uj,Uk,Ur,Uu,Uy,U2,U3,U4,U5,U6,Tf,Tg,Th,Ti,Tk,Tt,Tu,Tv,Tw,Ty,Tz,T1,T3,T6,T7,a1,hx,u,e1];all_goals tactic=>exact rfl))
 ·rw[h];rw[h1]at e1;rw[h2]at e2
  refine bV ?_ ?_
  ·unfold kW;dsimp only; (sym=>(simp[Za,Zb,Zf,Zh,Zi,Zl,Zm,Zp,Zr,Zv,Zy,Z3,Z5,Z8,Z9,ZA,ZF,ZG,ZH,ZI,ZJ,ZO,ZP,ZT,ZU,ZW,ZX,Ya,Yc,Yg,Yh,Yk,Ys,Yw,Yx,Y8,YA,YD,YP,YX,Xr,Xs,W3,W4,W5,WA,WC,WK,WN,WP,WU,WV,Vi,Vj,Vk,VQ,VT,VU,VX,VZ,Ua,Uc,Ud,Ug,Uh,Ui,Uj,Uk,Uq,Ur,Uu,Uy,U2,U3,U4,U5,U6,Tf,Tg,Th,Ti,Tk,Tt,Tu,Tv,Tw,Ty,Tz,T1,T3,T6,T7,a1,hx,u,e1,e2];all_goals tactic=>exact rfl))
  ·unfold kW;dsimp only; (sym=>(simp[Za,Zb,Zf,Zh,Zi,Zl,Zm,Zp,Zr,Zv,Zy,Z3,Z5,Z8,Z9,ZA,ZF,ZG,ZH,ZI,ZJ,ZO,ZP,ZT,ZU,ZW,ZX,Ya,Yc,Yg,Yh,Yk,Ys,Yw,Yx,Y8,YA,YD,YP,YX,Xr,Xs,W3,W4,W5,WA,WC,WK,WN,WP,WU,WV,Vi,Vj,Vk,V9,VF,VQ,VT,VU,VZ,Ua,Uc,Ud,Ug,Uh,Ui,Uj,Uk,Uq,Ur,Uu,Uy,U2,U3,U4,U5,U6,Tf,Tg,Th,Ti,Tk,Tt,Tu,Tv,Tw,Ty,Tz,T1,T3,T6,T7,a1,hx,u,e1,e2];all_goals tactic=>exact rfl))
 ·rw[h];rw[h1]at e1;rw[h2]at e2
  refine bV ?_ ?_
  ·unfold kW;dsimp only; (sym=>(simp[Za,Zb,Zf,Zh,Zi,Zl,Zm,Zp,Zr,Zv,Zy,Z3,Z5,Z8,Z9,ZA,ZF,ZG,ZH,ZI,ZJ,ZO,ZP,ZT,ZU,ZW,ZX,Ya,Yc,Yg,Yh,Yk,Yq,Ys,Yw,Yx,Y8,YA,YD,YP,YX,Xr,Xs,W3,W4,W5,WA,WC,WK,WN,WP,WU,WV,Vi,Vj,Vk,VQ,VT,VU,VV,VX,VZ,Ua,Uc,Ud,Ug,Uh,Ui,Uj,Uk,Uq,Uu,Uy,U2,U3,U4,U5,U6,Tf,Tg,Th,Ti,Tk,Tt,Tu,Tv,Tw,Ty,Tz,T1,T3,T6,T7,a1,hx,u,e1,e2,h3];all_goals tactic=>exact rfl))
  ·unfold kW;dsimp only; (sym=>(simp[Za,Zb,Zf,Zh,Zi,Zl,Zm,Zp,Zr,Zv,Zy,Z3,Z5,Z8,Z9,ZA,ZF,ZG,ZH,ZI,ZJ,ZO,ZP,ZT,ZU,ZW,ZX,Ya,Yc,Yg,Yh,Yk,Yq,Ys,Yw,Yx,Y8,YA,YD,YP,YX,Xr,Xs,W3,W4,W5,WA,WC,WK,WN,WP,WU,WV,Vi,Vj,Vk,V9,VF,VQ,VT,VU,VV,VZ,Ua,Uc,Ud,Ug,Uh,Ui,Uj,Uk,Uq,Uu,Uy,U2,U3,U4,U5,U6,Tf,Tg,Th,Ti,Tk,Tt,Tu,Tv,Tw,Ty,Tz,T1,T3,T6,T7,a1,hx,u,e1,e2,h3];all_goals tactic=>exact rfl))
 ·exact absurd h h0
theorem aAT (v:Va) (hF:1≤v.F∧v.F≤16) (hb:v.ps.length<1000000000) {i:Nat} (hi:i<v.ps.length) (h0:pE v i=0) :
 aU 0 [1,6] (execW aA 24 0 none (match kA with | .loop _ a=>a|c=>c) (aQ [1,6] [.pt 0 0,I (i:Nat)]) (bx v))=some ([.pt 0 0,I (i+1:Nat)],bx v):=by
 obtain⟨x,hx⟩:=aW hi
 have a1:=cZ hi
 have a2:=fI hi (by omega)
 have u:=u_F v hF
 have e1:=w47 0 x.2.1 (v.F-1)
 have e2:=w47 0 x.2.2 (v.F-1)
 have e4:=w47 0 x.1 100
 rcases lD v hx with ⟨g1,g2⟩|⟨g1,g2,_⟩|⟨g1,g2,g3⟩
 ·exact absurd (g2.symm.trans h0) g1
 ·rw[g2]at e4
  rcases eU v.F x.2.1 x.2.2 with ⟨h1,h⟩|⟨h1,h2,h⟩|⟨h1,h2,h3,h⟩|⟨h1,h2,h3,h⟩
  ·rw[h]at g1;simp at g1
  ·rw[h]at g1;simp at g1
  ·rw[h]at g1;simp at g1
  ·rw[h1]at e1;rw[h2]at e2
   unfold kA
   dsimp only
   (sym=>(simp[Za,Zb,Zc,Zf,Zg,Zh,Zj,Zl,Zm,Zp,Zr,Zv,Zw,Zy,Z3,Z5,Z8,ZA,ZF,ZG,ZK,ZL,ZO,ZP,ZT,ZU,ZW,ZX,Ya,Yc,Yg,Yh,Yj,Yk,Yq,Ys,Yw,Yx,YX,Xd,Xi,Xr,Xs,Xx,Ws,W3,W4,W5,W6,W7,W8,W9,WA,WC,WE,WH,WI,WK,WL,WM,WN,WO,WP,WQ,WR,WS,WT,WU,WV,WY,WZ,Vf,Vi,Vj,Vk,Vv,Vx,Vy,V0,V1,V3,VQ,VR,VS,VT,VU,VV,VZ,Ua,Ub,Uc,Ud,Uf,Ug,Uh,Ui,Uj,Uk,Um,Uq,Uu,Ux,Uy,Uz,U2,U3,U4,U5,U6,U7,U8,UF,Tf,Tg,Th,Ti,Tj,Tk,Tl,Tm,Tt,Tu,Tw,Ty,Tz,T2,T5,T6,T7,TK,SE,SF,SG,SJ,SK,SL,a1,a2,hx,u,e1,e2,e4,h3];all_goals tactic=>exact rfl))
 ·rw[h0]at g3;simp at g3
theorem aIM (v:Va) (hF:1≤v.F∧v.F≤16) {i:Nat} (hi:i<v.ps.length) (h0:pE v i≠0):∃ e h,
 execW aA 24 0 none (match kA with | .loop _ a=>a|c=>c) (aQ [1,6] [.pt 0 0,I (i:Nat)]) (bx v)=some (.ret,e,h)∧bD none x24.res x24.ownR 0 (some (.ret,e,h))=some (I (pE v i),[]):=by
 obtain⟨x,hx⟩:=aW hi
 have a1:=cZ hi
 have u:=u_F v hF
 have e1:=w47 0 x.2.1 (v.F-1)
 have e2:=w47 0 x.2.2 (v.F-1)
 have e4:=w47 0 x.1 100
 rcases lD v hx with ⟨g1,g2⟩|⟨g1,g2,g3⟩|⟨g1,g2,g3⟩
 ·rw[g2]
  rcases eU v.F x.2.1 x.2.2 with ⟨h1,h⟩|⟨h1,h2,h⟩|⟨h1,h2,h3,h⟩|⟨h1,h2,h3,h⟩
  ·rw[h];rw[h1]at e1
   refine bV ?_ ?_
   ·unfold kA;dsimp only; (sym=>(simp[Za,Zb,Zc,Zf,Zg,Zh,Zj,Zl,Zm,Zp,Zt,Zv,Zw,Zy,Z3,Z5,Z8,ZA,ZF,ZG,ZK,ZL,ZO,ZP,ZT,ZU,ZV,ZX,Ya,Yc,Yg,Yh,Yk,Ys,Yw,Yx,YX,Xi,Xr,Xs,Ws,W3,W4,W5,W6,W7,W8,W9,WA,WC,WK,WN,WP,WU,WV,Vi,Vj,Vk,Vv,Vx,Vy,V0,V1,V3,VQ,VT,VU,VX,VZ,Ua,Ub,Uc,Ud,Ug,Uh,Ui,Uj,Uk,Um,Ur,Uu,Uy,U2,U3,U4,U5,U6,U7,U8,UF,Tf,Tg,Th,Ti,Tj,Tk,Tl,Tm,Tt,Tu,Tv,Tw,Ty,Tz,T1,T3,T6,T7,SE,SF,SG,SJ,SK,SL,a1,hx,u,e1];all_goals tactic=>exact rfl))
   ·unfold kA;dsimp only; (sym=>(simp[Za,Zb,Zc,Zf,Zg,Zh,Zj,Zl,Zm,Zp,Zt,Zv,Zw,Zy,Z3,Z5,Z8,ZA,ZF,ZG,ZK,ZL,ZO,ZP,ZT,ZU,ZV,ZX,Ya,Yc,Yg,Yh,Yk,Ys,Yw,Yx,YX,Xi,Xr,Xs,Ws,W3,W4,W5,W6,W7,W8,W9,WA,WC,WK,WN,WP,WU,WV,Vi,Vj,Vk,Vv,Vx,Vy,V0,V1,V3,V9,VF,VQ,VT,VU,VZ,Ua,Ub,Uc,Ud,Ug,Uh,Ui,Uj,Uk,Um,Ur,Uu,Uy,U2,U3,U4,U5,U6,U7,U8,UF,Tf,Tg,Th,Ti,Tj,Tk,Tl,Tm,Tt,Tu,Tv,Tw,Ty,Tz,T1,T3,T6,T7,SE,SF,SG,SJ,SK,SL,a1,hx,u,e1];all_goals tactic=>exact rfl))
  ·rw[h];rw[h1]at e1;rw[h2]at e2
   refine bV ?_ ?_
   ·unfold kA;dsimp only; (sym=>(simp[Za,Zb,Zc,Zf,Zg,Zh,Zj,Zl,Zm,Zp,Zr,Zv,Zw,Zy,Z3,Z5,Z8,ZA,ZF,ZG,ZK,ZL,ZO,ZP,ZT,ZU,ZW,ZX,Ya,Yc,Yg,Yh,Yk,Ys,Yw,Yx,YX,Xi,Xr,Xs,Ws,W3,W4,W5,W6,W7,W8,W9,WA,WC,WK,WN,WP,WU,WV,Vi,Vj,Vk,Vv,Vx,Vy,V0,V1,V3,VQ,VT,VU,VX,VZ,Ua,Ub,Uc,Ud,Ug,Uh,Ui,Uj,Uk,Um,Uq,Ur,Uu,Uy,U2,U3,U4,U5,U6,U7,U8,UF,Tf,Tg,Th,Ti,Tj,Tk,Tl,Tm,Tt,Tu,Tv,Tw,Ty,Tz,T1,T3,T6,T7,SE,SF,SG,SJ,SK,SL,a1,hx,u,e1,e2];all_goals tactic=>exact rfl))
   ·unfold kA;dsimp only; (sym=>(simp[Za,Zb,Zc,Zf,Zg,Zh,Zj,Zl,Zm,Zp,Zr,Zv,Zw,Zy,Z3,Z5,Z8,ZA,ZF,ZG,ZK,ZL,ZO,ZP,ZT,ZU,ZW,ZX,Ya,Yc,Yg,Yh,Yk,Ys,Yw,Yx,YX,Xi,Xr,Xs,Ws,W3,W4,W5,W6,W7,W8,W9,WA,WC,WK,WN,WP,WU,WV,Vi,Vj,Vk,Vv,Vx,Vy,V0,V1,V3,V9,VF,VQ,VT,VU,VZ,Ua,Ub,Uc,Ud,Ug,Uh,Ui,Uj,Uk,Um,Uq,Ur,Uu,Uy,U2,U3,U4,U5,U6,U7,U8,UF,Tf,Tg,Th,Ti,Tj,Tk,Tl,Tm,Tt,Tu,Tv,Tw,Ty,Tz,T1,T3,T6,T7,SE,SF,SG,SJ,SK,SL,a1,hx,u,e1,e2];all_goals tactic=>exact rfl))
  ·rw[h];rw[h1]at e1;rw[h2]at e2
   refine bV ?_ ?_
   ·unfold kA;dsimp only; (sym=>(simp[Za,Zb,Zc,Zf,Zg,Zh,Zj,Zl,Zm,Zp,Zr,Zv,Zw,Zy,Z3,Z5,Z8,ZA,ZF,ZG,ZK,ZL,ZO,ZP,ZT,ZU,ZW,ZX,Ya,Yc,Yg,Yh,Yk,Yq,Ys,Yw,Yx,YX,Xi,Xr,Xs,Ws,W3,W4,W5,W6,W7,W8,W9,WA,WC,WK,WN,WP,WU,WV,Vi,Vj,Vk,Vv,Vx,Vy,V0,V1,V3,VQ,VT,VU,VV,VX,VZ,Ua,Ub,Uc,Ud,Ug,Uh,Ui,Uj,Uk,Um,Uq,Uu,Uy,U2,U3,U4,U5,U6,U7,U8,UF,Tf,Tg,Th,Ti,Tj,Tk,Tl,Tm,Tt,Tu,Tv,Tw,Ty,Tz,T1,T3,T6,T7,SE,SF,SG,SJ,SK,SL,a1,hx,u,e1,e2,h3];all_goals tactic=>exact rfl))
   ·unfold kA;dsimp only; (sym=>(simp[Za,Zb,Zc,Zf,Zg,Zh,Zj,Zl,Zm,Zp,Zr,Zv,Zw,Zy,Z3,Z5,Z8,ZA,ZF,ZG,ZK,ZL,ZO,ZP,ZT,ZU,ZW,ZX,Ya,Yc,Yg,Yh,Yk,Yq,Ys,Yw,Yx,YX,Xi,Xr,Xs,Ws,W3,W4,W5,W6,W7,W8,W9,WA,WC,WK,WN,WP,WU,WV,Vi,Vj,Vk,Vv,Vx,Vy,V0,V1,V3,V9,VF,VQ,VT,VU,VV,VZ,Ua,Ub,Uc,Ud,Ug,Uh,Ui,Uj,Uk,Um,Uq,Uu,Uy,U2,U3,U4,U5,U6,U7,U8,UF,Tf,Tg,Th,Ti,Tj,Tk,Tl,Tm,Tt,Tu,Tv,Tw,Ty,Tz,T1,T3,T6,T7,SE,SF,SG,SJ,SK,SL,a1,hx,u,e1,e2,h3];all_goals tactic=>exact rfl))
  ·exact absurd h g1
 ·exact absurd g3 h0
 ·rw[g3];rw[g2]at e4
  rcases eU v.F x.2.1 x.2.2 with ⟨h1,h⟩|⟨h1,h2,h⟩|⟨h1,h2,h3,h⟩|⟨h1,h2,h3,h⟩
  ·rw[h]at g1;simp at g1
  ·rw[h]at g1;simp at g1
  ·rw[h]at g1;simp at g1
  ·rw[h1]at e1;rw[h2]at e2
   refine bV ?_ ?_
   ·unfold kA;dsimp only; (sym=>(simp[Za,Zb,Zc,Zf,Zg,Zh,Zj,Zl,Zm,Zp,Zr,Zv,Zw,Zy,Z3,Z5,Z8,ZA,ZF,ZG,ZK,ZL,ZO,ZP,ZT,ZU,ZW,ZX,Ya,Yc,Yg,Yh,Yk,Yq,Ys,Yw,Yx,YX,Xi,Xr,Xs,Ws,W3,W4,W5,W6,W7,W8,W9,WA,WC,WK,WN,WP,WU,WV,Vi,Vj,Vk,Vv,Vx,Vy,V0,V1,V3,VQ,VT,VU,VV,VX,VZ,Ua,Ub,Uc,Ud,Ug,Uh,Ui,Uj,Uk,Um,Uq,Ur,Uu,Uy,Uz,U2,U3,U4,U5,U6,U7,U8,UF,Tf,Tg,Th,Ti,Tj,Tk,Tl,Tm,Tt,Tu,Tv,Tw,Ty,Tz,T1,T3,T6,T7,SE,SF,SG,SJ,SK,SL,a1,hx,u,e1,e2,e4,h3];all_goals tactic=>exact rfl))
   ·unfold kA;dsimp only; (sym=>(simp[Za,Zb,Zc,Zf,Zg,Zh,Zj,Zl,Zm,Zp,Zr,Zv,Zw,Zy,Z3,Z5,Z8,ZA,ZF,ZG,ZK,ZL,ZO,ZP,ZT,ZU,ZW,ZX,Ya,Yc,Yg,Yh,Yk,Yq,Ys,Yw,Yx,YX,Xi,Xr,Xs,Ws,W3,W4,W5,W6,W7,W8,W9,WA,WC,WK,WN,WP,WU,WV,Vi,Vj,Vk,Vv,Vx,Vy,V0,V1,V3,V9,VF,VQ,VT,VU,VV,VZ,Ua,Ub,Uc,Ud,Ug,Uh,Ui,Uj,Uk,Um,Uq,Ur,Uu,Uy,Uz,U2,U3,U4,U5,U6,U7,U8,UF,Tf,Tg,Th,Ti,Tj,Tk,Tl,Tm,Tt,Tu,Tv,Tw,Ty,Tz,T1,T3,T6,T7,SE,SF,SG,SJ,SK,SL,a1,hx,u,e1,e2,e4,h3];all_goals tactic=>exact rfl))
theorem w24 (v:Va) (hb:v.bs.length<1000000000) (hp:v.ps.length<1000000000):runW aA 24 [.agg v.c] []=some (I (vE v),[]):=by
 have e0:=w47 1 v.F 16
 rw[r24 (by simp)];unfold x24;dsimp only
 unfold vE
 cases hF:btw 1 v.F 16
 ·rw[hF]at e0
  rw[if_neg (by simp)]
  (sym=>(simp[Za,Zb,Zf,Zg,Zh,Zj,Zl,Zm,Zo,Zv,Zz,Z5,Z8,ZG,ZO,ZP,ZT,ZU,ZX,Ya,YX,Xi,Xk,Xl,Xr,Xs,XJ,We,Wg,Wi,Ws,W3,W4,W5,WA,WB,WC,WK,WN,WO,WP,WQ,WR,WS,WU,WV,Vi,Vj,Vk,Vv,Vx,Vy,V0,V1,V3,V9,VA,VC,VD,VE,VF,VG,VJ,VK,VL,VM,VO,VT,VU,VY,VZ,Ua,Uc,Ud,Uf,Ug,Uh,Um,Ur,U2,U3,U4,U5,U6,U7,U8,UD,UE,US,UT,Tf,Tg,Tk,Tn,Tu,Tv,Tz,T1,T6,T7,Sw,SE,SF,SG,SJ,SK,SL,e0];all_goals tactic=>exact rfl))
 ·rw[hF]at e0
  rw[if_pos rfl]
  have hF':=oU.1 hF
  unfold bsE
  by_cases h60:60<v.bs.length
  ·rw[if_pos h60,if_neg (by decide)]
   have c60:((60:Int)<(v.bs.length:Int))=True:=eq_true (by omega)
   (sym=>(simp[Za,Zb,Zf,Zg,Zh,Zj,Zl,Zm,Zo,Zv,Zz,Z3,Z5,Z8,ZF,ZG,ZO,ZP,ZT,ZU,ZX,Ya,Yc,Yu,YX,Xi,Xk,Xl,Xr,Xs,XJ,We,Wg,Wi,Ws,W3,W4,W5,WA,WB,WC,WK,WN,WO,WP,WQ,WR,WS,WU,WV,Vi,Vj,Vk,Vv,Vx,Vy,V0,V1,V3,V9,VA,VC,VD,VE,VF,VG,VJ,VK,VL,VM,VO,VT,VU,VV,VZ,Ua,Uc,Ud,Uf,Ug,Uh,Ui,Um,Uq,Uy,U2,U3,U4,U5,U6,U7,U8,UD,UE,US,UT,Tf,Tg,Tk,Tn,Tt,Tu,Tv,Tw,Tz,T1,T6,T7,Sw,SE,SF,SG,SJ,SK,SL,e0,c60];all_goals tactic=>exact rfl))
  ·rw[if_neg h60]
   have g60:((60:Int)<(v.bs.length:Int))=False:=eq_false (by omega)
   have z:=Te (n:=(v.bs.length:Int))
   obtain⟨m,m1,m2,m3⟩:=cO (bE v) v.bs.length
   rcases m3 with ⟨rfl,e⟩|⟨m3,m4,e⟩
   ·rw[e, if_pos rfl]
    unfold psE
    by_cases h20:20<v.ps.length
    ·rw[if_pos h20,if_neg (by decide)]
     have c20:((20:Int)<(v.ps.length:Int))=True:=eq_true (by omega)
     sym =>
      simp[Za,Zb,Zf,Zg,Zh,Zj,Zl,Zm,Zo,Zv,Zz,Z3,Z5,Z8,ZF,ZG,ZO,ZP,ZT,ZU,ZX,Ya,Yc,Yu,YX,Xi,Xk,Xl,Xr,Xs,We,Wg,Wi,Ws,W3,W4,W5,WA,WB,WC,WK,WN,WP,WU,WV,Vi,Vj,Vk,Vv,Vx,Vy,V0,V1,V3,VO,VT,VV,VZ,Ua,Uc,Ud,Ug,Uh,Ui,Um,Uq,Uz,U2,U3,U4,U5,U6,U7,U8,UD,UE,US,UT,Tf,Tg,Tk,Tn,Tt,Tu,Tw,Ty,Tz,T6,T7,SE,SF,SG,SJ,SK,SL,e0,g60]
      tactic =>
       unfold kW
       rw[aC v.bs.length (fun i=>[.pt 0 0,I (i:Nat)]) (fun _=>bx v)]
       ·(sym=>(simp[Za,Zb,Zf,Zh,Zl,Zm,Zv,Z3,Z8,ZF,ZG,Ya,Yc,Ys,Yu,YX,Xr,XJ,We,W3,W4,W5,WC,WK,WO,WQ,WR,WS,Vv,V9,VA,VC,VD,VE,VF,VG,VJ,VK,VL,VM,VQ,VT,VU,VV,Ua,Ud,Uf,Ui,Uy,Uz,U3,U4,Te,Tf,Tg,Tk,Tt,Tu,Tv,Tx,Tz,T0,T1,T4,T6,T7,Sw,z,c20];all_goals tactic=>exact rfl))
       ·(sym=>(simp[Za,Y9,YX,Xd,Xr,Xx,W3,WE,WH,WI,WK,WL,WM,WO,WQ,WR,WS,WT,WY,WZ,Vf,VR,VS,VZ,Ua,Uc,Ud,Uf,Uk,Ux,U3,U4,U5,U6,T5,TK];all_goals tactic=>exact rfl))
       ·exact fun i hi=>vW v hF' hb hi (m2 i hi)
       ·(sym=>(simp[Za,Zb,Zf,Zh,Zl,Zm,Zv,Z3,Z8,ZF,ZG,Ya,Yc,Ys,W3,W4,W5,WC,VQ,VT,VV,VW,Ui,Uz,Te,Tf,Tg,Tk,Tt,Tu,Tx,Tz,T0,T6,z];all_goals tactic=>exact rfl))
    ·rw[if_neg h20]
     have g20:((20:Int)<(v.ps.length:Int))=False:=eq_false (by omega)
     have z2:=Te (n:=(v.ps.length:Int))
     obtain⟨k,k1,k2,k3⟩:=cO (pE v) v.ps.length
     obtain⟨u1,u2,_,_⟩:=aKV v hF'
     have n0:(v.F<0)=False:=eq_false (by omega)
     have f1:=w47 0 v.sick v.A
     have f2:=w47 0 v.nur v.A
     have f3:=w47 0 v.fix v.A
     sym =>
      simp[Za,Zb,Zf,Zg,Zh,Zj,Zl,Zm,Zo,Zv,Zz,Z3,Z5,Z8,ZF,ZG,ZO,ZP,ZT,ZU,ZX,Ya,Yc,Yu,YX,Xi,Xk,Xl,Xr,Xs,We,Wg,Wi,Ws,W3,W4,W5,WA,WB,WC,WK,WN,WP,WU,WV,Vi,Vj,Vk,Vv,Vx,Vy,V0,V1,V3,VO,VT,VV,VY,VZ,Ua,Uc,Ud,Ug,Uh,Ui,Um,Uq,Uz,U2,U3,U4,U5,U6,U7,U8,UD,UE,US,UT,Tf,Tg,Tk,Tn,Tt,Tu,Tw,Ty,Tz,T6,T7,SE,SF,SG,SJ,SK,SL,e0,g60]
      tactic =>
       unfold kW
       rw[aC v.bs.length (fun i=>[.pt 0 0,I (i:Nat)]) (fun _=>bx v)]
       ·sym =>
        simp[Za,Zb,Zf,Zh,Zl,Zm,Zv,Z3,Z8,ZF,ZG,Ya,Yc,Ys,Yu,W3,W4,W5,WC,VQ,VT,VV,Ui,Uz,Te,Tf,Tg,Tk,Tt,Tu,Tw,Tx,Ty,Tz,T0,T4,T6,T7,z,g20]
        tactic =>
         rcases k3 with ⟨rfl,e3⟩|⟨k3,k4,e3⟩
         ·rw[e3,if_pos rfl]
          unfold kA
          rw[aC v.ps.length (fun i=>[.pt 0 0,I (i:Nat)]) (fun _=>bx v)]
          ·rcases vU v with ⟨h1,h⟩|⟨h1,h2,h⟩|⟨h1,h2,h3,h⟩|⟨h1,h2,h3,h⟩
           ·rw[h];rw[h1]at f1; (sym=>(simp[Za,Zb,Zf,Zg,Zh,Zj,Zl,Zm,Zp,Zt,Zv,Zy,Z3,Z5,Z8,ZF,ZG,ZO,ZP,ZT,ZU,ZV,ZX,Ya,Yc,Yk,Yo,Ys,YX,Xr,Xs,XJ,We,W3,W4,W5,WA,WC,WK,WN,WO,WP,WQ,WR,WS,WU,WV,Vi,Vj,Vk,Vv,Vx,Vy,V0,V1,V3,V9,VA,VC,VD,VE,VF,VG,VJ,VK,VL,VM,VQ,VT,VU,VV,VZ,Ua,Uc,Ud,Uf,Ug,Uh,Ui,Ur,Uz,U2,U3,U4,U5,U6,Te,Tf,Tg,Tk,Tt,Tu,Tv,Tx,Tz,T0,T1,T4,T6,T7,Sw,SE,SF,SG,SJ,SK,SL,z2,u1,u2,n0,f1];all_goals tactic=>exact rfl))
           ·rw[h];rw[h1]at f1;rw[h2]at f2; (sym=>(simp[Za,Zb,Zf,Zg,Zh,Zj,Zl,Zm,Zp,Zr,Zt,Zv,Zy,Z3,Z5,Z8,ZF,ZG,ZO,ZP,ZT,ZU,ZV,ZW,ZX,Ya,Yc,Yk,Yo,Ys,YX,Xr,Xs,XJ,We,W3,W4,W5,WA,WC,WK,WN,WO,WP,WQ,WR,WS,WU,WV,Vi,Vj,Vk,Vv,Vx,Vy,V0,V1,V3,V9,VA,VC,VD,VE,VF,VG,VJ,VK,VL,VM,VQ,VT,VU,VV,VZ,Ua,Uc,Ud,Uf,Ug,Uh,Ui,Uq,Ur,Uz,U2,U3,U4,U5,U6,Te,Tf,Tg,Tk,Tt,Tu,Tv,Tx,Tz,T0,T1,T4,T6,T7,Sw,SE,SF,SG,SJ,SK,SL,z2,u1,u2,n0,f1,f2];all_goals tactic=>exact rfl))
           ·rw[h];rw[h1]at f1;rw[h2]at f2;rw[h3]at f3; (sym=>(simp[Za,Zb,Zf,Zg,Zh,Zj,Zl,Zm,Zp,Zr,Zv,Zy,Z3,Z5,Z8,ZF,ZG,ZO,ZP,ZT,ZU,ZW,ZX,Ya,Yc,Yk,Yo,Ys,YX,Xr,Xs,XJ,We,W3,W4,W5,WA,WC,WK,WN,WO,WP,WQ,WR,WS,WU,WV,Vi,Vj,Vk,Vv,Vx,Vy,V0,V1,V3,V9,VA,VC,VD,VE,VF,VG,VJ,VK,VL,VM,VQ,VT,VU,VV,VZ,Ua,Uc,Ud,Uf,Ug,Uh,Ui,Uq,Ur,Uz,U2,U3,U4,U5,U6,Te,Tf,Tg,Tk,Tt,Tu,Tv,Tx,Tz,T0,T1,T4,T6,T7,Sw,SE,SF,SG,SJ,SK,SL,z2,u1,u2,n0,f1,f2,f3];all_goals tactic=>exact rfl))
           ·rw[h];rw[h1]at f1;rw[h2]at f2;rw[h3]at f3; (sym=>(simp[Za,Zb,Zf,Zg,Zh,Zj,Zl,Zm,Zp,Zr,Zv,Zy,Z3,Z5,Z8,ZF,ZG,ZO,ZP,ZT,ZU,ZW,ZX,Ya,Yc,Yk,Yo,Ys,YX,Xr,Xs,XJ,We,W3,W4,W5,WA,WC,WK,WN,WO,WP,WQ,WR,WS,WU,WV,Vi,Vj,Vk,Vv,Vx,Vy,V0,V1,V3,V9,VA,VC,VD,VE,VF,VG,VJ,VK,VL,VM,VQ,VT,VV,VZ,Ua,Uc,Ud,Uf,Ug,Uh,Ui,Uq,Uz,U2,U3,U4,U5,U6,Te,Tf,Tg,Tk,Tt,Tu,Tv,Tw,Tx,Tz,T0,T4,T6,T7,Sw,SE,SF,SG,SJ,SK,SL,z2,u1,u2,n0,f1,f2,f3];all_goals tactic=>exact rfl))
          ·(sym=>(simp[Za,Y9,YX,Xd,Xr,Xx,W3,WE,WH,WI,WK,WL,WM,WO,WQ,WR,WS,WT,WY,WZ,Vf,VQ,VR,VS,VZ,Ua,Uc,Ud,Uf,Uk,Ux,U3,U4,U5,U6,T5,TK];all_goals tactic=>exact rfl))
          ·exact fun i hi=>aAT v hF' hp hi (k2 i hi)
          ·(sym=>(simp[Za,Zb,Zf,Zh,Zl,Zm,Zv,Z3,Z8,ZF,ZG,Ya,Yc,Ys,W3,W4,W5,WC,VQ,VT,VV,VW,Ui,Uz,Te,Tf,Tg,Tk,Tt,Tu,Tx,Tz,T0,T6,z2];all_goals tactic=>exact rfl))
         ·rw[e3,if_neg k4]
          obtain⟨eo,ho,q1,q2⟩:=aIM v hF' k3 k4
          unfold kA at q1 ⊢
          rw[aC k (fun i=>[.pt 0 0,I (i:Nat)]) (fun _=>bx v)]
          ·dsimp only at q1;rw[q1];exact q2
          ·(sym=>(simp[Za,Y9,YX,Xd,Xr,Xx,W3,WE,WH,WI,WK,WL,WM,WO,WQ,WR,WS,WT,WY,WZ,Vf,VQ,VR,VS,VZ,Ua,Uc,Ud,Uf,Uk,Ux,U3,U4,U5,U6,T5,TK];all_goals tactic=>exact rfl))
          ·exact fun i hi=>aAT v hF' hp (by omega) (k2 i hi)
          ·dsimp only at q1;rw[q1];rfl
       ·(sym=>(simp[Za,Y9,YX,Xd,Xr,Xx,W3,WE,WH,WI,WK,WL,WM,WO,WQ,WR,WS,WT,WY,WZ,Vf,VR,VS,VZ,Ua,Uc,Ud,Uf,Uk,Ux,U3,U4,U5,U6,T5,TK];all_goals tactic=>exact rfl))
       ·exact fun i hi=>vW v hF' hb hi (m2 i hi)
       ·(sym=>(simp[Za,Zb,Zf,Zh,Zl,Zm,Zv,Z3,Z8,ZF,ZG,Ya,Yc,Ys,W3,W4,W5,WC,VQ,VT,VV,VW,Ui,Uz,Te,Tf,Tg,Tk,Tt,Tu,Tx,Tz,T0,T6,z];all_goals tactic=>exact rfl))
   ·rw[e,if_neg m4]
    obtain⟨eo,ho,q1,q2⟩:=aIN v hF' m3 m4
    sym =>
     simp[Za,Zb,Zf,Zg,Zh,Zj,Zl,Zm,Zo,Zv,Zz,Z3,Z5,Z8,ZF,ZG,ZO,ZP,ZT,ZU,ZX,Ya,Yc,Yu,YX,Xi,Xk,Xl,Xr,Xs,We,Wg,Wi,Ws,W3,W4,W5,WA,WB,WC,WK,WN,WP,WU,WV,Vi,Vj,Vk,Vv,Vx,Vy,V0,V1,V3,VO,VT,VV,VY,VZ,Ua,Uc,Ud,Ug,Uh,Ui,Um,Uq,Uz,U2,U3,U4,U5,U6,U7,U8,UD,UE,US,UT,Tf,Tg,Tk,Tn,Tt,Tu,Tw,Ty,Tz,T6,T7,SE,SF,SG,SJ,SK,SL,e0,g60]
     tactic =>
      unfold kW at q1 ⊢
      rw[aC m (fun i=>[.pt 0 0,I (i:Nat)]) (fun _=>bx v)]
      ·dsimp only at q1;rw[q1];exact q2
      ·(sym=>(simp[Za,Y9,YX,Xd,Xr,Xx,W3,WE,WH,WI,WK,WL,WM,WO,WQ,WR,WS,WT,WY,WZ,Vf,VR,VS,VZ,Ua,Uc,Ud,Uf,Uk,Ux,U3,U4,U5,U6,T5,TK];all_goals tactic=>exact rfl))
      ·exact fun i hi=>vW v hF' hb (by omega) (m2 i hi)
      ·dsimp only at q1;rw[q1];rfl
structure Vn where
 F:Nat
 bs:List (Nat×Nat)
 ps:List (Nat×Nat×Nat)
 sick:Nat
 nur:Nat
 fix:Nat
abbrev bI (b:Nat×Nat):Int×Int:=(b.1,b.2)
abbrev pI (p:Nat×Nat×Nat):Int×Int×Int:=(p.1,p.2.1,p.2.2)
def Vn.v (x:Vn):Va:=⟨x.F,x.bs.map bI,x.ps.map pI,x.sick,x.nur,x.fix⟩
structure Vn.Ok (x:Vn):Prop where
 F1:1≤x.F
 F16:x.F≤16
 nb:x.bs.length≤60
 np:x.ps.length≤20
 b:∀ p∈x.bs,p.1<x.F∧p.2<x.F∧p.1≠p.2
 p:∀ p∈x.ps,p.1≤100∧p.2.1<x.F∧p.2.2<x.F∧p.2.1≠p.2.2
 s:x.sick<2^x.F
 n:x.nur<2^x.F
 f:x.fix<2^x.F
theorem uS {F a b:Int}:gR F a b=0↔(0≤a∧a<F)∧(0≤b∧b<F)∧a≠b:=by
 rcases eU F a b with ⟨h1,h⟩|⟨h1,h2,h⟩|⟨h1,h2,h3,h⟩|⟨h1,h2,h3,h⟩
 ·rw[h];simp[btw]at h1;constructor
  ·intro h;simp at h
  ·intro h;have:=h1 h.1.1;omega
 ·rw[h];simp[btw]at h2;constructor
  ·intro h;simp at h
  ·intro h;have:=h2 h.2.1.1;omega
 ·rw[h];constructor
  ·intro h;simp at h
  ·intro h;exact absurd (of_eq_true h3) h.2.2
 ·rw[h]
  have g1:=oU.1 h1
  have g2:=oU.1 h2
  have g3:=of_eq_false h3
  simp only[true_iff]
  exact⟨by omega,by omega,g3⟩
theorem vF {α β:Type} (f:α→β) (P:β→Prop) (hf:∀ b,P b→∃ a,f a=b):∀ l:List β,(∀ x∈l,P x)→∃ k:List α,k.map f=l
 | [],_=>⟨[],rfl⟩
 | x::l,h=>by
   obtain⟨a,ha⟩:=hf x (h x (by simp))
   obtain⟨k,hk⟩:=vF f P hf l fun y hy=>h y (by simp[hy])
   exact⟨a::k,by simp[ha,hk]⟩
theorem aJL {v:Va} (h:vE v=0):∃ x:Vn,x.Ok∧v=x.v:=by
 unfold vE at h
 cases hF:btw 1 v.F 16
 ·rw[hF]at h;simp at h
 rw[hF,if_pos rfl]at h
 have hF':=oU.1 hF
 by_cases hb:bsE v=0
 ·rw[if_pos hb]at h
  by_cases hp:psE v=0
  ·rw[if_pos hp]at h
   unfold bsE at hb
   unfold psE at hp
   by_cases h60:60<v.bs.length
   ·rw[if_pos h60]at hb;simp at hb
   rw[if_neg h60]at hb
   by_cases h20:20<v.ps.length
   ·rw[if_pos h20]at hp;simp at hp
   rw[if_neg h20]at hp
   have hb':∀ b∈v.bs,(0≤b.1∧b.1<v.F)∧(0≤b.2∧b.2<v.F)∧b.1≠b.2:=fun b hm=>by
    obtain⟨i,hi⟩:=List.getElem?_of_mem hm
    have:=dW hb i (dO hi)
    unfold bE at this
    rw[aR hi]at this
    exact uS.1 this
   have hp':∀ p∈v.ps,(0≤p.1∧p.1≤100)∧(0≤p.2.1∧p.2.1<v.F)∧(0≤p.2.2∧p.2.2<v.F)∧p.2.1≠p.2.2:=fun p hm=>by
    obtain⟨i,hi⟩:=List.getElem?_of_mem hm
    have:=dW hp i (dO hi)
    rcases lD v hi with ⟨g1,g2⟩|⟨g1,g2,_⟩|⟨g1,g2,g3⟩
    ·exact absurd (g2.symm.trans this) g1
    ·exact⟨oU.1 g2,uS.1 g1⟩
    ·rw[g3]at this;simp at this
   obtain⟨bs,hbs⟩:=vF bI (fun b=>0≤b.1∧0≤b.2) (fun b hh=>⟨(b.1.toNat,b.2.toNat),by
    obtain⟨b1,b2⟩:=b
    simp only[bI,Prod.mk.injEq]at hh ⊢
    omega⟩) v.bs fun b hm=>⟨(hb' b hm).1.1,(hb' b hm).2.1.1⟩
   obtain⟨ps,hps⟩:=vF pI (fun p=>0≤p.1∧0≤p.2.1∧0≤p.2.2) (fun p hh=>⟨(p.1.toNat,p.2.1.toNat,p.2.2.toNat),by
    obtain⟨p1,p2,p3⟩:=p
    simp only[pI,Prod.mk.injEq]at hh ⊢
    omega⟩) v.ps fun p hm=>⟨(hp' p hm).1.1,(hp' p hm).2.1.1,(hp' p hm).2.2.1.1⟩
   obtain⟨f,hf⟩:∃ f:Nat,v.F=f:=⟨v.F.toNat,by omega⟩
   have hA:v.A=((2^f-1:Nat):Int):=by
    unfold Va.A
    rw[hf]
    simp only[Int.toNat_natCast]
    have e:(2:Int)^f=((2^f:Nat):Int):=by norm_cast
    have:=Nat.two_pow_pos f
    rw[e];omega
   rcases vU v with ⟨h1,hs⟩|⟨h1,h2,hs⟩|⟨h1,h2,h3,hs⟩|⟨h1,h2,h3,hs⟩
   ·rw[hs]at h;simp at h
   ·rw[hs]at h;simp at h
   ·rw[hs]at h;simp at h
   have g1:=oU.1 h1
   have g2:=oU.1 h2
   have g3:=oU.1 h3
   rw[hA]at g1 g2 g3
   have:=Nat.two_pow_pos f
   refine⟨⟨f,bs,ps,v.sick.toNat,v.nur.toNat,v.fix.toNat⟩,⟨by show 1≤f;omega,by show f≤16;omega,?_,?_,?_,?_,by show v.sick.toNat<2^f;omega,by show v.nur.toNat<2^f;omega,by show v.fix.toNat<2^f;omega⟩,?_⟩
   ·have:=congrArg List.length hbs
    simp only[List.length_map]at this
    show bs.length≤60
    omega
   ·have:=congrArg List.length hps
    simp only[List.length_map]at this
    show ps.length≤20
    omega
   ·intro b hm
    have:=hb' (bI b) (by rw[←hbs];exact List.mem_map_of_mem hm)
    rw[hf]at this
    simp only[bI]at this
    show b.1<f∧b.2<f∧b.1≠b.2
    omega
   ·intro p hm
    have:=hp' (pI p) (by rw[←hps];exact List.mem_map_of_mem hm)
    rw[hf]at this
    simp only[pI]at this
    show p.1≤100∧p.2.1<f∧p.2.2<f∧p.2.1≠p.2.2
    omega
   ·obtain⟨F,vb,vp,s,n,x⟩:=v
    simp only[Vn.v]at *
    rw[hbs,hps,hf]
    simp only[Va.mk.injEq,true_and]
    omega
  ·rw[if_neg hp]at h;exact absurd h hp
 ·rw[if_neg hb]at h;exact absurd h hb
abbrev Vn.c (x:Vn):List AV:=[I x.F,rB (x.bs.map bI),rP (x.ps.map pI),I x.sick,I x.nur,I x.fix]
theorem Vn.v_c (x:Vn):x.v.c=x.c:=rfl
def orB (s:Nat) (c:Bool) (k:Nat):Nat:=if c then s|||2^k else s
def brd (ill o:Nat) (b:Nat×Nat):Nat:=orB (orB o (ill.testBit b.1) b.2) (ill.testBit b.2) b.1
def plt (cl:Nat) (n:Int) (o:Nat) (p:Nat×Nat×Nat):Nat:=orB o (decide ((p.1:Int)=n)&&(o.testBit p.2.1 && !cl.testBit p.2.2)) p.2.2
def bor (x:Vn) (ill:Nat):Nat:=x.bs.foldl (brd ill) ill
def aHS (x:Vn) (ill cl:Nat) (n:Int):Nat:=x.ps.foldl (plt cl n) (gF (bor x ill) cl)
theorem aCh {s k n:Nat} {c:Bool} (hs:s<2^n) (hk:k<n):orB s c k<2^n:=by
 unfold orB
 split
 ·exact qW hs hk
 ·exact hs
theorem aKN {ill o n:Nat} {b:Nat×Nat} (ho:o<2^n) (h1:b.1<n) (h2:b.2<n):brd ill o b<2^n:=aCh (aCh ho h2) h1
theorem rK {α:Type} {f:Nat→α→Nat} {n:Nat}:∀ {l:List α} {o:Nat},(∀ x∈l,∀ o,o<2^n→f o x<2^n)→o<2^n→l.foldl f o<2^n
 | [],_,_,h=>h
 | x::l,o,hf,h=>rK (l:=l) (o:=f o x) (fun y hy=>hf y (by simp[hy])) (hf x (by simp) o h)
theorem jF {α β:Type} {f:β→α→β} {l:List α} {i:Nat} {x:α} (h:l[i]?=some x) (o:β):(l.take (i+1)).foldl f o=f ((l.take i).foldl f o) x:=by
 rw[List.take_add_one,h];simp
theorem aX {n:Nat} (h:n≤16):2^n≤65536:=Nat.pow_le_pow_right (n:=2) (by omega) h
section
variable {x:Vn} (ok:x.Ok) {ill cl:Nat} {n:Int}
abbrev dL (x:Vn):XH:=[some (.blk true (.cells true x.c))]
def bF (x:Vn) (ill i:Nat):Nat:=(x.bs.take i).foldl (brd ill) ill
include ok in
theorem aHr (hi:ill<2^x.F) (i:Nat):bF x ill i<2^x.F:=rK (fun b hb o ho=>by
 have:=ok.b b (List.mem_of_mem_take hb)
 exact aKN ho this.1 this.2.1) hi
include ok in
def pF (x:Vn) (cl:Nat) (n:Int) (o i:Nat):Nat:=(x.ps.take i).foldl (plt cl n) o
include ok in
theorem aJz {o:Nat} (ho:o<2^x.F) (i:Nat):pF x cl n o i<2^x.F:=rK (fun p hp o ho=>by
 have:=ok.p p (List.mem_of_mem_take hp)
 exact aCh ho this.2.2.1) ho
include ok in
end
def jX (a i:Nat):List Nat:=(List.range i).filter (a.testBit ·)
theorem aCz (a i:Nat):jX a (i+1)=if a.testBit i then jX a i++[i] else jX a i:=by
 unfold jX
 rw[List.range_succ,List.filter_append]
 cases h:a.testBit i<;>simp[h]
theorem aDM (a i:Nat):(jX a i).length≤i:=by
 have:=List.length_filter_le (fun k=>a.testBit k) (List.range i)
 simpa [jX]using this
theorem qY (ks:List Nat) (k:Nat):bG (ks++[k])=bG ks++[(k:Int)]:=by simp[bG]
theorem aHZ {a:Nat} (ha:a<65536) {i:Nat} (hi:i<16) :
 aU 0 [0,3,4] (execW aA 49 0 none (match aAA with | .loop _ a=>a|c=>c) (aQ [0,3,4] [I a,oS 0 (bG (jX a i)),I (i:Nat)]) (oG (bG (jX a i))))=some ([I a,oS 0 (bG (jX a (i+1))),I (i+1:Nat)],oG (bG (jX a (i+1)))):=by
 have e:=w52 (a:=a) (j:=i) (by omega) (by omega)
 have a1:((i:Int)<16)=True:=eq_true (by omega)
 have a2:IntKind.i64.wrap ((i:Int)+1)=(i:Int)+1:=aE (by omega) (by omega)
 have hl:=aDM a i
 have hl2:=aZ (jX a i)
 rw[aCz]
 cases h:a.testBit i
 ·rw[h]at e
  simp only[Bool.false_eq_true,if_false]
  generalize bG (jX a i)=os at *
  unfold aAA
  dsimp only
  cases os with
  | nil=>(sym=>(simp[Za,Zb,Zf,Zg,Zh,Zj,Zl,Zm,Zv,Z3,ZO,ZP,ZT,ZU,Yj,Ys,YX,Xe,Xr,Xs,Xy,XJ,We,WA,WK,WN,WO,WP,WR,WS,WU,WV,Vi,Vj,Vk,Vv,Vx,Vy,Vz,VQ,VR,VS,VT,VU,VV,VZ,Ua,Uc,Ud,Uf,Uh,Uy,U2,U3,U4,U5,U6,Tt,Tu,Tw,Ty,Tz,T2,T5,T6,T7,TU,TW,Sw,SE,SF,SI,SJ,SK,SL,e,a1,a2];all_goals tactic=>exact rfl))
  | cons y r=>(sym=>(simp[Za,Zb,Zf,Zg,Zh,Zj,Zl,Zm,Zv,Z3,ZO,ZP,ZT,ZU,Yj,Ys,YX,Xc,Xr,Xs,Xw,XJ,We,W3,WA,WE,WH,WI,WK,WL,WM,WN,WO,WP,WQ,WR,WS,WT,WU,WV,WY,WZ,Vf,Vi,Vj,Vk,Vv,Vx,Vy,Vz,VQ,VR,VS,VT,VU,VV,VZ,Ua,Uc,Ud,Uf,Ug,Uh,Uk,Ux,Uy,U2,U3,U4,U5,U6,Tt,Tu,Tw,Ty,Tz,T2,T5,T6,T7,TK,TV,TX,Sw,SE,SF,SI,SJ,SK,SL,e,a1,a2];all_goals tactic=>exact rfl))
 ·rw[h]at e
  simp only[if_true]
  rw[qY]
  generalize bG (jX a i)=os at *
  unfold aAA
  dsimp only
  cases os with
  | nil=>(sym=>(simp[Za,Zb,Zd,Ze,Zf,Zg,Zh,Zj,Zl,Zm,Zo,Zv,Z1,Z3,ZO,ZP,ZS,ZT,ZU,Yj,Ys,YX,Xc,Xi,Xr,Xs,Xw,XJ,We,Wq,W3,W4,W5,W7,W8,W9,WA,WE,WH,WI,WK,WL,WM,WN,WO,WP,WQ,WR,WS,WT,WU,WV,WY,WZ,Vf,Vi,Vj,Vk,Vv,Vx,Vy,Vz,VQ,VR,VS,VT,VU,VZ,Ua,Ub,Uc,Ud,Uf,Ug,Uh,Uk,Um,Uu,Ux,Uy,U0,U1,U2,U3,U4,U5,U6,U7,U8,UF,UG,UH,UI,UU,UV,UW,UX,UY,UZ,Ta,Tb,Tn,Tq,Tr,Ts,Tt,Tu,Tw,Ty,Tz,T2,T5,T6,T7,TK,TP,TU,TV,TW,TX,Sw,SE,SF,SI,SJ,SK,SL,e,a1,a2];all_goals tactic=>exact rfl))
  | cons y r =>
    have b1:((r.length+1+1)*8≤1099511627776)=True:=eq_true (by simp at hl2;omega)
    have b2:(r.length+1+1≤1099511627776)=True:=eq_true (by simp at hl2;omega)
    (sym=>(simp[Za,Zb,Zd,Ze,Zf,Zg,Zh,Zj,Zl,Zm,Zo,Zv,Z1,Z3,ZO,ZP,ZS,ZT,ZU,Yj,Ys,YX,Xc,Xi,Xr,Xs,Xw,XJ,We,Wq,W3,W4,W5,W6,W7,W8,W9,WA,WE,WH,WI,WK,WL,WM,WN,WO,WP,WQ,WR,WS,WT,WU,WV,WY,WZ,Vf,Vi,Vj,Vk,Vv,Vx,Vy,Vz,VQ,VR,VS,VT,VU,VZ,Ua,Ub,Uc,Ud,Uf,Ug,Uh,Ui,Uk,Um,Uu,Ux,Uy,U0,U1,U2,U3,U4,U5,U6,U7,U8,UF,UG,UH,UI,UU,UV,UW,UX,UY,UZ,Ta,Tc,Td,Tn,Tp,Tq,Tr,Tt,Tu,Tw,Ty,Tz,T2,T5,T6,T7,TG,TH,TI,TK,TP,TV,TX,Sw,SE,SF,SI,SJ,SK,SL,e,a1,a2,b1,b2];all_goals tactic=>exact rfl))
theorem w49 {a:Nat} (ha:a<65536):runW aA 49 [I a] []=some (nL (bG (el a)),[]):=by
 have e16:jX a 16=el a:=rfl
 rw[r49 (by simp)];unfold x49;dsimp only
 sym =>
  simp[Zb,Zf,Zh,Zl,Zv,We,VY,Uh,UD,UE,Tu,Ty,Tz,T7]
  tactic =>
   unfold aAA
   rw[aC 16 (fun i=>[I a,oS 0 (bG (jX a i)),I (i:Nat)]) (fun i=>oG (bG (jX a i)))]
   ·rw[e16]
    generalize bG (el a)=os
    cases os with
    | nil=>(sym=>(simp[Za,Zb,Zf,Zh,Zl,Zm,Zv,Z3,Ys,Xb,Xv,XQ,Wm,WK,WO,WP,WR,WS,Vv,V9,VA,VC,VD,VE,VF,VG,VJ,VK,VL,VM,VQ,VT,VV,Ua,Ud,Uf,Uz,U2,U3,U4,Tt,Tu,Tv,Tx,Tz,T0,T4,T6,T7,TU,TW,Sw,S8];all_goals tactic=>exact rfl))
    | cons y r=>(sym=>(simp[Za,Zb,Zf,Zh,Zl,Zm,Zv,Z3,Ys,Xb,Xv,XO,Wb,Wi,W3,W6,WK,WO,WQ,WR,WS,Vs,Vt,Vu,Vv,Vw,V5,V7,V9,VA,VC,VD,VE,VF,VG,VJ,VK,VL,VM,VQ,VT,VV,VZ,Ua,Ud,Uf,Ug,Ui,Uu,Uz,U3,U4,Tt,Tu,Tv,Tx,Tz,T0,T4,T6,T7,TI,TJ,TL,TV,TX,TY,Sw,Sx,Sy,S8];all_goals tactic=>exact rfl))
   ·have e0:bG (jX a 0)=[]:=rfl
    rw[e0]
    (sym=>(simp[Za,Y9,YX,Xe,Xr,Xy,WB,WK,WO,WP,WR,WS,VO,VR,VS,VZ,Ua,Ud,Uf,U2,U3,U4,U5,U6,T5,TU,TW];all_goals tactic=>exact rfl))
   ·exact fun i hi=>aHZ ha hi
   ·rw[e16]
    generalize bG (el a)=os
    cases os with
    | nil=>(sym=>(simp[Za,Zb,Zf,Zh,Zl,Zm,Zv,Z3,Ys,VQ,VT,VV,VW,Uz,Tt,Tu,Tx,Tz,T0,T6,T7,TU,TW,S8];all_goals tactic=>exact rfl))
    | cons y r=>(sym=>(simp[Za,Zb,Zf,Zh,Zl,Zm,Zv,Z3,Ys,VQ,VT,VV,VW,Uz,Tt,Tu,Tx,Tz,T0,T6,T7,TV,TX,S8];all_goals tactic=>exact rfl))
def bW (x:Vn) (cl:Nat):Nat→Nat
 | 0=>gF x.sick cl
 | n+1=>aHS x (bW x cl n) cl (n:Int)
theorem tE {a b n:Nat} (h:a<2^n):gF a b<2^n:=Nat.lt_of_le_of_lt (iY a b) h
theorem aHR {x:Vn} (ok:x.Ok) {ill cl:Nat} {n:Int} (h:ill<2^x.F):aHS x ill cl n<2^x.F:=by
 have h1:=aHr ok h x.bs.length
 have e1:bF x ill x.bs.length=bor x ill:=by unfold bF bor;rw[List.take_length]
 rw[e1]at h1
 have h2:=aJz (cl:=cl) (n:=n) ok (tE (b:=cl) h1) x.ps.length
 unfold pF at h2
 rw[List.take_length]at h2
 exact h2
theorem jE {x:Vn} (ok:x.Ok) (cl:Nat):∀ n,bW x cl n<2^x.F
 | 0=>tE ok.s
 | n+1=>aHR ok (jE ok cl n)
section
variable {x:Vn} (ok:x.Ok) {c:List Int} (hc:c.length<1000000000)
include ok hc in
end
section
variable {x:Vn} (ok:x.Ok) {c:List Int} (hc:c.length<1000000000)
include ok hc in
end
abbrev aBZ (L:List (Nat×Nat)):List (AV×AV):=L.map fun p=>(.nilifc,.agg [I p.1,I p.2])
abbrev chO (L:List (Nat×Nat)):Option XB:=some (.blk true (.map true ((.agg [.agg []],.fp [] 16 0)::aBZ L)))
abbrev gS (L:List (Nat×Nat)):XH:=[some (.loop 77 0 [.pt 1 0] .ready),some (.blk false (.cells true [.ch 2])),chO L]
theorem aLO (L:List (Nat×Nat)):aEQ 3 (gS L):=by
 refine⟨fun _=>rfl,fun _ _=>rfl,fun _=>rfl,?_,?_⟩
 ·intro a e h0 h1
  (sym=>(simp[Xd,Xh,Xx,XI,WE,WI,WK,WM,WO,WP,WQ,WR,WS,WY,WZ,Vb,Vc,Ve,Vf,Vg,Vh,VR,VS,VZ,Ua,Ub,Uc,Ud,Ue,Uf,Ux,U2,U3,U4,U5,U6,T5,Ri,Rk,h0,h1];all_goals tactic=>exact rfl))
 ·intro a
  (sym=>(simp[Za,Xa,Xd,Xu,Xx,XM,Wh,WE,WI,WK,WM,WO,WP,WQ,WR,WS,WY,WZ,Vb,Vc,Ve,Vf,Vg,Vh,Vv,VC,VD,VE,VZ,Ua,Ub,Uc,Ud,Ue,Uf,Ux,U2,U3,U4,U5,U6,U9,UD,Sw,Ri,Rk];all_goals tactic=>exact rfl))
theorem yS (v:Nat) (L:List (Nat×Nat)) (hl:L.length<16):Yd (gS L) (gS (L++[(v,0)])) v true:=by
 have b1:(L.length<16)=True:=eq_true hl
 have y:runYW aA (.fn (.yield 0) [] []) [I (v:Nat)] (gS L)=some (.bool true,gS (L++[(v,0)])):=by
  rw[jO (K:=77) (d:=x77) (site:=0) (vs:=[.pt 1 0]) rfl rfl (by rfl) rfl]
  (sym=>(simp[Za,Zb,Zc,Zd,Ze,Zf,Zh,Zl,Zm,Zv,Z0,ZG,ZK,Y9,YT,YY,Xd,Xi,Xk,Xs,Xx,Wq,W3,W4,W5,W6,W7,W9,WA,WC,WE,WI,WK,WM,WO,WP,WQ,WR,WS,WY,WZ,Vb,Vc,Ve,Vf,Vg,Vh,VB,VE,VQ,VZ,Ua,Ub,Uc,Ud,Ue,Uf,Ug,Uh,Ui,Um,Uu,Ux,U2,U3,U4,U5,U6,U7,U8,UF,UG,UH,UI,UQ,UR,Tf,Tg,Tk,Ty,T2,T6,T7,TG,Sa,Sb,Sc,Sd,Sm,Sn,Sp,Sq,SP,SW,SX,Ri,Rk,b1];all_goals tactic=>exact rfl))
 intro a
 (sym=>(simp[Zd,Ze,Y9,YX,Xd,Xh,Xr,Xs,Xx,XI,W3,W6,W9,WA,WC,WE,WF,WG,WH,WJ,WK,WL,WM,WN,WP,WQ,WU,WV,WW,WY,WZ,Vb,Vc,Vf,Vg,Vh,Vi,Vj,Vk,Vl,VZ,Ua,Ub,Uc,Ud,Ug,Uh,Uk,Ux,U2,U3,U4,U5,U6,TG,Sl,Ri,Rk,y];all_goals tactic=>exact rfl))
theorem aLH {D:Nat→Option XFn} {K k:Nat} {rd:Option Nat} {L:List Nat} {a:XCode} {e:aH} {h:XH}:execW D K k rd (.loop L a) e h=oZ (execW D K k rd a (aQ L (aAs k L e h)) (nU k L e h)) (execW D K k rd (.loop L a)):=iH
section
variable {x:Vn} (ok:x.Ok) {ill cl:Nat} {L:List (Nat×Nat)} {sn n:Int}
abbrev h77 (x:Vn) (L:List (Nat×Nat)) (n:Int):XH:=[chO L,some (.blk true (.cells true x.c)),some (.blk false (.cells true [.ch 0])),some (.blk true (.cells true [I n]))]
include ok in
theorem aFB (hill:ill<2^x.F) {i:Nat} (hi:i<x.bs.length) :
 aU 1 [1,4,7,8,10,11,30,31,36,37,38] (execW aA 77 1 none (match aCT with | .loop _ a=>a|c=>c) (aQ [1,4,7,8,10,11,30,31,36,37,38] [I cl,.pt 1 0,.pt 2 0,I (bF x ill i:Nat),.pt 3 0,I ill,I sn,I n,rB (x.bs.map bI),I x.bs.length,I (i:Nat)]) (h77 x L n)) =
  some ([I cl,.pt 1 0,.pt 2 0,I (bF x ill (i+1):Nat),.pt 3 0,I ill,I sn,I n,rB (x.bs.map bI),I x.bs.length,I (i+1:Nat)],h77 x L n):=by
 obtain⟨b,hx⟩:=aW hi
 have hb:=ok.b b (List.mem_of_getElem? hx)
 have hF:=ok.F16
 have hp:=aX hF
 have a1:=cZ hi
 have a2:=fI hi (by have:=ok.nb;omega)
 have l0:=aHr ok hill i
 have up:bF x ill (i+1)=brd ill (bF x ill i) b:=jF hx ill
 rw[up]
 generalize bF x ill i=o at *
 have e1:=qC (a:=ill) (j:=b.1) (by omega) (by omega)
 have e2:=qC (a:=ill) (j:=b.2) (by omega) (by omega)
 have s1:=w62 (j:=b.1) (by omega)
 have s2:=w62 (j:=b.2) (by omega)
 have p1:(2:Nat)^b.1≤2^16:=Nat.pow_le_pow_right (by omega) (by omega)
 have p2:(2:Nat)^b.2≤2^16:=Nat.pow_le_pow_right (by omega) (by omega)
 have o1:=dG bX (a:=o) (b:=2^b.2) (by omega) (by omega)
 have o1':=qW (a:=o) (i:=b.2) (n:=x.F) (by omega) hb.2.1
 have o2:=dG bX (a:=o|||2^b.2) (b:=2^b.1) (by omega) (by omega)
 have o3:=dG bX (a:=o) (b:=2^b.1) (by omega) (by omega)
 unfold brd orB
 generalize 2^b.1=q1 at *
 generalize 2^b.2=q2 at *
 cases h1:ill.testBit b.1<;>cases h2:ill.testBit b.2
 all_goals
  rw[h1]at e1
  rw[h2]at e2
  unfold aCT aJt
  dsimp only
  (sym=>(simp[Za,Zb,Zc,Zd,Ze,Zf,Zg,Zh,Zj,Zl,Zm,Zv,Zw,Z3,Z9,ZA,ZB,ZG,ZK,ZL,ZO,ZP,ZT,ZU,Yg,Yh,Yj,Yk,Yn,Ys,Yw,Yx,Yy,Yz,Y0,Y8,YA,YD,YO,YU,YX,YZ,Xb,Xd,Xi,Xr,Xs,Xt,Xv,Xx,XJ,We,Ws,W3,W4,W5,W6,W7,W8,W9,WA,WC,WE,WF,WH,WI,WK,WL,WM,WN,WO,WP,WQ,WR,WS,WT,WU,WV,WY,WZ,Vb,Ve,Vf,Vg,Vi,Vj,Vk,Vv,Vx,Vy,Vz,VQ,VR,VS,VT,VU,VV,VY,VZ,Ua,Ub,Uc,Ud,Ue,Uf,Ug,Uh,Ui,Uj,Uk,Um,Uu,Ux,Uy,Uz,U2,U3,U4,U5,U6,U7,U8,UF,Tf,Tg,Th,Ti,Tj,Tk,Tl,Tm,Tt,Tu,Tw,Tx,Ty,Tz,T0,T2,T4,T5,T6,T7,Sw,SE,SF,SI,SJ,SK,SL,Ri,Rk,a1,a2,hx,e1,e2,s1,s2,o1,o2,o3,aLH];all_goals tactic=>exact rfl))
end
theorem aJb {k cl:Nat} (hk:k<16) (hc:cl<65536):gF (2^k) cl=if cl.testBit k then 0 else 2^k:=by
 apply Nat.eq_of_testBit_eq
 intro i
 rw[bS (by omega),Nat.testBit_two_pow]
 by_cases hi:k=i
 ·subst hi
  cases h:cl.testBit k
  ·simp[Nat.testBit_two_pow];omega
  ·simp
 ·cases h:cl.testBit k
  ·simp[Nat.testBit_two_pow,hi]
  ·simp[hi]
section
variable {x:Vn} (ok:x.Ok) {ill cl:Nat} {L:List (Nat×Nat)} {sn n:Int}
include ok in
theorem aFA {o0:Nat} (ho:o0<2^x.F) (hcl:cl<2^x.F) {i:Nat} (hi:i<x.ps.length) :
 aU 1 [1,4,7,8,10,11,30,31,63,64,65] (execW aA 77 1 none (match yF with | .loop _ a=>a|c=>c) (aQ [1,4,7,8,10,11,30,31,63,64,65] [I cl,.pt 1 0,.pt 2 0,I (pF x cl n o0 i:Nat),.pt 3 0,I ill,I sn,I n,rP (x.ps.map pI),I x.ps.length,I (i:Nat)]) (h77 x L n)) =
  some ([I cl,.pt 1 0,.pt 2 0,I (pF x cl n o0 (i+1):Nat),.pt 3 0,I ill,I sn,I n,rP (x.ps.map pI),I x.ps.length,I (i+1:Nat)],h77 x L n):=by
 obtain⟨p,hx⟩:=aW hi
 have hb:=ok.p p (List.mem_of_getElem? hx)
 have hF:=ok.F16
 have hp:=aX hF
 have a1:=cZ hi
 have a2:=fI hi (by have:=ok.np;omega)
 have l0:=aJz (cl:=cl) (n:=n) ok ho i
 have up:pF x cl n o0 (i+1)=plt cl n (pF x cl n o0 i) p:=jF hx o0
 rw[up]
 generalize pF x cl n o0 i=o at *
 have e1:=qC (a:=o) (j:=p.2.1) (by omega) (by omega)
 have s1:=w62 (j:=p.2.2) (by omega)
 have p1:(2:Nat)^p.2.2≤2^16:=Nat.pow_le_pow_right (by omega) (by omega)
 have d0:=aJb (k:=p.2.2) (cl:=cl) (by omega) (by omega)
 have d1:=iR bX (a:=2^p.2.2) (b:=cl) (by omega) (by omega)
 rw[d0]at d1
 have o1:=dG bX (a:=o) (b:=2^p.2.2) (by omega) (by omega)
 have o2:=dG bX (a:=o) (b:=0) (by omega) (by omega)
 rw[Nat.or_zero]at o2
 have o2:cB .or .i64 (o:Int) 0=(o:Int):=o2
 unfold plt orB
 generalize 2^p.2.2=q1 at *
 by_cases hn:(p.1:Int)=n
 ·have c1:((p.1:Int)=n)=True:=eq_true hn
  have g1:decide ((p.1:Int)=n)=true:=decide_eq_true hn
  rw[g1]
  cases h1:o.testBit p.2.1
  ·rw[h1]at e1
   unfold yF
   dsimp only
   (sym=>(simp[Za,Zb,Zc,Zd,Ze,Zf,Zg,Zh,Zj,Zl,Zm,Zp,Zq,Zv,Zw,Zy,Z3,Z8,ZA,ZG,ZK,ZL,ZO,ZP,ZT,ZU,ZV,Ya,Yg,Yh,Yj,Yq,Ys,Yw,Yx,YX,Xb,Xd,Xi,Xr,Xs,Xv,Xx,Ws,W3,W4,W5,W6,W7,W8,W9,WA,WC,WE,WF,WH,WI,WK,WL,WM,WN,WO,WP,WQ,WR,WS,WT,WU,WV,WY,WZ,Vb,Ve,Vf,Vg,Vi,Vj,Vk,Vv,Vx,Vy,V0,V1,V3,VQ,VR,VS,VT,VU,VV,VY,VZ,Ua,Ub,Uc,Ud,Ue,Uf,Ug,Uh,Ui,Uj,Uk,Um,Un,Uo,Uu,Ux,Uy,U2,U3,U4,U5,U6,U7,U8,UF,Tf,Tg,Th,Ti,Tj,Tk,Tl,Tm,Tt,Tu,Tw,Ty,Tz,T2,T5,T6,T7,SE,SF,SG,SJ,SK,SL,Ri,Rk,a1,a2,hx,e1,c1];all_goals tactic=>exact rfl))
  ·rw[h1]at e1
   cases h2:cl.testBit p.2.2
   all_goals
    rw[h2]at d1
    unfold yF
    dsimp only
    (sym=>(simp[Za,Zb,Zc,Zd,Ze,Zf,Zg,Zh,Zj,Zl,Zm,Zp,Zq,Zv,Zw,Zy,Z3,Z8,ZA,ZG,ZK,ZL,ZO,ZP,ZT,ZU,ZV,Ya,Yg,Yh,Yj,Yn,Yq,Ys,Yw,Yx,Y9,YX,Xb,Xd,Xi,Xr,Xs,Xv,Xx,Ws,W3,W4,W5,W6,W7,W8,W9,WA,WC,WE,WF,WH,WI,WK,WL,WM,WN,WO,WP,WQ,WR,WS,WT,WU,WV,WY,WZ,Vb,Ve,Vf,Vg,Vi,Vj,Vk,Vv,Vx,Vy,V0,V1,V3,VQ,VR,VS,VT,VU,VY,VZ,Ua,Ub,Uc,Ud,Ue,Uf,Ug,Uh,Ui,Uj,Uk,Um,Uo,Uq,Ur,Uu,Ux,Uy,U2,U3,U4,U5,U6,U7,U8,UF,Tf,Tg,Th,Ti,Tj,Tk,Tl,Tm,Tt,Tu,Tw,Ty,Tz,T2,T5,T6,T7,SD,SE,SF,SG,SJ,SK,SL,Ri,Rk,a1,a2,hx,e1,c1,s1,d1,o1,o2];all_goals tactic=>exact rfl))
 ·have c1:((p.1:Int)=n)=False:=eq_false hn
  have g1:decide ((p.1:Int)=n)=false:=decide_eq_false hn
  rw[g1]
  unfold yF
  dsimp only
  (sym=>(simp[Za,Zb,Zc,Zd,Ze,Zf,Zg,Zh,Zj,Zl,Zm,Zp,Zs,Zv,Zw,Zy,Z3,Z8,ZA,ZG,ZK,ZL,ZW,Ya,Yg,Yh,Yj,Yq,Ys,Yw,Yx,YX,Xb,Xd,Xi,Xr,Xv,Xx,Ws,W3,W4,W5,W6,W7,W8,W9,WA,WC,WE,WF,WH,WI,WK,WL,WM,WO,WQ,WR,WS,WT,WY,WZ,Vb,Ve,Vf,Vg,Vv,Vx,Vy,V0,V1,V3,VQ,VR,VS,VT,VU,VV,VY,VZ,Ua,Ub,Uc,Ud,Ue,Uf,Ug,Uh,Ui,Uj,Uk,Um,Un,Uu,Ux,Uy,Uz,U3,U4,U5,U6,U7,U8,UF,Tf,Tg,Th,Ti,Tj,Tk,Tl,Tm,Tt,Tu,Tw,Ty,Tz,T2,T5,T6,T7,SE,SF,SG,SJ,SK,SL,Ri,Rk,a1,a2,hx,c1];all_goals tactic=>exact rfl))
end
abbrev gT (n:Nat) (L:List (Nat×Nat)):XH:=[some (.loop 77 1 [.pt 1 0,.pt 3 0] .ready),some (.blk false (.cells true [.ch 2])),chO L,some (.blk true (.cells true [I n]))]
theorem aLN (n:Nat) (L:List (Nat×Nat)):aEQ 4 (gT n L):=by
 refine⟨fun _=>rfl,fun _ _=>rfl,fun _=>rfl,?_,?_⟩
 ·intro a e h0 h1
  (sym=>(simp[Xd,Xh,Xx,XI,WE,WI,WK,WM,WO,WP,WQ,WR,WS,WY,WZ,Vb,Vc,Ve,Vf,Vg,Vh,VR,VS,VZ,Ua,Ub,Uc,Ud,Ue,Uf,Ux,U2,U3,U4,U5,U6,T5,Ri,Rk,h0,h1];all_goals tactic=>exact rfl))
 ·intro a
  (sym=>(simp[Za,Xa,Xd,Xu,Xx,XM,Wh,WE,WI,WK,WM,WO,WP,WQ,WR,WS,WY,WZ,Vb,Vc,Ve,Vf,Vg,Vh,Vv,VC,VD,VE,VZ,Ua,Ub,Uc,Ud,Ue,Uf,Ux,U2,U3,U4,U5,U6,U9,UD,Sw,Ri,Rk];all_goals tactic=>exact rfl))
theorem yT (v n:Nat) (L:List (Nat×Nat)) (hl:L.length<16) (hn:n≤1000):Yd (gT n L) (gT n (L++[(v,n+1)])) v true:=by
 have b1:(L.length<16)=True:=eq_true hl
 have a2:IntKind.i64.wrap ((n:Int)+1)=(n:Int)+1:=aE (by omega) (by omega)
 have y:runYW aA (.fn (.yield 0) [] []) [I (v:Nat)] (gT n L)=some (.bool true,gT n (L++[(v,n+1)])):=by
  rw[jO (K:=77) (d:=x77) (site:=1) (vs:=[.pt 1 0,.pt 3 0]) rfl rfl (by rfl) rfl]
  (sym=>(simp[Za,Zb,Zc,Zd,Ze,Zf,Zh,Zl,Zm,Zv,Z0,Z3,ZG,ZK,Yj,YT,YY,Xd,Xi,Xk,Xs,Xx,Wq,W3,W4,W5,W6,W7,W9,WA,WC,WE,WI,WK,WM,WO,WP,WQ,WR,WS,WY,WZ,Vb,Vc,Ve,Vf,Vg,Vh,VB,VE,VQ,VZ,Ua,Ub,Uc,Ud,Ue,Uf,Ug,Uh,Ui,Um,Uu,Ux,U2,U3,U4,U5,U6,U7,U8,UF,UG,UH,UI,UQ,UR,Tf,Tg,Tk,Tt,Ty,T2,T6,T7,TG,Sa,Sb,Sc,Sd,Sm,Sn,Sp,Sq,SP,SW,SX,Ri,Rk,b1,a2];all_goals tactic=>exact rfl))
 intro a
 (sym=>(simp[Zd,Ze,YX,Xd,Xh,Xr,Xs,Xx,XI,W3,W6,W9,WA,WC,WE,WF,WG,WH,WJ,WK,WL,WM,WN,WP,WQ,WU,WV,WW,WY,WZ,Vb,Vc,Vf,Vg,Vh,Vi,Vj,Vk,Vl,VZ,Ua,Ub,Uc,Ud,Ug,Uh,Uk,Ux,U2,U3,U4,U5,U6,TG,Sl,Ri,Rk,y];all_goals tactic=>exact rfl))
theorem tB {p q:Nat→Bool} (h:∀ k,p k=true→q k=false):∀ l:List Nat,(l.filter fun k=>p k||q k).length=(l.filter p).length+(l.filter q).length
 | []=>rfl
 | k::l=>by
   have ih:=tB h l
   simp only[List.filter_cons]
   cases hp:p k
   ·cases hq:q k
    ·simpa using ih
    ·simp only[Bool.false_or,if_true,Bool.false_eq_true,if_false,List.length_cons];omega
   ·have hq:=h k hp
    rw[hq]
    simp only[Bool.true_or,if_true,Bool.false_eq_true,if_false,List.length_cons];omega
def mQ (x:Vn) (cl:Nat):Nat→List (Nat×Nat)
 | 0=>(el (bW x cl 0)).map fun k=>(k,0)
 | n+1=>mQ x cl n++(el (gF (bW x cl (n+1)) (bW x cl n))).map fun k=>(k,n+1)
theorem uT (s k i:Nat) (c:Bool):(orB s c k).testBit i=(s.testBit i||(c&&decide (k=i))):=by
 unfold orB
 cases c
 ·simp
 ·rw[if_pos rfl,dV];simp
theorem wR {α:Type} {f:Nat→α→Nat} (hf:∀ o x i,o.testBit i=true→(f o x).testBit i=true):∀ (l:List α) (o i:Nat),o.testBit i=true→(l.foldl f o).testBit i=true
 | [],_,_,h=>h
 | x::l,o,i,h=>wR hf l (f o x) i (hf o x i h)
theorem aJh {ill:Nat} (o:Nat) (b:Nat×Nat) (i:Nat) (h:o.testBit i=true):(brd ill o b).testBit i=true:=by
 unfold brd
 rw[uT,uT,h];simp
theorem aIu {cl:Nat} {n:Int} (o:Nat) (p:Nat×Nat×Nat) (i:Nat) (h:o.testBit i=true):(plt cl n o p).testBit i=true:=by
 unfold plt
 rw[uT,h];simp
theorem aBn {x:Vn} (ok:x.Ok) {cl:Nat} (hcl:cl<2^x.F):∀ n i,(bW x cl n).testBit i=true→(bW x cl (n+1)).testBit i=true:=by
 have hp:=aX ok.F16
 have dj:∀ n i,(bW x cl n).testBit i=true→cl.testBit i=false:=by
  intro n
  induction n with
  | zero =>
    intro i hi
    unfold bW at hi
    rw[bS (by omega)]at hi
    simp only[Bool.and_eq_true,Bool.not_eq_true']at hi
    exact hi.2.2
  | succ n ih =>
    intro i hi
    rw[bW,aHS]at hi
    have main:∀ (l:List (Nat×Nat×Nat)) (o:Nat),(∀ i,o.testBit i=true→cl.testBit i=false)→∀ i,(l.foldl (plt cl (n:Int)) o).testBit i=true→cl.testBit i=false:=by
     intro l
     induction l with
     | nil=>exact fun o h=>h
     | cons p l ihl =>
       intro o h
       refine ihl (plt cl n o p) fun i hi=>?_
       unfold plt at hi
       rw[uT,Bool.or_eq_true]at hi
       rcases hi with hi|hi
       ·exact h i hi
       ·simp only[Bool.and_eq_true,Bool.not_eq_true',decide_eq_true_eq]at hi
        rw[←hi.2];exact hi.1.2.2
    refine main x.ps _ (fun i hi=>?_) i hi
    rw[bS (by omega)]at hi
    simp only[Bool.and_eq_true,Bool.not_eq_true']at hi
    exact hi.2.2
 intro n i hi
 rw[bW,aHS]
 refine wR aIu _ _ _ ?_
 have hlt:=qB (jE ok cl n) (i:=i)
 have hi64:i<64:=by
  by_cases h:i<64
  ·exact h
  ·rw[hlt (by have:=ok.F16;omega)]at hi;simp at hi
 rw[bS (by omega),dj n i hi]
 have:(bor x (bW x cl n)).testBit i=true:=wR aJh _ _ _ hi
 simp[this,hi64]
theorem aDJ {x:Vn} (ok:x.Ok) {cl:Nat} (hcl:cl<2^x.F):∀ n,(mQ x cl n).length=(el (bW x cl n)).length
 | 0=>by simp[mQ]
 | n+1=>by
   have hp:=aX ok.F16
   have hl:=jE ok cl n
   rw[mQ,List.length_append,List.length_map,aDJ ok hcl n]
   have e:el (bW x cl (n+1))=(List.range 16).filter fun k=>(bW x cl n).testBit k||(gF (bW x cl (n+1)) (bW x cl n)).testBit k:=by
    unfold el
    refine List.filter_congr fun k hk=>?_
    rw[List.mem_range]at hk
    rw[bS (by omega)]
    cases h:(bW x cl n).testBit k
    ·cases (bW x cl (n+1)).testBit k<;>simp;omega
    ·rw[aBn ok hcl n k h];rfl
   rw[e,tB]
   ·rfl
   ·intro k hk
    rw[bS (by omega),hk];simp
theorem aKw {x:Vn} (ok:x.Ok) {cl:Nat} (hcl:cl<2^x.F) (n:Nat):(mQ x cl n).length≤16:=by
 rw[aDJ ok hcl];exact tD _
theorem aLT {a n:Nat} {L:List (Nat×Nat)} (ha:a<65536) (hn:n≤1000) (hl:L.length+(el a).length≤16) :
 runW aA 86 [.fn (.yield 0) [] [],.pt 4 0] (gT n L++[cI a])=some (.tup [],gT n (L++(el a).map fun k=>(k,n+1))++[cI 0]):=by
 have e:=rM (n:=4) (G:=fun i=>gT n (L++((el a).take i).map fun k=>(k,n+1))) ha (fun i _=>aLN n _) (by
  intro i v hv
  have h1:=yT v n (L++((el a).take i).map fun k=>(k,n+1)) (by have:=dO hv;simp;omega) hn
  have e1:(L++((el a).take i).map fun k=>(k,n+1))++[(v,n+1)]=L++((el a).take (i+1)).map fun k=>(k,n+1):=by
   rw[List.take_add_one,hv];simp
  rw[e1]at h1
  exact h1)
 rw[List.take_length]at e
 simpa using e
theorem aLU {a:Nat} (ha:a<65536):runW aA 86 [.fn (.yield 0) [] [],.pt 3 0] (gS []++[cI a])=some (.tup [],gS ((el a).map fun k=>(k,0))++[cI 0]):=by
 have hl:=tD a
 have e:=rM (n:=3) (G:=fun i=>gS (((el a).take i).map fun k=>(k,0))) ha (fun i _=>aLO _) (by
  intro i v hv
  have h1:=yS v (((el a).take i).map fun k=>(k,0)) (by have:=dO hv;simp;omega)
  have e1:(((el a).take i).map fun k=>(k,0))++[(v,0)]=((el a).take (i+1)).map fun k=>(k,0):=by
   rw[List.take_add_one,hv];simp
  rw[e1]at h1
  exact h1)
 rw[List.take_length]at e
 simpa using e
abbrev g77 (x:Vn) (L:List (Nat×Nat)):XH:=[chO L,some (.blk true (.cells true x.c)),some (.blk false (.cells true [.ch 0]))]
theorem aHV {x:Vn} (ok:x.Ok) {cl:Nat} (hcl:cl<2^x.F) {sn:Int} {n:Nat} (hn:n≤1000) (hs:(n:Int)<sn) :
 aU 1 [1,4,7,8,30,31] (execW aA 77 1 none (match aCS with | .loop _ a=>a|c=>c) (aQ [1,4,7,8,30,31] [I cl,.pt 1 0,.pt 2 0,I (bW x cl n:Nat),I sn,I (n:Nat)]) (g77 x (mQ x cl n))) =
  some ([I cl,.pt 1 0,.pt 2 0,I (bW x cl (n+1):Nat),I sn,I (n+1:Nat)],g77 x (mQ x cl (n+1))):=by
 have hp:=aX ok.F16
 have hi:=jE ok cl n
 have hi2:=jE ok cl (n+1)
 have c1:((n:Int)<sn)=True:=eq_true hs
 have a2:IntKind.i64.wrap ((n:Int)+1)=(n:Int)+1:=aE (by omega) (by omega)
 have lb:=aHr ok hi x.bs.length
 have eb:bF x (bW x cl n) x.bs.length=bor x (bW x cl n):=by unfold bF bor;rw[List.take_length]
 rw[eb]at lb
 have d1:=iR bX (a:=bor x (bW x cl n)) (b:=cl) (by omega) (by omega)
 have dl:=iY (bor x (bW x cl n)) cl
 have ep:pF x cl (n:Int) (gF (bor x (bW x cl n)) cl) x.ps.length=bW x cl (n+1):=by unfold pF;rw[List.take_length];rfl
 have z:=Te (n:=(x.bs.length:Int))
 have z2:=Te (n:=(x.ps.length:Int))
 have d2:=iR bX (a:=bW x cl (n+1)) (b:=bW x cl n) (by omega) (by omega)
 have dl2:=iY (bW x cl (n+1)) (bW x cl n)
 have w8:=w80 (a:=gF (bW x cl (n+1)) (bW x cl n))
 have e86:=aLT (a:=gF (bW x cl (n+1)) (bW x cl n)) (n:=n) (L:=mQ x cl n) (by omega) hn (by
  have:=aKw ok hcl (n+1)
  rw[mQ,List.length_append,List.length_map]at this
  exact this)
 rw[show mQ x cl n++(el (gF (bW x cl (n+1)) (bW x cl n))).map (fun k=>(k,n+1))=mQ x cl (n+1) from rfl]at e86
 have e86:runW aA 86 [.fn (.yield 0) [] [],.pt 4 0] [some (.loop 77 1 [.pt 1 0,.pt 3 0] .ready),some (.blk false (.cells true [.ch 2])),chO (mQ x cl n),some (.blk true (.cells true [I n])),cI (gF (bW x cl (n+1)) (bW x cl n))] =
  some (.tup [],[some (.loop 77 1 [.pt 1 0,.pt 3 0] .ready),some (.blk false (.cells true [.ch 2])),chO (mQ x cl (n+1)),some (.blk true (.cells true [I n])),some (.blk true (.cells true [.int .i64 0]))]):=e86
 have rb:=fun i hh=>aFA (L:=mQ x cl n) (ill:=bW x cl n) (sn:=sn) (n:=(n:Int)) ok (o0:=gF (bor x (bW x cl n)) cl) (by omega) hcl (i:=i) hh
 have ra:=fun i hh=>aFB (L:=mQ x cl n) (cl:=cl) (sn:=sn) (n:=(n:Int)) ok hi (i:=i) hh
 unfold aCS
 dsimp only
 sym =>
  simp[Za,Zb,Zc,Zf,Zh,Zl,Zm,Zv,Zw,Z3,Z8,ZF,ZG,ZK,ZL,Ya,Yc,Ys,Xi,Wq,W3,W4,W5,W6,W7,W9,WA,WC,VQ,VT,VU,Ub,Uc,Ud,Ug,Uh,Ui,Um,Uu,Uy,U7,U8,UF,Tf,Tg,Tk,Tl,Tm,Tt,Tu,Tw,Ty,Tz,T6,T7,c1]
  tactic =>
   unfold aCT
   rw[aC x.bs.length (fun i=>[I cl,.pt 1 0,.pt 2 0,I (bF x (bW x cl n) i:Nat),.pt 3 0,I (bW x cl n:Nat),I sn,I (n:Nat),rB (x.bs.map bI),I x.bs.length,I (i:Nat)]) (fun _=>h77 x (mQ x cl n) n)]
   ·rw[eb]
    sym =>
     simp[Za,Zb,Zf,Zh,Zl,Zm,Zv,Z3,Z8,ZF,ZG,Ya,Yc,Ys,W3,W4,W5,WC,VQ,VT,VV,Ui,Uz,Te,Tf,Tg,Tk,Tt,Tu,Tx,Ty,Tz,T0,T4,T6,T7,SD,z,d1]
     tactic =>
      unfold yF
      rw[aC x.ps.length (fun i=>[I cl,.pt 1 0,.pt 2 0,I (pF x cl (n:Int) (gF (bor x (bW x cl n)) cl) i:Nat),.pt 3 0,I (bW x cl n:Nat),I sn,I (n:Nat),rP (x.ps.map pI),I x.ps.length,I (i:Nat)]) (fun _=>h77 x (mQ x cl n) n)]
      ·rw[ep]
       generalize gF (bW x cl (n+1)) (bW x cl n)=df at *
       generalize bW x cl (n+1)=q1 at *
       generalize mQ x cl (n+1)=L2 at *
       generalize bW x cl n=q0 at *
       generalize mQ x cl n=L1 at *
       (sym=>(simp[Za,Zb,Zf,Zh,Zl,Zm,Zv,Z3,ZO,ZP,ZT,ZU,Yj,Ys,YX,Xd,Xh,Xr,Xu,Xx,X0,XI,W3,W6,W9,WA,WC,WE,WF,WG,WH,WI,WJ,WK,WL,WM,WN,WO,WP,WQ,WR,WS,WT,WU,WV,WW,WY,WZ,Vb,Vc,Ve,Vf,Vg,Vh,Vi,Vj,Vk,Vl,VQ,VR,VS,VT,VV,VZ,Ua,Ub,Uc,Ud,Ue,Uf,Ug,Uh,Uk,Um,Ux,Uz,U2,U3,U4,U5,U6,Te,Tt,Tu,Tx,Ty,Tz,T0,T2,T4,T5,T6,T7,Sa,Sb,Se,Sf,Sg,Si,Sj,Sk,SD,Ri,Rk,z2,d2,w8,e86,a2];all_goals tactic=>exact rfl))
      ·(sym=>(simp[Za,Y9,YX,Xb,Xd,Xr,Xv,Xx,W3,WE,WF,WH,WI,WK,WL,WM,WO,WQ,WR,WS,WT,WY,WZ,Vb,Ve,Vf,Vg,VQ,VR,VS,VZ,Ua,Ub,Uc,Ud,Ue,Uf,Uk,Ux,U3,U4,U5,U6,T5,Ri,Rk];all_goals tactic=>exact rfl))
      ·exact rb
      ·rw[ep]
       generalize bW x cl (n+1)=q1 at *
       (sym=>(simp[Za,Zb,Zf,Zh,Zl,Zm,Z3,Ys,VQ,VT,VV,VW,Uz,Te,Tt,Tu,Tx,Tz,T0,T6,z2];all_goals tactic=>exact rfl))
   ·(sym=>(simp[Za,Y9,YX,Xb,Xd,Xr,Xv,Xx,W3,WE,WF,WH,WI,WK,WL,WM,WO,WQ,WR,WS,WT,WY,WZ,Vb,Ve,Vf,Vg,VQ,VR,VS,VZ,Ua,Ub,Uc,Ud,Ue,Uf,Uk,Ux,U3,U4,U5,U6,T5,Ri,Rk];all_goals tactic=>exact rfl))
   ·exact ra
   ·(sym=>(simp[Za,Zb,Zf,Zh,Zl,Zm,Z3,Ys,VQ,VT,VV,VW,Uz,Te,Tt,Tu,Tx,Tz,T0,T6,z];all_goals tactic=>exact rfl))
theorem aHw {run:fW} {runY:iA} {l:List DOper} {e:aH} {h:XH}:eQ run runY l e h=xo none run runY l e h:=rfl
abbrev chC (L:List (Nat×Nat)):Option XB:=some (.blk true (.map true ((.agg [.agg []],.fp [] 16 1)::aBZ L)))
theorem w77 {x:Vn} (ok:x.Ok) {cl:Nat} (hcl:cl<2^x.F) {sn:Nat} (hs:sn≤1000):runW aA 77 [.agg x.c,I cl,I sn,.ch 0] [chO []]=some (.tup [],[chC (mQ x cl sn)]):=by
 have hp:=aX ok.F16
 have hi:=jE ok cl 0
 have hk:=ok.s
 have d1:=iR bX (a:=x.sick) (b:=cl) (by omega) (by omega)
 rw[show gF x.sick cl=bW x cl 0 from rfl]at d1
 have w8:=w80 (a:=bW x cl 0)
 have e86:runW aA 86 [.fn (.yield 0) [] [],.pt 3 0] [some (.loop 77 0 [.pt 1 0] .ready),some (.blk false (.cells true [.ch 2])),some (.blk true (.map true [(.agg [.agg []],.fp [] 16 0)])),cI (bW x cl 0)] =
  some (.tup [],[some (.loop 77 0 [.pt 1 0] .ready),some (.blk false (.cells true [.ch 2])),chO (mQ x cl 0),some (.blk true (.cells true [.int .i64 0]))]):=aLU (a:=bW x cl 0) (by omega)
 have z:=Te (n:=(sn:Int))
 rw[r77 (by simp)]
 unfold x77
 dsimp only
 rw[aHw]
 have rd:=fun i (hh:i<sn)=>aHV (x:=x) ok hcl (sn:=(sn:Int)) (n:=i) (by omega) (by omega)
 generalize hf0:mQ x cl 0=L0 at e86
 generalize hi0:bW x cl 0=q0 at e86 w8 d1
 sym =>
  simp[Za,Zb,Zf,Zh,Zl,Zm,Zo,Zv,Zz,Z3,Z8,ZG,ZO,ZP,ZT,ZU,Ya,YX,Xd,Xh,Xi,Xk,Xl,Xr,Xu,Xx,X0,XI,We,Wg,Wi,Ws,W3,W4,W5,W6,W9,WA,WB,WC,WE,WF,WG,WH,WJ,WK,WL,WM,WN,WP,WQ,WU,WV,WW,WY,WZ,Vb,Vc,Vf,Vg,Vh,Vi,Vj,Vk,Vl,VO,VY,VZ,Ua,Ub,Uc,Ud,Ug,Uh,Uk,Um,Ux,U2,U3,U4,U5,U6,U7,U8,UD,UE,US,UT,Tf,Tg,Tk,Tn,Tt,Tu,Ty,Tz,T2,T6,T7,Sa,Sb,Se,Sf,Sg,Si,Sj,Sk,SD,Re,Rf,Ri,Rj,Rk,Rm,Ro,d1,w8,e86]
  tactic =>
   unfold aCS
   rw[aC sn (fun i=>[I cl,.pt 1 0,.pt 2 0,I (bW x cl i:Nat),I sn,I (i:Nat)]) (fun i=>g77 x (mQ x cl i))]
   ·generalize bW x cl sn=q at *
    generalize mQ x cl sn=L at *
    (sym=>(simp[Za,Zb,Zf,Zh,Zl,Zm,Z3,Ys,Xa,Xu,XM,Wh,W3,W6,WK,WO,WQ,WR,WS,WY,WZ,Ve,Vf,Vv,VA,VC,VD,VE,VF,VH,VJ,VQ,VT,VV,VZ,Ua,Ud,Ue,Uf,Uz,U3,U4,U5,U9,UD,Te,Tt,Tu,Tx,Tz,T0,T4,T6,Sw,Rc,Rd,Rg,Rh,z];all_goals tactic=>exact rfl))
   ·rw[hf0,hi0]; (sym=>(simp[Za,Y9,YX,Xd,Xr,Xx,W3,WB,WE,WF,WH,WI,WK,WL,WM,WO,WQ,WR,WS,WT,WY,WZ,Vb,Ve,Vf,Vg,VO,VR,VS,VZ,Ua,Ub,Uc,Ud,Ue,Uf,Uk,Ux,U3,U4,U5,U6,T5,Ri,Rk];all_goals tactic=>exact rfl))
   ·exact rd
   ·generalize bW x cl sn=q at *
    generalize mQ x cl sn=L at *
    (sym=>(simp[Za,Zb,Zf,Zh,Zl,Zm,Z3,Ys,VQ,VT,VV,VW,Uz,Te,Tt,Tu,Tx,Tz,T0,T6,z];all_goals tactic=>exact rfl))
abbrev nev:Int:=1125899906842624
theorem w50:∀ F,F<16→runW aA 50 [.sl 0 0 1 1,I ((F+1:Nat):Int)] [some (.blk true (.cells true [I nev]))]=some (.sl 1 0 1 (F+1),[some (.blk true (.cells true [I nev])),some (.blk true (.cells true ((List.replicate (F+1) nev).map I)))])
 | 0,_=>aV.2 ⟨400,by kernel_rfl⟩
 | 1,_=>aV.2 ⟨400,by kernel_rfl⟩
 | 2,_=>aV.2 ⟨400,by kernel_rfl⟩
 | 3,_=>aV.2 ⟨400,by kernel_rfl⟩
 | 4,_=>aV.2 ⟨400,by kernel_rfl⟩
 | 5,_=>aV.2 ⟨400,by kernel_rfl⟩
 | 6,_=>aV.2 ⟨400,by kernel_rfl⟩
 | 7,_=>aV.2 ⟨400,by kernel_rfl⟩
 | 8,_=>aV.2 ⟨400,by kernel_rfl⟩
 | 9,_=>aV.2 ⟨400,by kernel_rfl⟩
 | 10,_=>aV.2 ⟨400,by kernel_rfl⟩
 | 11,_=>aV.2 ⟨400,by kernel_rfl⟩
 | 12,_=>aV.2 ⟨400,by kernel_rfl⟩
 | 13,_=>aV.2 ⟨400,by kernel_rfl⟩
 | 14,_=>aV.2 ⟨400,by kernel_rfl⟩
 | 15,_=>aV.2 ⟨400,by kernel_rfl⟩
 | _+16,h=>absurd h (by omega)

abbrev gW (x:Vn) (cl sn:Nat) (l:List Int) (c:Option XB):XH:=[some (.loop 20 0 [.pt 1 0] .ready),some (.blk false (.cells true [.sl 2 0 1 l.length])),some (.blk true (.cells true (l.map I))),some (.blk true (.cells true x.c)),some (.blk true (.cells true [I cl])),some (.blk true (.cells true [I sn])),c]
theorem y20 {l:List Int} {v n:Nat} (hv:v<l.length) (hl:l.length≤16):runYW aA (.fn (.yield 0) [] []) [.agg [I (v:Nat),I (n:Nat)]] [some (.loop 20 0 [.pt 1 0] .ready),some (.blk false (.cells true [.sl 2 0 1 l.length])),some (.blk true (.cells true (l.map I)))]=some (.bool true,[some (.loop 20 0 [.pt 1 0] .ready),some (.blk false (.cells true [.sl 2 0 1 l.length])),some (.blk true (.cells true ((l.set v n).map I)))]):=by
 have e0:((0:Int)≤(v:Int))=True:=eq_true (by omega)
 have e1:((v:Int)<((l.length:Nat):Int))=True:=eq_true (by omega)
 have e6:(v+1≤l.length)=True:=eq_true (by omega)
 rw[←aFp hv]
 generalize hk:l.length=k at *
 rw[jO (K:=20) (d:=x20) (site:=0) (vs:=[.pt 1 0]) rfl rfl (by rfl) rfl]
 (sym=>(simp[Za,Zb,Zc,Zf,Zh,Zl,Zm,Zw,Z8,ZA,ZG,ZK,ZL,Ya,Yf,Yw,Yx,YY,Xc,Xd,Xi,Xs,Xw,Xx,Wq,Ws,W3,W4,W5,W6,W7,W9,WA,WC,WE,WI,WK,WM,WO,WQ,WR,WS,WY,WZ,Vb,Vc,Ve,Vf,Vg,Vh,VB,VE,VQ,VZ,Ua,Ub,Uc,Ud,Ue,Uf,Ug,Uh,Ui,Um,Uu,Ux,U3,U4,U5,U6,U7,U8,UF,UQ,UR,Tf,Tg,Tk,Tl,Tm,Ty,T2,T6,TI,TJ,TN,Sa,Sb,Sc,Sd,Sm,Sn,Sp,Sq,e0,e1,e6,hk];all_goals tactic=>exact rfl))
theorem aFC {x:Vn} {cl sn k:Nat} {l:List Int} {p:Nat×Nat} {L:List (Nat×Nat)} (hl:l.length=k) (hk:k≤16) (hv:p.1<k) :
 aU 6 [0,13] (execW aA 76 6 none (match aCU with | .loop _ a=>a|c=>c) (aQ [0,13] [.fn (.yield 0) [] [],.ch 6]) (gW x cl sn l (chC (p::L))))=some ([.fn (.yield 0) [] [],.ch 6],gW x cl sn (l.set p.1 p.2) (chC L)):=by
 have y:=y20 (n:=p.2) (l:=l) (v:=p.1) (by omega) (by omega)
 rw[gW,gW,List.length_set,hl]at *
 unfold aCU
 dsimp only
 have e1:chC (p::L)=some (.blk true (.map true ((.agg [.agg []],.fp [] 16 1)::(.nilifc,.agg [I p.1,I p.2])::aBZ L))):=rfl
 rw[e1,show chC L=some (.blk true (.map true ((.agg [.agg []],.fp [] 16 1)::aBZ L))) from rfl]
 generalize aBZ L=sl
 generalize l.set p.1 (p.2:Int)=l2 at *
 (sym=>(simp[Za,Zb,Zc,Zf,Zg,Zh,Zj,Zl,Zm,Zv,Zw,Z5,ZE,ZG,ZK,ZL,ZO,ZP,ZX,Yi,YX,YZ,Xc,Xd,Xh,Xi,Xr,Xs,Xt,Xw,Xx,XI,Ws,W3,W4,W5,W6,W7,W8,W9,WA,WC,WE,WF,WG,WH,WI,WJ,WK,WL,WM,WN,WO,WP,WQ,WR,WS,WT,WU,WV,WW,WY,WZ,Vb,Vc,Ve,Vf,Vg,Vh,Vi,Vj,Vk,Vl,Vv,Vx,Vy,V0,V1,V3,VQ,VR,VS,VT,VU,VV,VZ,Ua,Ub,Uc,Ud,Ue,Uf,Ug,Uh,Uk,Um,Uq,Uu,Ux,U2,U3,U4,U5,U6,U7,U8,UF,Tf,Tg,Tj,Tl,Tm,Tu,Tw,Ty,Tz,T2,T5,T6,Sl,SE,SF,SG,SJ,SK,SL,SQ,SY,SZ,Rb,Ri,Rk,y];all_goals tactic=>exact rfl))
def whL (F:Nat) (L:List (Nat×Nat)):List Int:=L.foldl (fun o p=>o.set p.1 (p.2:Int)) (List.replicate F nev)
theorem uK {F:Nat} {L:List (Nat×Nat)}:(whL F L).length=F:=by
 have:∀ (M:List (Nat×Nat)) (o:List Int),(M.foldl (fun o p=>o.set p.1 (p.2:Int)) o).length=o.length:=by
  intro M
  induction M with
  | nil=>intro o;rfl
  | cons p M ih=>intro o;rw[List.foldl_cons,ih,List.length_set]
 rw[whL,this,List.length_replicate]
theorem aEW {F:Nat} {L:List (Nat×Nat)} {i:Nat} {p:Nat×Nat} (h:L[i]?=some p):whL F (L.take (i+1))=(whL F (L.take i)).set p.1 (p.2:Int):=by
 rw[whL,List.take_add_one,h,List.foldl_append];rfl
theorem aMq {x:Vn} (ok:x.Ok) {cl sn:Nat} (hcl:cl<2^x.F) (hs:sn≤1000) (hm:∀ p∈mQ x cl sn,p.1<x.F) :
 runW aA 76 [.fn (.yield 0) [] [],.pt 3 0,.pt 4 0,.pt 5 0] [some (.loop 20 0 [.pt 1 0] .ready),some (.blk false (.cells true [.sl 2 0 1 x.F])),some (.blk true (.cells true ((List.replicate x.F nev).map I))),some (.blk true (.cells true x.c)),some (.blk true (.cells true [I cl])),some (.blk true (.cells true [I sn]))] =
  some (.tup [],[some (.loop 20 0 [.pt 1 0] .ready),some (.blk false (.cells true [.sl 2 0 1 x.F])),some (.blk true (.cells true ((whL x.F (mQ x cl sn)).map I))),some (.blk true (.cells true x.c)),some (.blk true (.cells true [I cl])),some (.blk true (.cells true [I sn]))]):=by
 have w:=w77 ok hcl hs
 have hF:=ok.F16
 generalize hL:mQ x cl sn=L at *
 have rd:=fun(i:Nat) (hi:i<L.length)=>aFC (x:=x) (cl:=cl) (sn:=sn) (L:=L.drop (i+1)) (p:=L[i]) (uK (F:=x.F) (L:=L.take i)) hF (hm _ (List.getElem_mem hi))
 have z:(whL x.F (L.take 0))=List.replicate x.F nev:=rfl
 generalize hr:(List.replicate x.F nev)=rp at *
 have zl:rp.length=x.F:=by rw[←hr,List.length_replicate]
 have zw:(whL x.F L).length=x.F:=uK
 rw[r76 (by simp)];unfold x76;dsimp only
 have w:runW aA 77 [.agg x.c,I cl,I sn,.ch 0] [some (.blk true (.map true [(.agg [.agg []],.fp [] 16 0)]))]=some (.tup [],[some (.blk true (.map true ((.agg [.agg []],.fp [] 16 1)::aBZ L)))]):=w
 generalize hs0:aBZ L=sl at *
 generalize hwl:whL x.F L=wl at *
 sym =>
  simp[Za,Zb,Zf,Zg,Zh,Zj,Zl,Zm,Zv,ZG,ZO,ZP,ZT,ZU,YX,YZ,Xb,Xr,Xt,Xu,Xv,Wl,Wp,W3,W4,W5,W6,W7,W8,W9,WA,WB,WC,WE,WG,WH,WK,WL,WM,WN,WP,WQ,WU,WV,WW,WY,WZ,Vf,Vi,Vj,Vk,Vl,Vv,Vx,Vy,Vz,V0,V1,V3,VO,VY,VZ,Ua,Ub,Uc,Ud,Ug,Uh,Ux,U2,U3,U4,U5,U6,UD,UE,Tf,Tg,Tj,Tk,Tu,Ty,Tz,T6,T7,Sw,SE,SF,SG,SI,SJ,SK,SL,SS,Ri,Rk,Rl,Rm,w]
  tactic =>
   unfold aCU
   rw[aC L.length (fun _=>[.fn (.yield 0) [] [],.ch 6]) (fun i=>gW x cl sn (whL x.F (L.take i)) (chC (L.drop i)))]
   ·rw[show whL x.F (L.take L.length)=wl from by rw[List.take_length];exact hwl,show chC (L.drop L.length)=some (.blk true (.map true [(.agg [.agg []],.fp [] 16 1)])) from by rw[List.drop_length];rfl,gW,zw]; (sym=>(simp[Za,Zb,Zf,Zh,Zl,Zm,ZE,ZO,Yi,Xa,Xc,Xd,Xu,Xw,Xx,XM,Wh,W3,W6,WC,WE,WI,WK,WM,WO,WQ,WR,WS,WY,WZ,Vb,Vc,Ve,Vf,Vg,Vh,Vv,V8,VA,VC,VD,VE,VF,VH,VJ,VQ,VT,VV,VZ,Ua,Ub,Uc,Ud,Ue,Uf,Ux,U3,U4,U5,U6,U9,UD,Tu,Tx,Tz,T0,T4,T6,Sw,SQ,SY,Ra,Rb];all_goals tactic=>exact rfl))
   ·rw[z,show chC (L.drop 0)=some (.blk true (.map true ((.agg [.agg []],.fp [] 16 1)::sl))) from by rw[←hs0];rfl,gW,zl]; (sym=>(simp[Za,Xc,Xd,Xh,Xw,Xx,XI,W3,WB,WE,WF,WH,WI,WK,WL,WM,WO,WQ,WR,WS,WT,WY,WZ,Vb,Vc,Ve,Vf,Vg,Vh,VO,VR,VS,VZ,Ua,Ub,Uc,Ud,Ue,Uf,Uk,Ux,U3,U4,U5,U6,T5,SF,SI,Ri,Rk];all_goals tactic=>exact rfl))
   ·intro i hi
    have h:=rd i hi
    rw[←aEW (List.getElem?_eq_getElem hi),List.getElem_cons_drop]at h
    exact h
   ·rw[show whL x.F (L.take L.length)=wl from by rw[List.take_length];exact hwl,show chC (L.drop L.length)=some (.blk true (.map true [(.agg [.agg []],.fp [] 16 1)])) from by rw[List.drop_length];rfl,gW,zw]; (sym=>(simp[Za,Zb,Zf,Zh,Zl,Zm,ZE,ZO,Yi,W3,W6,WC,VQ,VT,VV,VW,Tu,Tx,Tz,T0,T6,SQ,SY,Ra,Rb];all_goals tactic=>exact rfl))
end Go.Proofs.YtiabjdfdkiijmaaDoor
namespace Go.Proofs.YtiabjdfdkiijmaaDoor
open Go Go.DL

theorem aEv {x:Vn} (ok:x.Ok) {cl:Nat} (hcl:cl<2^x.F) {i:Nat} {m n:Nat} (h:m≤n) (hi:(bW x cl m).testBit i=true):(bW x cl n).testBit i=true:=by
 induction n with
 | zero=>rw[show m=0 by omega]at hi;exact hi
 | succ n ih =>
   by_cases e:m=n+1
   ·rw[←e];exact hi
   ·exact aBn ok hcl n i (ih (by omega))
theorem fK {a F i:Nat} (h:a<2^F) (hi:a.testBit i=true):i<F:=by
 by_cases e:i<F
 ·exact e
 ·rw[qB h (by omega)]at hi;simp at hi
theorem aJD {x:Vn} (ok:x.Ok) {cl:Nat}:∀ n,∀ p∈mQ x cl n,p.1<x.F
 | 0=>by
   intro p hp
   simp only[mQ,List.mem_map,iI]at hp
   obtain⟨k,hk,rfl⟩:=hp
   exact fK (jE ok cl 0) hk.2
 | n+1=>by
   intro p hp
   rw[mQ,List.mem_append]at hp
   rcases hp with hp|hp
   ·exact aJD ok n p hp
   ·simp only[List.mem_map,iI]at hp
    obtain⟨k,hk,rfl⟩:=hp
    exact fK (tE (jE ok cl (n+1))) hk.2
def whO (x:Vn) (cl n f:Nat):Int:=match (List.range (n+1)).find? (fun m=>(bW x cl m).testBit f)with
 | some m=>(m:Int)
 | none=>nev
theorem zZ {c:Int} (f:Nat):∀ (ks:List Nat) (l:List Int),((ks.map fun k=>(k,c)).foldl (fun o p=>o.set p.1 p.2) l)[f]?=if f∈ks∧f<l.length then some c else l[f]?
 | [],l=>by simp
 | k::ks,l=>by
   rw[List.map_cons,List.foldl_cons,zZ f ks,List.length_set,List.getElem?_set]
   by_cases h1:f∈ks
   ·by_cases h2:f<l.length
    ·simp[h1,h2]
    ·have:l[f]?=none:=List.getElem?_eq_none (by omega)
     simp only[h1,h2,and_false,if_false,List.mem_cons,or_true,this]
     split
     ·next h=>rw[if_neg (by omega)]
     ·rfl
   ·by_cases hk:k=f
    ·subst hk
     simp only[h1,false_and,if_false,if_true,List.mem_cons,true_or,true_and]
     split
     ·rfl
     ·rw[List.getElem?_eq_none (by omega)]
    ·have:¬f∈k::ks:=by simp[h1];omega
     simp[h1,hk];intro h;omega
theorem aEV {x:Vn} (ok:x.Ok) {cl:Nat} (hcl:cl<2^x.F) (n f:Nat):whO x cl (n+1) f=if (bW x cl (n+1)).testBit f && !(bW x cl n).testBit f then ((n+1:Nat):Int) else whO x cl n f:=by
 unfold whO
 rw[List.range_succ,List.find?_append]
 by_cases h1:(bW x cl n).testBit f=true
 ·rw[h1]
  have:∃ m,(List.range (n+1)).find? (fun m=>(bW x cl m).testBit f)=some m:=by
   cases h:(List.range (n+1)).find? (fun m=>(bW x cl m).testBit f)with
   | some m=>exact⟨m,rfl⟩
   | none =>
     rw[List.find?_eq_none]at h
     exact absurd h1 (h n (List.mem_range.2 (by omega)))
  obtain⟨m,hm⟩:=this
  rw[hm];simp
 ·have:(List.range (n+1)).find? (fun m=>(bW x cl m).testBit f)=none:=by
   rw[List.find?_eq_none]
   intro m hm h
   rw[List.mem_range]at hm
   exact h1 (aEv ok hcl (by omega) h)
  rw[this]
  simp only[Bool.not_eq_true]at h1
  rw[h1,List.find?_singleton]
  cases (bW x cl (n+1)).testBit f<;>simp
theorem aHx {x:Vn} (ok:x.Ok) {cl:Nat} (hcl:cl<2^x.F):∀ n,whL x.F (mQ x cl n)=(List.range x.F).map (whO x cl n):=by
 have hF:=ok.F16
 have hp:=aX hF
 intro n
 apply List.ext_getElem?
 intro f
 rw[List.getElem?_map]
 by_cases hf:f<x.F
 ·rw[List.getElem?_range hf]
  show _=some (whO x cl n f)
  induction n with
  | zero =>
    rw[whL,mQ]
    have:=zZ (c:=0) f (el (bW x cl 0)) (List.replicate x.F nev)
    rw[List.foldl_map]at this ⊢
    rw[show (fun(o:List Int) (k:Nat)=>o.set (k,0).1 ((k,0).2:Nat))=(fun(o:List Int) (k:Nat)=>o.set (k,(0:Int)).1 (k,(0:Int)).2) from rfl,this]
    rw[List.length_replicate,List.getElem?_replicate]
    simp only[iI]
    unfold whO
    rw[List.range_succ,List.range_zero,List.nil_append,List.find?_singleton]
    cases (bW x cl 0).testBit f
    ·simp[hf]
    ·have:f<16:=by omega
     simp[hf,this]
  | succ n ih =>
    have hl:=jE ok cl n
    rw[aEV ok hcl]
    have:=zZ (c:=((n+1:Nat):Int)) f (el (gF (bW x cl (n+1)) (bW x cl n))) (whL x.F (mQ x cl n))
    rw[whL,mQ,List.foldl_append]
    rw[List.foldl_map]at this ⊢
    rw[show (fun(o:List Int) (k:Nat)=>o.set (k,n+1).1 ((k,n+1).2:Nat))=(fun(o:List Int) (k:Nat)=>o.set (k,((n+1:Nat):Int)).1 (k,((n+1:Nat):Int)).2) from rfl]
    rw[show List.foldl (fun(o:List Int) (p:Nat×Nat)=>o.set p.1 (p.2:Int)) (List.replicate x.F nev) (mQ x cl n)=whL x.F (mQ x cl n) from rfl,this,ih,uK]
    simp only[iI,bS (show bW x cl n<2^64 by omega)]
    have h16:f<16:=by omega
    have h64:f<64:=by omega
    simp only[h16,h64,hf,true_and,and_true,decide_true,Bool.true_and]
    split<;>rfl
 ·rw[List.getElem?_eq_none (by rw[uK];omega),List.getElem?_eq_none (by rw[List.length_range];omega)];rfl
end Go.Proofs.YtiabjdfdkiijmaaDoor
namespace Go.Proofs.YtiabjdfdkiijmaaDoor
open Go Go.DL
set_option maxRecDepth 100000
set_option maxHeartbeats 4000000
theorem w51 (x:Vn) (cl sn:Nat):runW aA 51 [.agg x.c,I cl,I sn] []=some (.fn (.func 76) [] [.pt 0 0,.pt 1 0,.pt 2 0],[some (.blk true (.cells true x.c)),some (.blk true (.cells true [I cl])),some (.blk true (.cells true [I sn]))]):=by
 rw[r51 (by simp)];unfold x51;dsimp only
 (sym=>(simp[Za,Zb,Zf,Zh,Zl,Zo,Zv,Zx,Zz,Xd,Xg,Xi,Xk,Xl,Xx,X0,XV,We,Wg,Wi,Wo,Wq,Ws,W3,WB,WE,WF,WH,WI,WK,WL,WM,WO,WQ,WR,WS,WT,WY,WZ,Vf,Vv,V9,VA,VC,VD,VE,VF,VG,VJ,VK,VL,VM,VO,VY,VZ,Ua,Ub,Uc,Ud,Uf,Ug,Uh,Uk,Um,Ux,U3,U4,U5,U6,U7,U8,UD,UE,US,UT,Tn,Tu,Tv,Tz,T6,T7,TK,Sw];all_goals tactic=>exact rfl))
def aDf (x:Vn):List Int:=(List.range x.F).map (whO x 0 117)
theorem w20 (v:Va) (hb:v.bs.length<1000000000) (hp:v.ps.length<1000000000) :
 (vE v≠0∧runW aA 20 [.agg v.c] []=some (.tup [.fs [],I (vE v)],[]))∨(vE v=0∧∃ (x:Vn),x.Ok∧v=x.v∧runW aA 20 [.agg v.c] []=some (.tup [nL (aDf x),I 0],[])):=by
 have e0:=w23 v hb hp
 by_cases hv:vE v=0
 ·right
  refine⟨hv,?_⟩
  rw[hv]at e0
  obtain⟨x,ok,rfl⟩:=aJL hv
  refine⟨x,ok,rfl,?_⟩
  have e0:runW aA 23 [.agg x.c] []=some (I 0,[]):=e0
  have h0:0<2^x.F:=Nat.two_pow_pos _
  have e1:runW aA 51 [.agg x.c,I 0,I 117] []=some (.fn (.func 76) [] [.pt 0 0,.pt 1 0,.pt 2 0],[some (.blk true (.cells true x.c)),some (.blk true (.cells true [I 0])),some (.blk true (.cells true [I 117]))]):=w51 x 0 117
  have e2:=aMq ok h0 (sn:=117) (by omega) (fun p hp=>aJD ok 117 p hp)
  have e5:=w50 (x.F-1) (by have:=ok.F16;omega)
  rw[show x.F-1+1=x.F by have:=ok.F1;omega]at e5
  rw[aHx ok h0]at e2
  show runW aA 20 [.agg x.c] []=_
  rw[show nL (aDf x)=nL ((List.range x.F).map (whO x 0 117)) from rfl]
  have hz:((List.range x.F).map (whO x 0 117)).length=x.F:=by simp
  generalize (List.range x.F).map (whO x 0 117)=os at *
  generalize hr:List.replicate x.F nev=rp at *
  have e2:runW aA 76 [.fn (.yield 0) [] [],.pt 3 0,.pt 4 0,.pt 5 0] [some (.loop 20 0 [.pt 1 0] .ready),some (.blk false (.cells true [.sl 2 0 1 x.F])),some (.blk true (.cells true (rp.map I))),some (.blk true (.cells true x.c)),some (.blk true (.cells true [I 0])),some (.blk true (.cells true [I 117]))] =
   some (.tup [],[some (.loop 20 0 [.pt 1 0] .ready),some (.blk false (.cells true [.sl 2 0 1 x.F])),some (.blk true (.cells true (os.map I))),some (.blk true (.cells true x.c)),some (.blk true (.cells true [I 0])),some (.blk true (.cells true [I 117]))]):=e2
  have z1:(x.F≤os.length)=True:=eq_true (by omega)
  have z2:dF (os.map I) 0 1 x.F=os.map fun v=>[I v]:=by rw[←hz];exact TO
  rw[r20 (by simp)];unfold x20;dsimp only
  (sym=>(simp[Za,Zb,Zc,Zd,Ze,Zf,Zg,Zh,Zj,Zl,Zm,Zo,Zv,Zw,Zz,Z1,Z3,Z8,ZG,ZK,ZL,ZO,ZP,ZT,ZU,Ya,Yr,YX,YZ,Xa,Xb,Xc,Xd,Xh,Xi,Xk,Xl,Xm,Xo,Xr,Xt,Xu,Xv,Xw,Xx,X0,XI,XJ,XM,XO,XX,XZ,Wb,We,Wg,Wh,Wi,Wq,Ws,Wu,W3,W4,W5,W6,W7,W8,W9,WA,WB,WC,WE,WF,WG,WH,WJ,WK,WL,WM,WN,WO,WP,WQ,WR,WS,WU,WV,WW,WY,WZ,Vb,Vc,Vf,Vg,Vh,Vi,Vj,Vk,Vl,Vs,Vt,Vu,Vv,Vw,Vx,Vy,V0,V1,V3,V4,V5,V6,V7,V9,VA,VC,VD,VE,VF,VI,VJ,VK,VL,VM,VO,VT,VV,VY,VZ,Ua,Ub,Uc,Ud,Uf,Ug,Uh,Ui,Uk,Um,Uo,Uq,Uu,Ux,Uy,U0,U1,U2,U3,U4,U5,U6,U7,U8,U9,UA,UB,UC,UD,UE,UF,UG,UH,UI,US,UT,UU,UV,UW,UX,Tf,Tg,Tj,Tk,Tl,Tm,Tn,Tt,Tu,Tv,Tw,Ty,Tz,T2,T6,T7,TI,TJ,TP,Sa,Sb,Se,Sf,Sg,Si,Sj,Sk,Sw,Sx,Sy,SE,SF,SG,SJ,SK,SL,e0,e1,e2,e5,z1,z2];all_goals tactic=>exact rfl))
 ·left
  refine⟨hv,?_⟩
  have n0:=xW hv
  generalize vE v=er at *
  rw[r20 (by simp)];unfold x20;dsimp only
  (sym=>(simp[Za,Zb,Zf,Zg,Zh,Zj,Zl,Zm,Zo,Zv,Zz,Z3,ZG,ZO,ZP,ZT,ZU,Yr,YX,YZ,Xa,Xb,Xi,Xk,Xl,Xr,Xt,Xu,Xv,XJ,XM,XQ,We,Wg,Wh,Wi,Wm,Ws,W3,W4,W5,W7,W8,W9,WA,WB,WK,WN,WO,WP,WQ,WR,WS,WU,WV,Vi,Vj,Vk,Vv,Vx,Vy,V0,V1,V3,V9,VA,VC,VD,VE,VF,VI,VJ,VK,VL,VM,VO,VT,VU,VY,VZ,Ua,Uc,Ud,Uf,Ug,Uh,Um,Ur,Uz,U2,U3,U4,U5,U6,U7,U8,U9,UA,UD,UE,US,UT,Tf,Tg,Tj,Tn,Tt,Tu,Tv,Tz,T1,T6,T7,Sw,SE,SF,SG,SJ,SK,SL,e0,n0];all_goals tactic=>exact rfl))
abbrev gO (x:Vn):List Int→XH
 | []=>[some (.blk true (.cells true x.c))]
 | a::r=>[some (.blk true (.cells true x.c)),some (.blk true (.cells true (I a::r.map I)))]
section
variable {x:Vn} (ok:x.Ok) {c:List Int} (hc:c.length<1000000000)
include ok hc
end
def eW (x:Vn) (st:Nat→Nat):List AV:=x.c++(List.range 16).map fun k=>I (st k)
theorem eE (x:Vn) (st:Nat→Nat):(eW x st).length=22:=by simp[eW]
theorem iX {x:Vn} {st:Nat→Nat} {k:Nat} (h:k<16):(eW x st)[6+k]?=some (I (st k)):=by
 rw[eW,List.getElem?_append_right (by simp),show 6+k-x.c.length=k by simp,List.getElem?_map,List.getElem?_range h];rfl
theorem jN {l:List AV} {o:Nat} {v:AV} (h:o<l.length):bU l o [v]=l.set o v:=by
 rw[List.set_eq_take_append_cons_drop,if_pos h,bU];simp
def uC (st:Nat→Nat) (k v:Nat):Nat→Nat:=fun j=>if j=k then v else st j
theorem uV {x:Vn} {st:Nat→Nat} {k v:Nat} (h:k<16):bU (eW x st) (6+k) [I v]=eW x (uC st k v):=by
 rw[jN (by rw[eE];omega)]
 apply List.ext_getElem?
 intro j
 rw[List.getElem?_set,eE]
 by_cases hj:6+k=j
 ·subst hj
  rw[if_pos rfl,if_pos (by omega),iX h,uC,if_pos rfl]
 ·rw[if_neg hj]
  by_cases h6:j<6
  ·rw[eW,eW,List.getElem?_append_left (by simpa using h6),List.getElem?_append_left (by simpa using h6)]
  ·by_cases h22:j<22
   ·obtain⟨i,rfl⟩:∃ i,j=6+i:=⟨j-6,by omega⟩
    rw[iX (by omega),iX (by omega),uC,if_neg (by omega)]
   ·rw[List.getElem?_eq_none (by rw[eE];omega),List.getElem?_eq_none (by rw[eE];omega)]
def addS (st:Nat→Nat) (a b:Nat):Nat→Nat:=uC st a (st a|||2^b)
def stB (x:Vn) (i:Nat):Nat→Nat:=(x.bs.take i).foldl (fun st b=>addS (addS st b.1 b.2) b.2 b.1) fun _=>0
def stP (x:Vn) (i:Nat):Nat→Nat:=(x.ps.take i).foldl (fun st p=>addS st p.2.1 p.2.2) (stB x x.bs.length)
def cQ (x:Vn):Nat→Nat:=stP x x.ps.length
theorem aAw {n:Nat} {st:Nat→Nat} {a b:Nat} (h:∀ k,st k<2^n) (hb:b<n):∀ k,addS st a b k<2^n:=by
 intro k
 unfold addS uC
 split
 ·exact qW (h a) hb
 ·exact h k
theorem aFg {x:Vn} (ok:x.Ok):∀ i k,stB x i k<2^x.F:=by
 intro i
 have:∀ (l:List (Nat×Nat)) (st:Nat→Nat),(∀ b∈l,b.1<x.F∧b.2<x.F)→(∀ k,st k<2^x.F)→∀ k,(l.foldl (fun st b=>addS (addS st b.1 b.2) b.2 b.1) st) k<2^x.F:=by
  intro l
  induction l with
  | nil=>intro st _ h;exact h
  | cons b l ih =>
    intro st hl h
    have hb:=hl b List.mem_cons_self
    exact ih _ (fun c hc=>hl c (List.mem_cons_of_mem _ hc)) (aAw (aAw h hb.2) hb.1)
 exact this _ _ (fun b hb=>by have:=ok.b b (List.mem_of_mem_take hb);exact⟨this.1,this.2.1⟩) (fun _=>Nat.two_pow_pos _)
theorem eR {x:Vn} (ok:x.Ok):∀ i k,stP x i k<2^x.F:=by
 intro i
 have:∀ (l:List (Nat×Nat×Nat)) (st:Nat→Nat),(∀ b∈l,b.2.2<x.F)→(∀ k,st k<2^x.F)→∀ k,(l.foldl (fun st p=>addS st p.2.1 p.2.2) st) k<2^x.F:=by
  intro l
  induction l with
  | nil=>intro st _ h;exact h
  | cons b l ih =>
    intro st hl h
    exact ih _ (fun c hc=>hl c (List.mem_cons_of_mem _ hc)) (aAw h (hl b List.mem_cons_self))
 exact this _ _ (fun b hb=>(ok.p b (List.mem_of_mem_take hb)).2.2.1) (aFg ok _)
abbrev gL (x:Vn) (st:Nat→Nat):XH:=[some (.blk true (.cells true x.c)),some (.blk true (.cells true (eW x st)))]
theorem aFI {x:Vn} (ok:x.Ok) {i:Nat} (hi:i<x.bs.length) :
 aU 0 [1,5,19,20,21] (execW aA 56 0 none (match aDb with | .loop _ a=>a|c=>c) (aQ [1,5,19,20,21] [.pt 0 0,.pt 1 0,rB (x.bs.map bI),I x.bs.length,I (i:Nat)]) (gL x (stB x i)))=some ([.pt 0 0,.pt 1 0,rB (x.bs.map bI),I x.bs.length,I (i+1:Nat)],gL x (stB x (i+1))):=by
 obtain⟨b,hx⟩:=aW hi
 have hb:=ok.b b (List.mem_of_getElem? hx)
 have hF:=ok.F16
 have hp:=aX hF
 have a1:=cZ hi
 have a2:=fI hi (by have:=ok.nb;omega)
 have l0:=aFg ok i
 have up:stB x (i+1)=addS (addS (stB x i) b.1 b.2) b.2 b.1:=jF hx _
 rw[up]
 generalize stB x i=st at *
 have e1:=w62 (j:=b.1) (by omega)
 have e2:=w62 (j:=b.2) (by omega)
 have n1:((0:Int)≤b.1)=True:=eq_true (by omega)
 have n2:((0:Int)≤b.2)=True:=eq_true (by omega)
 have m1:((b.1:Int)<16)=True:=eq_true (by omega)
 have m2:((b.2:Int)<16)=True:=eq_true (by omega)
 have p1:(2:Nat)^b.1≤2^16:=Nat.pow_le_pow_right (by omega) (by omega)
 have p2:(2:Nat)^b.2≤2^16:=Nat.pow_le_pow_right (by omega) (by omega)
 have k1:=l0 b.1
 have k2:=l0 b.2
 have o1:=dG bX (a:=st b.1) (b:=2^b.2) (by omega) (by omega)
 have q1:=iX (x:=x) (st:=st) (k:=b.1) (by omega)
 have s1:=uV (x:=x) (st:=st) (k:=b.1) (v:=st b.1|||2^b.2) (by omega)
 have q2:=iX (x:=x) (st:=addS st b.1 b.2) (k:=b.2) (by omega)
 have r2:addS st b.1 b.2 b.2=st b.2:=by unfold addS uC;rw[if_neg (fun h=>hb.2.2 h.symm)]
 have o2:=dG bX (a:=st b.2) (b:=2^b.1) (by omega) (by omega)
 have s2:=uV (x:=x) (st:=addS st b.1 b.2) (k:=b.2) (v:=st b.2|||2^b.1) (by omega)
 rw[show uC st b.1 (st b.1|||2^b.2)=addS st b.1 b.2 from rfl]at s1
 rw[show uC (addS st b.1 b.2) b.2 (st b.2|||2^b.1)=addS (addS st b.1 b.2) b.2 b.1 by rw[addS.eq_def (addS st b.1 b.2),r2]]at s2
 rw[r2]at q2
 have z1:=eE x st
 have z2:=eE x (addS st b.1 b.2)
 have t1:(6+b.1+1≤22)=True:=eq_true (by omega)
 have t2:(6+b.2+1≤22)=True:=eq_true (by omega)
 generalize addS (addS st b.1 b.2) b.2 b.1=st2 at *
 generalize addS st b.1 b.2=st1 at *
 unfold aDb
 dsimp only
 (sym=>(simp[Za,Zb,Zc,Zd,Ze,Zf,Zh,Zi,Zl,Zm,Zv,Zw,Z2,Z3,Z8,Z9,ZA,ZG,ZH,ZJ,ZK,ZL,ZM,ZN,ZQ,ZR,ZT,ZU,Ya,Yg,Yh,Yj,Yn,Ys,Yw,Yx,Y8,YA,YD,YO,YV,YX,Xb,Xd,Xi,Xr,Xv,Xx,Wq,Ws,Wz,W3,W4,W5,W6,W7,W8,W9,WA,WC,WE,WF,WH,WI,WK,WL,WM,WN,WO,WP,WQ,WR,WS,WT,WU,WV,WY,WZ,Vf,Vi,Vj,Vk,Vm,Vo,Vp,Vq,VQ,VR,VS,VT,VU,VZ,Ua,Ub,Uc,Ud,Uf,Ug,Uh,Ui,Uj,Uk,Um,Ur,Us,Ut,Uu,Ux,Uy,U0,U1,U2,U3,U4,U5,U6,U7,U8,UF,Tf,Tg,Th,Ti,Tj,Tk,Tl,Tm,Tt,Tu,Tw,Ty,Tz,T2,T5,T6,T7,TI,TK,Sv,S8,a1,a2,hx,e1,e2,n1,n2,m1,m2,o1,o2,q1,q2,s1,s2,z1,z2,t1,t2];all_goals tactic=>exact rfl))
abbrev gL1 (x:Vn) (st:Nat→Nat):XH:=[some (.blk true (.cells true (eW x st)))]
theorem aFH {x:Vn} (ok:x.Ok) {i:Nat} (hi:i<x.ps.length) :
 aU 0 [5,55,56,57] (execW aA 56 0 none (match aDa with | .loop _ a=>a|c=>c) (aQ [5,55,56,57] [.pt 0 0,rP (x.ps.map pI),I x.ps.length,I (i:Nat)]) (gL1 x (stP x i)))=some ([.pt 0 0,rP (x.ps.map pI),I x.ps.length,I (i+1:Nat)],gL1 x (stP x (i+1))):=by
 obtain⟨b,hx⟩:=aW hi
 have hb:=ok.p b (List.mem_of_getElem? hx)
 have hF:=ok.F16
 have hp:=aX hF
 have a1:=cZ hi
 have a2:=fI hi (by have:=ok.np;omega)
 have l0:=eR ok i
 have up:stP x (i+1)=addS (stP x i) b.2.1 b.2.2:=jF hx _
 rw[up]
 generalize stP x i=st at *
 have e2:=w62 (j:=b.2.2) (by omega)
 have n1:((0:Int)≤b.2.1)=True:=eq_true (by omega)
 have m1:((b.2.1:Int)<16)=True:=eq_true (by omega)
 have p2:(2:Nat)^b.2.2≤2^16:=Nat.pow_le_pow_right (by omega) (by omega)
 have k1:=l0 b.2.1
 have o1:=dG bX (a:=st b.2.1) (b:=2^b.2.2) (by omega) (by omega)
 have q1:=iX (x:=x) (st:=st) (k:=b.2.1) (by omega)
 have s1:=uV (x:=x) (st:=st) (k:=b.2.1) (v:=st b.2.1|||2^b.2.2) (by omega)
 rw[show uC st b.2.1 (st b.2.1|||2^b.2.2)=addS st b.2.1 b.2.2 from rfl]at s1
 have z1:=eE x st
 have t1:(6+b.2.1+1≤22)=True:=eq_true (by omega)
 generalize addS st b.2.1 b.2.2=st1 at *
 unfold aDa
 dsimp only
 (sym=>(simp[Za,Zb,Zc,Zd,Ze,Zf,Zg,Zh,Zk,Zl,Zm,Zv,Zw,Z2,Z3,Z8,Z9,ZA,ZG,ZH,ZJ,ZK,ZL,ZM,ZN,ZQ,ZR,ZT,ZU,Ya,Yg,Yh,Yj,Yn,Ys,Yw,Yx,YO,YV,YX,Xb,Xd,Xi,Xr,Xv,Xx,Wq,Ws,Wz,W3,W4,W5,W6,W7,W8,W9,WA,WC,WE,WH,WI,WK,WL,WM,WN,WO,WP,WQ,WR,WS,WT,WU,WV,WY,WZ,Vf,Vi,Vj,Vk,Vm,Vo,Vp,Vq,Vv,Vx,Vy,V0,V1,V3,VQ,VR,VS,VT,VU,VZ,Ua,Ub,Uc,Ud,Uf,Ug,Uh,Ui,Uj,Uk,Um,Ur,Us,Ut,Uu,Ux,Uy,U0,U1,U2,U3,U4,U5,U6,U7,U8,UF,Tf,Tg,Th,Ti,Tj,Tk,Tl,Tm,Tt,Tu,Tw,Ty,Tz,T2,T5,T6,T7,TI,TK,Sv,S8,SE,SF,SG,SJ,SK,SL,a1,a2,hx,e2,n1,m1,o1,q1,s1,z1,t1];all_goals tactic=>exact rfl))
theorem aLI (x:Vn):eW x (fun _=>0)=[I x.F,rB (x.bs.map bI),rP (x.ps.map pI),I x.sick,I x.nur,I x.fix,I 0,I 0,I 0,I 0,I 0,I 0,I 0,I 0,I 0,I 0,I 0,I 0,I 0,I 0,I 0,I 0]:=rfl
theorem w56 {x:Vn} (ok:x.Ok) (h23:runW aA 23 [.agg x.c] []=some (I 0,[])) :
 runW aA 56 [.agg x.c] []=some (.tup [.pt 0 0,I 0],[some (.blk true (.cells true (eW x (cQ x))))]):=by
 have rd:=fun i (hi:i<x.bs.length)=>aFI ok hi
 have rd2:=fun i (hi:i<x.ps.length)=>aFH ok hi
 have z:=Te (n:=(x.bs.length:Int))
 have zp:=Te (n:=(x.ps.length:Int))
 have n1:(x.bs.map bI).length=x.bs.length:=List.length_map ..
 have n2:(x.ps.map pI).length=x.ps.length:=List.length_map ..
 rw[r56 (by simp)];unfold x56;dsimp only
 sym =>
  simp[Za,Zb,Zd,Ze,Zf,Zg,Zh,Zj,Zl,Zm,Zo,Zv,Zz,Z0,Z3,Z8,ZF,ZG,ZO,ZP,ZT,ZU,Ya,Yc,Yr,YT,YX,YZ,Xb,Xi,Xk,Xl,Xr,Xt,Xv,We,Wg,Wi,Ws,W3,W4,W5,W7,W8,W9,WA,WB,WC,WK,WN,WP,WU,WV,Vi,Vj,Vk,Vv,Vx,Vy,V0,V1,V3,VO,VT,VV,VY,VZ,Ua,Ub,Uc,Ud,Ug,Uh,Ui,Um,Uq,Uu,Uy,U2,U3,U4,U5,U6,U7,U8,UD,UE,UF,UG,UH,UI,US,UT,Tf,Tg,Tj,Tk,Tn,Tt,Tu,Tw,Ty,Tz,T6,T7,SE,SF,SG,SJ,SK,SL,h23]
  tactic =>
   unfold aDb
   rw[aC x.bs.length (fun i=>[.pt 0 0,.pt 1 0,rB (x.bs.map bI),I x.bs.length,I (i:Nat)]) (fun i=>gL x (stB x i))]
   ·rw[show stB x x.bs.length=stP x 0 from rfl]
    generalize hst:stP x 0=st
    sym =>
     simp[Za,Zb,Zf,Zh,Zl,Zm,Zv,Z3,Z8,ZF,ZG,Ya,Yc,Ys,W3,W4,W5,WC,VQ,VT,VV,Ui,Uz,Te,Tf,Tg,Tk,Tt,Tu,Tx,Ty,Tz,T0,T4,T6,T7,z,zp]
     tactic =>
      unfold aDa
      rw[aC x.ps.length (fun i=>[.pt 0 0,rP (x.ps.map pI),I x.ps.length,I (i:Nat)]) (fun i=>gL1 x (stP x i))]
      ·rw[show stP x x.ps.length=cQ x from rfl]
       generalize cQ x=st2
       (sym=>(simp[Za,Zb,Zf,Zh,Zl,Zm,Zv,Z3,Ys,YX,Xa,Xd,Xr,Xu,Xx,XJ,XM,XP,We,Wh,Wl,W3,WE,WH,WI,WK,WL,WM,WO,WQ,WR,WS,WT,WY,WZ,Vf,Vv,V9,VA,VC,VD,VE,VF,VI,VJ,VK,VL,VM,VQ,VT,VV,Ua,Uc,Ud,Uf,Uk,Ux,Uz,U3,U4,U5,U6,U9,UA,UD,UE,Te,Tt,Tu,Tv,Tx,Tz,T0,T4,T6,T7,TK,Sw,zp];all_goals tactic=>exact rfl))
      ·rw[hst]
       (sym=>(simp[Za,Y9,YX,Xb,Xd,Xr,Xv,Xx,W3,WE,WH,WI,WK,WL,WM,WO,WQ,WR,WS,WT,WY,WZ,Vf,VQ,VR,VS,VZ,Ua,Uc,Ud,Uf,Uk,Ux,U3,U4,U5,U6,T5,TK,zp];all_goals tactic=>exact rfl))
      ·exact rd2
      ·rw[show stP x x.ps.length=cQ x from rfl]
       generalize cQ x=st2
       (sym=>(simp[Za,Zb,Zf,Zh,Zl,Zm,Z3,Ys,VQ,VT,VV,VW,Uz,Te,Tt,Tu,Tx,Tz,T0,T6,zp];all_goals tactic=>exact rfl))
   ·rw[show stB x 0=(fun _=>0) from rfl,gL,aLI]
    (sym=>(simp[Za,Y9,YX,Xb,Xd,Xr,Xv,Xx,W3,WE,WF,WH,WI,WK,WL,WM,WO,WQ,WR,WS,WT,WY,WZ,Vf,VR,VS,VZ,Ua,Ub,Uc,Ud,Uf,Uk,Ux,U3,U4,U5,U6,T5,TK,z];all_goals tactic=>exact rfl))
   ·exact rd
   ·generalize stB x x.bs.length=st
    (sym=>(simp[Za,Zb,Zf,Zh,Zl,Zm,Z3,Ys,VQ,VT,VV,VW,Uz,Te,Tt,Tu,Tx,Tz,T0,T6,z];all_goals tactic=>exact rfl))
theorem aMt {v:Va} (hb:v.bs.length<1000000000) (hp:v.ps.length<1000000000) (hv:vE v≠0):runW aA 56 [.agg v.c] []=some (.tup [.nilpt,I (vE v)],[]):=by
 have e:=w23 v hb hp
 have n0:=xW hv
 generalize vE v=er at *
 rw[r56 (by simp)];unfold x56;dsimp only
 (sym=>(simp[Za,Zb,Zf,Zg,Zh,Zj,Zl,Zm,Zo,Zv,Zz,Z3,ZG,ZO,ZP,ZT,ZU,Yr,YX,YZ,Xa,Xb,Xf,Xi,Xk,Xl,Xr,Xt,Xu,Xv,Xz,XJ,XM,XU,We,Wg,Wh,Wi,Wn,Ws,W3,W4,W5,W7,W8,W9,WA,WB,WK,WN,WO,WP,WQ,WR,WS,WU,WV,Vi,Vj,Vk,Vv,Vx,Vy,V0,V1,V3,V9,VA,VC,VD,VE,VF,VI,VJ,VK,VL,VM,VO,VT,VU,VY,VZ,Ua,Uc,Ud,Uf,Ug,Uh,Um,Ur,Uz,U2,U3,U4,U5,U6,U7,U8,U9,UA,UD,UE,US,UT,Tf,Tg,Tj,Tn,Tt,Tu,Tv,Tz,T1,T6,T7,Sw,SE,SF,SG,SJ,SK,SL,e,n0];all_goals tactic=>exact rfl))
end Go.Proofs.YtiabjdfdkiijmaaDoor
namespace Go.Proofs.YtiabjdfdkiijmaaDoor
open Go Go.DL

def bN (a:Nat):Nat:=(el a).length
theorem oJ {p q:Nat→Bool}:∀ l:List Nat,(∀ k∈l,p k=true→q k=true)→(l.filter p).length≤(l.filter q).length
 | [],_=>Nat.le_refl _
 | k::l,h=>by
   have ih:=oJ l (fun j hj=>h j (List.mem_cons_of_mem _ hj))
   have hk:=h k List.mem_cons_self
   simp only[List.filter_cons]
   cases hp:p k
   ·cases hq:q k
    ·simpa using ih
    ·simp only[Bool.false_eq_true,if_false,if_true,List.length_cons];omega
   ·rw[hk hp];simpa using ih
theorem tC {p q:Nat→Bool} {i:Nat} (hp:p i=false) (hq:q i=true):∀ l:List Nat,i∈l→(∀ k∈l,p k=true→q k=true)→(l.filter p).length<(l.filter q).length
 | [],hi,_=>by simp at hi
 | k::l,hi,h=>by
   simp only[List.filter_cons]
   by_cases hk:k=i
   ·subst hk
    have:=oJ l (fun j hj=>h j (List.mem_cons_of_mem _ hj))
    rw[hp,hq]
    simp only[Bool.false_eq_true,if_false,if_true,List.length_cons];omega
   ·have ih:=tC hp hq l (by rcases List.mem_cons.1 hi with rfl|h;exact absurd rfl hk;exact h) (fun j hj=>h j (List.mem_cons_of_mem _ hj))
    have hk:=h k List.mem_cons_self
    cases hp:p k
    ·cases hq:q k
     ·simpa using ih
     ·simp only[Bool.false_eq_true,if_false,if_true,List.length_cons];omega
    ·rw[hk hp];simpa using ih
def sub (a b:Nat):Prop:=∀ i,a.testBit i=true→b.testBit i=true
theorem cR (a:Nat):sub a a:=fun _ h=>h
theorem kY {a b c:Nat} (h:sub a b) (g:sub b c):sub a c:=fun i hi=>g i (h i hi)
theorem aJP (a k:Nat):sub a (a|||2^k):=fun i hi=>by rw[dV,hi];rfl
theorem jC {a b:Nat} (h:sub a b) (g:sub b a):a=b:=by
 apply Nat.eq_of_testBit_eq
 intro i
 rw[Bool.eq_iff_iff]
 exact⟨h i,g i⟩
theorem rU {a b:Nat} (h:sub a b):bN a≤bN b:=oJ _ fun k _ hk=>h k hk
theorem aDR {a b i:Nat} (h:sub a b) (hi:i<16) (ha:a.testBit i=false) (hb:b.testBit i=true):bN a<bN b:=tC ha hb _ (List.mem_range.2 hi) fun k _ hk=>h k hk
theorem kJ (a:Nat):bN a≤16:=tD a
theorem eN {a i:Nat} (ha:a<65536) (hi:a.testBit i=true):i<16:=fK (F:=16) ha hi
theorem aAr {a b:Nat} (h:sub a b) (hb:b<65536) (hc:bN b≤bN a):a=b:=by
 refine jC h fun i hi=>?_
 cases ha:a.testBit i
 ·have:=aDR h (eN hb hi) ha hi
  omega
 ·rfl
theorem aHn {a F:Nat} (ha:a<2^F) (hF:F≤16):bN a≤F:=by
 have e:el a=(List.range F).filter (a.testBit ·):=by
  unfold el
  rw[show (16:Nat)=F+(16-F) by omega,List.range_add,List.filter_append]
  rw[(List.filter_eq_nil_iff (l:=List.map (F + ·) (List.range (16-F)))).2,List.append_nil]
  intro k hk
  rw[List.mem_map]at hk
  obtain⟨j,_,rfl⟩:=hk
  rw[qB ha (by omega)];simp
 rw[bN,e]
 have:=List.length_filter_le (fun k=>a.testBit k) (List.range F)
 simpa using this
theorem aCK:bN 0=0:=rfl
theorem aHl {a i:Nat} (hi:i<16) (h:a.testBit i=true):0<bN a:=by
 have:=aDR (a:=0) (b:=a) (fun _ h=>by simp at h) hi (by simp) h
 omega
theorem aAq {a b:Nat} (h:∀ i,a.testBit i=true→b.testBit i=false):bN (a|||b)=bN a+bN b:=by
 unfold bN el
 rw[←tB h]
 congr 2
 funext k
 rw[Nat.testBit_or]
theorem aBF {i:Nat} (hi:i<16):bN (2^i)=1:=by
 match i,hi with
 | 0,_=>rfl
 | 1,_=>rfl
 | 2,_=>rfl
 | 3,_=>rfl
 | 4,_=>rfl
 | 5,_=>rfl
 | 6,_=>rfl
 | 7,_=>rfl
 | 8,_=>rfl
 | 9,_=>rfl
 | 10,_=>rfl
 | 11,_=>rfl
 | 12,_=>rfl
 | 13,_=>rfl
 | 14,_=>rfl
 | 15,_=>rfl
 | _+16,h=>exact absurd h (by omega)
theorem qU (i j:Nat):(2^i).testBit j=decide (i=j):=by rw[Nat.testBit_two_pow]
theorem mJ {a i:Nat} (hi:i<16) (ha:a.testBit i=false):bN (a|||2^i)=bN a+1:=by
 rw[aAq,aBF hi]
 intro j hj
 rw[qU]
 have:i≠j:=fun h=>by rw[h,hj]at ha;simp at ha
 simp[this]
inductive Rch (st:Nat→Nat) (s cl:Nat):Nat→Prop
 | base {f:Nat}:s.testBit f=true→cl.testBit f=false→Rch st s cl f
 | step {a b:Nat}:Rch st s cl a→(st a).testBit b=true→cl.testBit b=false→Rch st s cl b
theorem Rch.free {st:Nat→Nat} {s cl f:Nat} (h:Rch st s cl f):cl.testBit f=false:=by cases h<;>assumption
theorem Rch.lt {st:Nat→Nat} {s cl f F:Nat} (hs:s<2^F) (hst:∀ k,st k<2^F) (h:Rch st s cl f):f<F:=by
 cases h with
 | base h _=>exact fK hs h
 | step _ h _=>exact fK (hst _) h
def Clo (st:Nat→Nat) (cl m:Nat):Prop:=∀ a b,m.testBit a=true→(st a).testBit b=true→cl.testBit b=false→m.testBit b=true
theorem Rch.sub {st:Nat→Nat} {s cl m f:Nat} (h0:∀ i,s.testBit i=true→cl.testBit i=false→m.testBit i=true) (hc:Clo st cl m) (h:Rch st s cl f):m.testBit f=true:=by
 induction h with
 | base h g=>exact h0 _ h g
 | step _ h g ih=>exact hc _ _ ih h g
theorem Rch.mono {st st':Nat→Nat} {s s' cl cl' f:Nat} (h0:Go.Proofs.YtiabjdfdkiijmaaDoor.sub s s') (h1:∀ k,Go.Proofs.YtiabjdfdkiijmaaDoor.sub (st k) (st' k)) (h2:Go.Proofs.YtiabjdfdkiijmaaDoor.sub cl' cl) (h:Rch st s cl f):Rch st' s' cl' f:=by
 have g:∀ i,cl.testBit i=false→cl'.testBit i=false:=fun i hi=>by
  cases h:cl'.testBit i
  ·rfl
  ·rw[h2 i h]at hi;simp at hi
 induction h with
 | base h q=>exact .base (h0 _ h) (g _ q)
 | step _ h q ih=>exact .step ih (h1 _ _ h) (g _ q)
theorem aJB {F:Nat} {M:Nat→Nat} {P:Nat→Prop} (hF:F≤16) (hl:∀ k,M k<2^F) (hm:∀ k,sub (M k) (M (k+1))) (hp:∀ k,M (k+1)=M k→P (M k)) (hk:∀ k,P (M k)→P (M (k+1))) (hfull:P (2^F-1)):P (M F):=by
 have up:∀ k,P (M k)∨k≤bN (M k):=by
  intro k
  induction k with
  | zero=>exact .inr (Nat.zero_le _)
  | succ k ih =>
    rcases ih with ih|ih
    ·exact .inl (hk k ih)
    ·by_cases e:M (k+1)=M k
     ·exact .inl (hk k (hp k e))
     ·right
      have h16:M (k+1)<65536:=Nat.lt_of_lt_of_le (hl _) (aX hF)
      by_cases hc:bN (M (k+1))≤bN (M k)
      ·exact absurd (aAr (hm k) h16 hc).symm e
      ·omega
 rcases up F with h|h
 ·exact h
 ·have e:M F=2^F-1:=by
   refine aAr ?_ ?_ ?_
   ·intro i hi
    rw[Nat.testBit_two_pow_sub_one]
    simpa using fK (hl F) hi
   ·have:=aX hF
    have:=Nat.two_pow_pos F
    omega
   ·have:=aHn (a:=2^F-1) (F:=F) (by have:=Nat.two_pow_pos F;omega) hF
    omega
  rw[e];exact hfull
end Go.Proofs.YtiabjdfdkiijmaaDoor
namespace Go.Proofs.YtiabjdfdkiijmaaDoor
open Go Go.DL
set_option maxRecDepth 100000
set_option maxHeartbeats 4000000
theorem aFr {σ:Type} (n:Nat) (Inv:Nat→σ→Prop) (St:Nat→σ→σ→Prop) (s0:σ) (h0:Inv 0 s0) (hs:∀ i s,i<n→Inv i s→∃ s',Inv (i+1) s'∧St i s s'):∃ F:Nat→σ,F 0=s0∧(∀ i,i≤n→Inv i (F i))∧∀ i,i<n→St i (F i) (F (i+1)):=by
 induction n with
 | zero=>exact⟨fun _=>s0,rfl,fun i hi=>by obtain rfl:i=0:=(by omega);exact h0,fun i hi=>by omega⟩
 | succ n ih =>
   obtain⟨F,h1,h2,h3⟩:=ih fun i s hi=>hs i s (by omega)
   obtain⟨s',h4,h5⟩:=hs n (F n) (by omega) (h2 n (Nat.le_refl _))
   refine⟨fun i=>if i≤n then F i else s',(if_pos (Nat.zero_le n)).trans h1,fun i hi=>?_,fun i hi=>?_⟩
   ·dsimp only
    by_cases h:i≤n
    ·rw[if_pos h];exact h2 i h
    ·obtain rfl:i=n+1:=by omega
     rw[if_neg h];exact h4
   ·dsimp only
    by_cases h:i+1≤n
    ·rw[if_pos h,if_pos (by omega)];exact h3 i (by omega)
    ·obtain rfl:i=n:=by omega
     rw[if_neg h,if_pos (Nat.le_refl _)];exact h5
abbrev gV (M:Nat) (ci:Int) (l:List AV):XH:=[cI M,some (.blk true (.cells true [I ci])),some (.blk false (.cells true [.pt 3 0])),some (.blk true (.cells true l)),some (.blk false (.cells true [.fn (.func 84) [] [.pt 0 0,.pt 1 0,.pt 2 0,.pt 4 0]]))]
abbrev gX (K:Nat) (M:Nat) (ci:Int) (l:List AV):XH:=[some (.loop K 0 [.pt 1 0] .ready),some (.blk false (.cells true [.fn (.func 84) [] [.pt 2 0,.pt 3 0,.pt 4 0,.pt 1 0]])),cI M,some (.blk true (.cells true [I ci])),some (.blk false (.cells true [.pt 5 0])),some (.blk true (.cells true l))]
theorem aJA (K M:Nat) (ci:Int) (l:List AV):aEQ 6 (gX K M ci l):=by
 refine⟨fun _=>rfl,fun _ _=>rfl,fun _=>rfl,?_,?_⟩
 ·intro a e h0 h1
  (sym=>(simp[Xd,Xg,Xh,Xx,X0,XI,WE,WI,WK,WM,WO,WP,WQ,WR,WS,WY,WZ,Vb,Vc,Ve,Vf,Vg,Vh,VR,VS,VZ,Ua,Ub,Uc,Ud,Ue,Uf,Ux,U2,U3,U4,U5,U6,T5,h0,h1];all_goals tactic=>exact rfl))
 ·intro a
  (sym=>(simp[Za,Xa,Xd,Xg,Xu,Xx,X0,XM,Wh,WE,WI,WK,WM,WO,WP,WQ,WR,WS,WY,WZ,Vb,Vc,Ve,Vf,Vg,Vh,Vv,VC,VD,VE,VZ,Ua,Ub,Uc,Ud,Ue,Uf,Ux,U2,U3,U4,U5,U6,U9,UD,Sw];all_goals tactic=>exact rfl))
structure aMc (st:Nat→Nat) (cl M M' f:Nat):Prop where
 sub:sub M M'
 lt:M'<65536
 has:cl.testBit f=true∨M'.testBit f=true
 new:∀ a,M'.testBit a=true→M.testBit a=false→Rch st (2^f) cl a∧∀ b,(st a).testBit b=true→cl.testBit b=false→M'.testBit b=true
def Clr (ci:Int) (cl:Nat):Prop:=∀ f:Nat,f<16→runW aA 60 [I ci,I f] []=some (.bool (cl.testBit f),[])
def xO (l:List AV) (ci:Int) (M M' f:Nat):Prop:=runW aA 84 [I (f:Nat),.pt 0 0,.pt 1 0,.pt 2 0,.pt 4 0] (gV M ci l)=some (.tup [],gV M' ci l)
theorem aMe {l:List AV} {ci:Int} {M M' v:Nat} (h:xO l ci M M' v):Yd (gX 84 M ci l) (gX 84 M' ci l) v true:=by
 unfold xO at h
 have y:runYW aA (.fn (.yield 0) [] []) [I (v:Nat)] (gX 84 M ci l)=some (.bool true,gX 84 M' ci l):=by
  rw[jO (K:=84) (d:=x84) (site:=0) (vs:=[.pt 1 0]) rfl rfl (by rfl) rfl]
  (sym=>(simp[Za,Zb,Zf,Zg,Zh,Zj,Zl,Zm,Zv,ZG,ZO,ZP,ZT,ZU,YX,YY,Xd,Xg,Xr,Xs,Xu,Xx,X0,XJ,We,W3,W4,W5,W6,W9,WA,WC,WE,WF,WG,WH,WI,WJ,WK,WL,WM,WN,WO,WP,WQ,WR,WS,WU,WV,WW,WY,WZ,Vb,Vc,Ve,Vf,Vg,Vh,Vi,Vj,Vk,Vl,Vv,Vx,Vy,Vz,VB,VE,VQ,VZ,Ua,Ub,Uc,Ud,Ue,Uf,Ug,Uh,Uk,Uw,Ux,U2,U3,U4,U5,U6,UQ,UR,Tf,Tg,Tk,Ty,T2,T6,Sa,Sb,Sc,Sd,Sm,Sn,Sp,Sq,Sw,SE,SF,SI,SJ,SK,SL,h];all_goals tactic=>exact rfl))
 intro a
 (sym=>(simp[YX,Xd,Xg,Xh,Xr,Xs,Xx,X0,XI,W3,W6,W9,WA,WC,WE,WF,WG,WH,WJ,WK,WL,WM,WN,WP,WQ,WU,WV,WW,WY,WZ,Vb,Vc,Vf,Vg,Vh,Vi,Vj,Vk,Vl,VZ,Ua,Ub,Uc,Ud,Ug,Uh,Uk,Uw,Ux,U2,U3,U4,U5,U6,Sl,y];all_goals tactic=>exact rfl))
theorem aEZ {st:Nat→Nat} {l:List AV} {ci:Int} {cl:Nat} {M0:Nat} (h0:M0<65536) (a:Nat) (hv:∀ M v,M<65536→sub M0 M→v∈el a→∃ M',aMc st cl M M' v∧xO l ci M M' v) :
 ∃ F:Nat→Nat,F 0=M0∧(∀ i v,(el a)[i]?=some v→xO l ci (F i) (F (i+1)) v)∧sub M0 (F (el a).length)∧F (el a).length<65536∧(∀ v∈el a,cl.testBit v=true∨(F (el a).length).testBit v=true) ∧
   (∀ b,(F (el a).length).testBit b=true→M0.testBit b=false→(∃ v∈el a,Rch st (2^v) cl b)∧∀ c,(st b).testBit c=true→cl.testBit c=false→(F (el a).length).testBit c=true):=by
 obtain⟨F,f0,f1,f2⟩:=aFr (el a).length
  (fun i M=>sub M0 M∧M<65536∧(∀ j v,j<i→(el a)[j]?=some v→cl.testBit v=true∨M.testBit v=true) ∧
   (∀ b,M.testBit b=true→M0.testBit b=false→(∃ v∈el a,Rch st (2^v) cl b)∧∀ c,(st b).testBit c=true→cl.testBit c=false→M.testBit c=true))
  (fun i M M'=>∀ v,(el a)[i]?=some v→xO l ci M M' v) M0
  ⟨cR _,h0,fun j v hj=>absurd hj (by omega),fun b h1 h2=>by rw[h1]at h2;simp at h2⟩
  (by
   rintro i M hi ⟨g1,g2,g3,g4⟩
   obtain⟨v,hx⟩:=aW hi
   have hm:=List.mem_of_getElem? hx
   obtain⟨M',p,k⟩:=hv M v g2 g1 hm
   refine⟨M',⟨kY g1 p.sub,p.lt,?_,?_⟩,fun w hw=>by rw[hx]at hw;rw[←Option.some.inj hw];exact k⟩
   ·intro j w hj hw
    by_cases e:j=i
    ·subst e
     rw[hx]at hw
     rw[←Option.some.inj hw];exact p.has
    ·rcases g3 j w (by omega) hw with h|h
     ·exact .inl h
     ·exact .inr (p.sub _ h)
   ·intro b h1 h2
    cases hb:M.testBit b
    ·have:=p.new b h1 hb
     exact⟨⟨v,hm,this.1⟩,this.2⟩
    ·obtain⟨q1,q2⟩:=g4 b hb h2
     exact⟨q1,fun c hc hd=>p.sub _ (q2 c hc hd)⟩)
 obtain⟨e1,e2,e3,e4⟩:=f1 _ (Nat.le_refl _)
 refine⟨F,f0,fun i v hx=>f2 i (dO hx) v hx,e1,e2,?_,e4⟩
 intro v hm
 obtain⟨j,hj⟩:=List.getElem?_of_mem hm
 exact e3 j v (dO hj) hj
theorem aIq {st:Nat→Nat} {cl f v b:Nat} (hf:cl.testBit f=false) (hv:(st f).testBit v=true) (h:Rch st (2^v) cl b):Rch st (2^f) cl b:=by
 induction h with
 | base h g =>
   rw[qU]at h
   obtain rfl:=of_decide_eq_true h
   exact .step (.base (by rw[qU];simp) hf) hv g
 | step _ h g ih=>exact .step ih h g
theorem w84 {l:List AV} {st:Nat→Nat} {ci:Int} {cl:Nat} (hl:∀ k,k<16→l[6+k]?=some (I (st k))) (hst:∀ k,st k<65536) (hc:Clr ci cl) :
 ∀ n M f,M<65536→f<16→16≤bN M+n→∃ M',aMc st cl M M' f∧xO l ci M M' f:=by
 intro n
 induction n with
 | zero =>
   intro M f hM hf hn
   have e1:=qC (a:=M) (j:=f) (by omega) (by omega)
   cases h:M.testBit f
   ·have:=mJ hf h
    have:=kJ (M|||2^f)
    omega
   ·refine⟨M,⟨cR _,hM,.inr h,fun a h1 h2=>by rw[h1]at h2;simp at h2⟩,?_⟩
    rw[h]at e1
    unfold xO
    rw[r84 (by simp)];unfold x84;dsimp only
    (sym=>(simp[Za,Zb,Zf,Zg,Zj,Zl,Zm,Zp,Zt,Zv,Zy,ZG,ZO,ZP,ZT,ZU,ZV,YX,Xa,Xd,Xg,Xr,Xs,Xu,Xx,X0,XM,We,Wh,Wl,W3,W4,W5,WA,WB,WC,WE,WI,WK,WM,WN,WO,WP,WQ,WR,WS,WU,WV,WY,WZ,Vb,Ve,Vf,Vg,Vi,Vj,Vk,Vv,Vx,Vy,V0,V1,V3,V9,VA,VC,VD,VE,VF,VH,VJ,VO,VT,VU,VY,VZ,Ua,Ub,Uc,Ud,Ue,Uf,Ug,Uh,Ux,U2,U3,U4,U5,U6,U9,UD,UE,Tf,Tg,Tk,Tu,Tv,Tz,T1,T6,T7,Sw,SE,SF,SG,SJ,SK,SL,e1];all_goals tactic=>exact rfl))
 | succ n ih =>
   intro M f hM hf hn
   have e1:=qC (a:=M) (j:=f) (by omega) (by omega)
   have e2:=hc f hf
   cases h:M.testBit f
   ·cases h2:cl.testBit f
    ·rw[h]at e1
     rw[h2]at e2
     have e3:=w62 (j:=f) (by omega)
     have hp:2^f<65536:=Nat.pow_lt_pow_of_lt (a:=2) (n:=f) (m:=16) (by omega) hf
     have o1:=dG bX (a:=M) (b:=2^f) (by omega) (Nat.lt_trans hp (by omega))
     have hM1:M|||2^f<65536:=Nat.or_lt_two_pow (n:=16) hM hp
     have hcu:=mJ hf h
     obtain⟨F,f0,f1,f2,f3,f4,f5⟩:=aEZ (st:=st) (l:=l) (ci:=ci) (cl:=cl) hM1 (st f) (fun M' v h1 h2 h3=>ih M' v h1 (iI.1 h3).1 (by have:=rU h2;omega))
     have ea:=rM (n:=6) (G:=fun i=>gX 84 (F i) ci l) (hst f) (fun i _=>aJA 84 _ _ _) (fun i v hx=>aMe (f1 i v hx))
     rw[f0]at ea
     have w8:=w80 (a:=st f)
     have k1:=hl f hf
     have n1:((0:Int)≤f)=True:=eq_true (by omega)
     have m1:((f:Int)<16)=True:=eq_true (by omega)
     refine⟨F (el (st f)).length,⟨kY (aJP M f) f2,f3,.inr (f2 f (by rw[dV];simp)),?_⟩,?_⟩
     ·intro a h3 h4
      by_cases ha:f=a
      ·subst ha
       refine⟨.base (by rw[qU];simp) h2,fun b hb hd=>?_⟩
       rcases f4 b (iI.2 ⟨eN (hst f) hb,hb⟩)with q|q
       ·rw[hd]at q;simp at q
       ·exact q
      ·obtain⟨⟨v,hv,q1⟩,q2⟩:=f5 a h3 (by rw[dV,h4];simp[ha])
       exact⟨aIq h2 (iI.1 hv).2 q1,q2⟩
     ·unfold xO
      generalize M|||2^f=M1 at *
      generalize F (el (st f)).length=M2 at *
      have ea:runW aA 86 [.fn (.yield 0) [] [],.pt 6 0] [some (.loop 84 0 [.pt 1 0] .ready),some (.blk false (.cells true [.fn (.func 84) [] [.pt 2 0,.pt 3 0,.pt 4 0,.pt 1 0]])),cI M1,some (.blk true (.cells true [I ci])),some (.blk false (.cells true [.pt 5 0])),some (.blk true (.cells true l)),cI (st f)] =
       some (.tup [],[some (.loop 84 0 [.pt 1 0] .ready),some (.blk false (.cells true [.fn (.func 84) [] [.pt 2 0,.pt 3 0,.pt 4 0,.pt 1 0]])),cI M2,some (.blk true (.cells true [I ci])),some (.blk false (.cells true [.pt 5 0])),some (.blk true (.cells true l)),some (.blk true (.cells true [.int .i64 0]))]):=ea
      rw[r84 (by simp)];unfold x84;dsimp only
      (sym=>(simp[Za,Zb,Zc,Ze,Zf,Zg,Zh,Zi,Zj,Zl,Zm,Zp,Zr,Zv,Zy,Z2,Z3,Z8,Z9,ZG,ZH,ZJ,ZK,ZM,ZN,ZO,ZP,ZQ,ZR,ZT,ZU,ZW,Ya,Yn,Yw,Yx,YO,YV,YX,Xa,Xd,Xg,Xh,Xi,Xr,Xs,Xu,Xx,X0,XI,XM,We,Wh,Wl,Wq,Wz,W3,W4,W5,W6,W7,W9,WA,WB,WC,WE,WF,WG,WH,WI,WJ,WK,WL,WM,WN,WO,WP,WQ,WR,WS,WU,WV,WW,WY,WZ,Vb,Vc,Ve,Vf,Vg,Vh,Vi,Vj,Vk,Vl,Vm,Vo,Vp,Vq,Vv,Vx,Vy,V0,V1,V3,V8,VA,VC,VD,VE,VF,VH,VJ,VO,VT,VV,VY,VZ,Ua,Ub,Uc,Ud,Ue,Uf,Ug,Uh,Uk,Um,Ur,Us,Ut,Uu,Uw,Ux,U0,U1,U2,U3,U4,U5,U6,U7,U8,U9,UD,UE,UF,Tf,Tg,Tk,Tl,Tm,Tt,Tu,Tw,Ty,Tz,T2,T6,T7,TI,Sa,Sb,Se,Sf,Sg,Si,Sj,Sk,Sv,Sw,S8,SE,SF,SG,SJ,SK,SL,e1,e2,e3,o1,w8,k1,n1,m1,ea];all_goals tactic=>exact rfl))
    ·refine⟨M,⟨cR _,hM,.inl h2,fun a h1 h2=>by rw[h1]at h2;simp at h2⟩,?_⟩
     rw[h]at e1
     rw[h2]at e2
     unfold xO
     rw[r84 (by simp)];unfold x84;dsimp only
     (sym=>(simp[Za,Zb,Zf,Zg,Zj,Zl,Zm,Zp,Zr,Zv,Zy,ZG,ZO,ZP,ZT,ZU,ZW,YX,Xa,Xd,Xg,Xr,Xs,Xu,Xx,X0,XM,We,Wh,Wl,W3,W4,W5,WA,WB,WC,WE,WI,WK,WM,WN,WO,WP,WQ,WR,WS,WU,WV,WY,WZ,Vb,Ve,Vf,Vg,Vi,Vj,Vk,Vv,Vx,Vy,V0,V1,V3,V9,VA,VC,VD,VE,VF,VH,VJ,VO,VT,VU,VY,VZ,Ua,Ub,Uc,Ud,Ue,Uf,Ug,Uh,Ux,U2,U3,U4,U5,U6,U9,UD,UE,Tf,Tg,Tk,Tu,Tv,Tz,T1,T6,T7,Sw,SE,SF,SG,SJ,SK,SL,e1,e2];all_goals tactic=>exact rfl))
   ·refine⟨M,⟨cR _,hM,.inr h,fun a h1 h2=>by rw[h1]at h2;simp at h2⟩,?_⟩
    rw[h]at e1
    unfold xO
    rw[r84 (by simp)];unfold x84;dsimp only
    (sym=>(simp[Za,Zb,Zf,Zg,Zj,Zl,Zm,Zp,Zt,Zv,Zy,ZG,ZO,ZP,ZT,ZU,ZV,YX,Xa,Xd,Xg,Xr,Xs,Xu,Xx,X0,XM,We,Wh,Wl,W3,W4,W5,WA,WB,WC,WE,WI,WK,WM,WN,WO,WP,WQ,WR,WS,WU,WV,WY,WZ,Vb,Ve,Vf,Vg,Vi,Vj,Vk,Vv,Vx,Vy,V0,V1,V3,V9,VA,VC,VD,VE,VF,VH,VJ,VO,VT,VU,VY,VZ,Ua,Ub,Uc,Ud,Ue,Uf,Ug,Uh,Ux,U2,U3,U4,U5,U6,U9,UD,UE,Tf,Tg,Tk,Tu,Tv,Tz,T1,T6,T7,Sw,SE,SF,SG,SJ,SK,SL,e1];all_goals tactic=>exact rfl))
def pM (st:Nat→Nat) (cl:Nat) (m a:Nat):Nat:=if m.testBit a then m|||gF (st a) cl else m
def aLE (st:Nat→Nat) (cl:Nat) (m:Nat):Nat:=(List.range 16).foldl (pM st cl) m
def qT (st:Nat→Nat) (s cl:Nat):Nat→Nat
 | 0=>gF s cl
 | n+1=>aLE st cl (qT st s cl n)
def eL (st:Nat→Nat) (s cl:Nat):Nat:=qT st s cl 16
section
variable {st:Nat→Nat} {s cl:Nat} (hst:∀ k,st k<65536) (hs:s<65536) (hcl:cl<65536)
theorem aBa (m a:Nat):sub m (pM st cl m a):=fun i hi=>by
 unfold pM
 split
 ·rw[Nat.testBit_or,hi];rfl
 ·exact hi
include hst in
theorem aIr {m:Nat} (a:Nat) (h:m<65536):pM st cl m a<65536:=by
 unfold pM
 split
 ·exact Nat.or_lt_two_pow (n:=16) h (Nat.lt_of_le_of_lt (iY _ _) (hst a))
 ·exact h
theorem tA (l:List Nat) (m:Nat):sub m (l.foldl (pM st cl) m):=by
 induction l generalizing m with
 | nil=>exact cR _
 | cons a l ih=>exact kY (aBa m a) (ih _)
include hst in
theorem aGQ (l:List Nat) {m:Nat} (h:m<65536):l.foldl (pM st cl) m<65536:=by
 induction l generalizing m with
 | nil=>exact h
 | cons a l ih=>exact ih (aIr hst a h)
include hst hs in
theorem uQ:∀ n,qT st s cl n<2^16
 | 0=>Nat.lt_of_le_of_lt (iY _ _) hs
 | n+1=>aGQ hst _ (uQ n)
include hcl in
theorem aGj:∀ n i,(qT st s cl n).testBit i=true→Rch st s cl i:=by
 have main:∀ (l:List Nat) (m:Nat),(∀ i,m.testBit i=true→Rch st s cl i)→∀ i,(l.foldl (pM st cl) m).testBit i=true→Rch st s cl i:=by
  intro l
  induction l with
  | nil=>intro m h;exact h
  | cons a l ih =>
    intro m h
    refine ih _ fun i hi=>?_
    unfold pM at hi
    split at hi
    ·next ha =>
     rw[Nat.testBit_or,Bool.or_eq_true]at hi
     rcases hi with hi|hi
     ·exact h i hi
     ·rw[bS (by omega)]at hi
      simp only[Bool.and_eq_true,Bool.not_eq_true']at hi
      exact .step (h a ha) hi.1 hi.2.2
    ·exact h i hi
 intro n
 induction n with
 | zero =>
   intro i hi
   rw[qT,bS (by omega)]at hi
   simp only[Bool.and_eq_true,Bool.not_eq_true']at hi
   exact .base hi.1 hi.2.2
 | succ n ih=>exact main _ _ ih
include hst hcl in
theorem aEr {m:Nat} (hm:m<65536) (h:aLE st cl m=m):Clo st cl m:=by
 intro a b ha hb hc
 have h16:=eN hm ha
 have main:∀ (l:List Nat) (m:Nat),m.testBit a=true→a∈l→(l.foldl (pM st cl) m).testBit b=true:=by
  intro l
  induction l with
  | nil=>intro m _ h;simp at h
  | cons k l ih =>
    intro m hm hk
    by_cases e:a=k
    ·subst e
     refine tA l _ b ?_
     unfold pM
     rw[if_pos hm,Nat.testBit_or,bS (by omega),hb,hc]
     have:=eN (hst a) hb
     simp;omega
    ·exact ih _ (aBa m k a hm) (by rcases List.mem_cons.1 hk with h|h;exact absurd h e;exact h)
 have:=main (List.range 16) m ha (List.mem_range.2 h16)
 rw[show (List.range 16).foldl (pM st cl) m=m from h]at this
 exact this
include hst hs hcl in
theorem jP (i:Nat):(eL st s cl).testBit i=true↔Rch st s cl i:=by
 constructor
 ·exact aGj hcl 16 i
 ·intro h
  refine h.sub (m:=eL st s cl) (fun j hj hc=>?_) ?_
  ·have:∀ n,(qT st s cl n).testBit j=true:=by
    intro n
    induction n with
    | zero =>
      rw[qT,bS (by omega),hj,hc]
      have:=eN hs hj
      simp;omega
    | succ n ih=>exact tA _ _ j ih
   exact this 16
  ·refine aJB (F:=16) (M:=qT st s cl) (P:=Clo st cl) (by omega) (uQ hst hs) (fun k=>tA _ _) (fun k hk=>aEr hst hcl (uQ hst hs k) hk) (fun k hk=>?_) ?_
   ·have e:qT st s cl (k+1)=qT st s cl k:=by
     have hin:∀ (l:List Nat),l.foldl (pM st cl) (qT st s cl k)=qT st s cl k:=by
      intro l
      induction l with
      | nil=>rfl
      | cons a l ih =>
        have:pM st cl (qT st s cl k) a=qT st s cl k:=by
         unfold pM
         split
         ·next ha =>
          refine jC (fun i hi=>?_) (fun i hi=>by rw[Nat.testBit_or,hi];rfl)
          rw[Nat.testBit_or,Bool.or_eq_true]at hi
          rcases hi with hi|hi
          ·exact hi
          ·rw[bS (by omega)]at hi
           simp only[Bool.and_eq_true,Bool.not_eq_true']at hi
           exact hk a i ha hi.1 hi.2.2
         ·rfl
        rw[List.foldl_cons,this,ih]
     exact hin _
    rw[e];exact hk
   ·intro a b _ hb _
    rw[Nat.testBit_two_pow_sub_one]
    simpa using eN (hst a) hb
include hst hs in
theorem yV:eL st s cl<65536:=uQ hst hs 16
end
theorem w78 {l:List AV} {st:Nat→Nat} {ci:Int} {s cl:Nat} (hl:∀ k,k<16→l[6+k]?=some (I (st k))) (h3:l[3]?=some (I s)) (hst:∀ k,st k<65536) (hs:s<65536) (hcl:cl<65536) (hc:Clr ci cl) :
 runW aA 78 [.pt 0 0,I ci] [some (.blk true (.cells true l))]=some (I (eL st s cl:Nat),[some (.blk true (.cells true l))]):=by
 obtain⟨F,f0,f1,f2,f3,f4,f5⟩:=aEZ (st:=st) (l:=l) (ci:=ci) (cl:=cl) (M0:=0) (by omega) s (fun M' v h1 h2 h3=>w84 hl hst hc 16 M' v h1 (iI.1 h3).1 (by omega))
 have er:F (el s).length=eL st s cl:=by
  apply Nat.eq_of_testBit_eq
  intro i
  rw[Bool.eq_iff_iff,jP hst hs hcl]
  constructor
  ·intro h
   obtain⟨⟨v,hv,q⟩,_⟩:=f5 i h (by simp)
   refine q.mono (fun j hj=>?_) (fun _=>cR _) (cR _)
   rw[qU]at hj
   rw[←of_decide_eq_true hj];exact(iI.1 hv).2
  ·intro h
   refine h.sub (fun j hj hd=>?_) (fun a b ha hb hd=>(f5 a ha (by simp)).2 b hb hd)
   rcases f4 j (iI.2 ⟨eN hs hj,hj⟩)with q|q
   ·rw[hd]at q;simp at q
   ·exact q
 have ea:=rM (n:=6) (G:=fun i=>gX 78 (F i) ci l) hs (fun i _=>aJA 78 _ _ _) (fun i v hx=>by
  have h:=f1 i v hx
  generalize F i=M at *
  generalize F (i+1)=M' at *
  unfold xO at h
  have y:runYW aA (.fn (.yield 0) [] []) [I (v:Nat)] (gX 78 M ci l)=some (.bool true,gX 78 M' ci l):=by
   rw[jO (K:=78) (d:=x78) (site:=0) (vs:=[.pt 1 0]) rfl rfl (by rfl) rfl]
   (sym=>(simp[Za,Zb,Zf,Zg,Zh,Zj,Zl,Zm,Zv,ZG,ZO,ZP,ZT,ZU,YX,YY,Xd,Xg,Xr,Xs,Xu,Xx,X0,XJ,We,W3,W4,W5,W6,W9,WA,WC,WE,WF,WG,WH,WI,WJ,WK,WL,WM,WN,WO,WP,WQ,WR,WS,WU,WV,WW,WY,WZ,Vb,Vc,Ve,Vf,Vg,Vh,Vi,Vj,Vk,Vl,Vv,Vx,Vy,Vz,VB,VE,VQ,VZ,Ua,Ub,Uc,Ud,Ue,Uf,Ug,Uh,Uk,Uw,Ux,U2,U3,U4,U5,U6,UQ,UR,Tf,Tg,Tk,Ty,T2,T6,Sa,Sb,Sc,Sd,Sm,Sn,Sp,Sq,Sw,SE,SF,SI,SJ,SK,SL,h];all_goals tactic=>exact rfl))
  intro a
  (sym=>(simp[YX,Xd,Xg,Xh,Xr,Xs,Xx,X0,XI,W3,W6,W9,WA,WC,WE,WF,WG,WH,WJ,WK,WL,WM,WN,WP,WQ,WU,WV,WW,WY,WZ,Vb,Vc,Vf,Vg,Vh,Vi,Vj,Vk,Vl,VZ,Ua,Ub,Uc,Ud,Ug,Uh,Uk,Uw,Ux,U2,U3,U4,U5,U6,Sl,y];all_goals tactic=>exact rfl)))
 rw[f0]at ea
 have w8:=w80 (a:=s)
 rw[er]at ea
 generalize eL st s cl=M2 at *
 have ea:runW aA 86 [.fn (.yield 0) [] [],.pt 6 0] [some (.loop 78 0 [.pt 1 0] .ready),some (.blk false (.cells true [.fn (.func 84) [] [.pt 2 0,.pt 3 0,.pt 4 0,.pt 1 0]])),some (.blk true (.cells true [.int .i64 0])),some (.blk true (.cells true [I ci])),some (.blk false (.cells true [.pt 5 0])),some (.blk true (.cells true l)),cI s] =
  some (.tup [],[some (.loop 78 0 [.pt 1 0] .ready),some (.blk false (.cells true [.fn (.func 84) [] [.pt 2 0,.pt 3 0,.pt 4 0,.pt 1 0]])),cI M2,some (.blk true (.cells true [I ci])),some (.blk false (.cells true [.pt 5 0])),some (.blk true (.cells true l)),some (.blk true (.cells true [.int .i64 0]))]):=ea
 rw[r78 (by simp)];unfold x78;dsimp only
 (sym=>(simp[Za,Zb,Zc,Zf,Zh,Zl,Zm,Zo,Zv,Zw,Zx,Zz,Z2,Z8,ZG,ZK,ZL,ZO,ZP,ZT,ZU,Ya,YV,YX,Xd,Xg,Xh,Xi,Xn,Xp,Xq,Xr,Xu,Xx,X0,XI,XJ,We,Wl,Wq,Wv,Wx,W3,W4,W5,W6,W7,W9,WA,WB,WC,WE,WF,WG,WH,WJ,WK,WL,WM,WN,WO,WP,WQ,WR,WS,WU,WV,WW,WY,WZ,Vb,Vc,Ve,Vf,Vg,Vh,Vi,Vj,Vk,Vl,Vv,V9,VA,VC,VD,VE,VF,VG,VJ,VK,VL,VM,VO,VY,VZ,Ua,Ub,Uc,Ud,Ue,Uf,Ug,Uh,Uk,Um,Uo,Uu,Uw,Ux,U2,U3,U4,U5,U6,U7,U8,UD,UE,UF,US,UT,Tf,Tg,Tk,Tl,Tm,Tn,Tu,Tv,Ty,Tz,T2,T6,T7,Sa,Sb,Se,Sf,Sg,Si,Sj,Sk,Sw,w8,h3,ea];all_goals tactic=>exact rfl))
def pK (st:Nat→Nat) (s nur cl:Nat):Bool:=decide (eL st s cl&&&nur=0)
theorem yL:∀ l:List AV,(∀ e∈l,cK e e=true)→eO l l=true
 | [],_=>by simp[eO]
 | x::l,h=>by
   have:=yL l (fun e he=>h e (List.mem_cons_of_mem _ he))
   simp[eO,this,h x List.mem_cons_self]
theorem sF:∀ l:List (List AV),(∀ e∈l,eO e e=true)→qL l l=true
 | [],_=>by simp[qL]
 | x::l,h=>by
   have:=sF l (fun e he=>h e (List.mem_cons_of_mem _ he))
   simp[qL,this,h x List.mem_cons_self]
theorem aGC (x:Vn) (st:Nat→Nat):eO (eW x st) (eW x st)=true:=by
 refine yL _ fun e he=>?_
 rw[eW,List.mem_append]at he
 rcases he with he|he
 ·simp only[List.mem_cons,List.not_mem_nil,or_false]at he
  rcases he with rfl|rfl|rfl|rfl|rfl|rfl
  ·simp[cK]
  ·rw[cK]
   refine sF _ fun r hr=>?_
   rw[List.mem_map]at hr
   obtain⟨b,_,rfl⟩:=hr
   simp[eO,cK]
  ·rw[cK]
   refine sF _ fun r hr=>?_
   rw[List.mem_map]at hr
   obtain⟨b,_,rfl⟩:=hr
   simp[eO,cK]
  ·simp[cK]
  ·simp[cK]
  ·simp[cK]
 ·rw[List.mem_map]at he
  obtain⟨b,_,rfl⟩:=he
  simp[cK]
theorem w57 {l:List AV} {st:Nat→Nat} {ci:Int} {s nur cl:Nat} (hsm:eO l l=true) (hl:∀ k,k<16→l[6+k]?=some (I (st k))) (h3:l[3]?=some (I s)) (h4:l[4]?=some (I nur)) (hst:∀ k,st k<65536) (hs:s<65536) (hn:nur<65536) (hcl:cl<65536) (hc:Clr ci cl) :
 runW aA 57 [.pt 0 0,I ci] [some (.blk true (.cells true l))]=some (.bool (pK st s nur cl),[some (.blk true (.cells true l))]):=by
 have e:=w78 hl h3 hst hs hcl hc
 have hr:=yV (cl:=cl) hst hs
 have b1:=iS bX (a:=eL st s cl) (b:=nur) (by omega) (by omega)
 unfold pK
 generalize eL st s cl=R at *
 by_cases h:R&&&nur=0
 ·have c1:(((R&&&nur:Nat):Int)=0)=True:=eq_true (by omega)
  rw[decide_eq_true h]
  rw[r57 (by simp)];unfold x57;dsimp only
  (sym=>(simp[Za,Zb,Zd,Ze,Zf,Zg,Zh,Zk,Zl,Zm,Zv,Z2,Z3,Z8,ZH,ZJ,ZM,ZQ,ZR,ZT,ZU,Ya,Ym,Yq,YV,YX,YY,Xd,Xr,Xs,Xx,XJ,XK,XP,We,Wf,Wl,W3,W4,W5,W6,W9,WA,WB,WE,WG,WH,WK,WL,WM,WN,WO,WP,WQ,WR,WS,WU,WV,WW,WY,WZ,Ve,Vf,Vi,Vj,Vk,Vl,Vo,Vp,Vq,Vr,Vv,Vx,Vy,Vz,V9,VA,VC,VD,VE,VF,VG,VJ,VK,VL,VM,VO,VY,VZ,Ua,Uc,Ud,Ue,Uf,Ug,Uh,Um,Uq,Ut,Ux,Uy,U0,U1,U2,U3,U4,U5,U6,UD,UE,Tf,Tg,Tk,Tt,Tu,Tv,Tz,T6,T7,Sw,Sz,SE,SF,SI,SJ,SK,SL,e,b1,h4,c1,hsm];all_goals tactic=>exact rfl))
 ·have c1:(((R&&&nur:Nat):Int)=0)=False:=eq_false (by omega)
  rw[decide_eq_false h]
  rw[r57 (by simp)];unfold x57;dsimp only
  (sym=>(simp[Za,Zb,Zd,Ze,Zf,Zg,Zh,Zk,Zl,Zm,Zv,Z2,Z3,Z8,ZH,ZJ,ZM,ZQ,ZR,ZT,ZU,Ya,Ym,Yq,YV,YX,YY,Xd,Xr,Xs,Xx,XJ,XK,XP,We,Wf,Wl,W3,W4,W5,W6,W9,WA,WB,WE,WG,WH,WK,WL,WM,WN,WO,WP,WQ,WR,WS,WU,WV,WW,WY,WZ,Ve,Vf,Vi,Vj,Vk,Vl,Vo,Vp,Vq,Vr,Vv,Vx,Vy,Vz,V9,VA,VC,VD,VE,VF,VG,VJ,VK,VL,VM,VO,VY,VZ,Ua,Uc,Ud,Ue,Uf,Ug,Uh,Um,Uq,Ut,Ux,Uz,U0,U1,U2,U3,U4,U5,U6,UD,UE,Tf,Tg,Tk,Tt,Tu,Tv,Tz,T6,T7,Sw,Sz,SE,SF,SI,SJ,SK,SL,e,b1,h4,c1,hsm];all_goals tactic=>exact rfl))
def bMt (b:Nat×Nat) (a c:Nat):Bool:=(b.1==a&&b.2==c)||(b.1==c&&b.2==a)
def pMt (p:Nat×Nat×Nat) (a c:Nat):Bool:=p.2.1==a&&p.2.2==c
def bB (x:Vn) (a c i:Nat):Int:=if bMt (x.bs.getD i (0,0)) a c then 1 else 0
def pB (x:Vn) (a c i:Nat):Int:=if pMt (x.ps.getD i (0,0,0)) a c then 1 else 0
theorem aGJ {a b:Nat}:((a:Int)=(b:Int))=(a=b):=by rw[Int.ofNat_inj]
theorem mO (b a:Nat):(((b:Int)=a)=True∧(b==a)=true∧b=a)∨(((b:Int)=a)=False∧(b==a)=false∧b≠a):=by
 by_cases h:b=a
 ·exact .inl ⟨by rw[aGJ];exact eq_true h,by simp[h],h⟩
 ·exact .inr ⟨by rw[aGJ];exact eq_false h,by simp[h],h⟩
section
variable {x:Vn} (ok:x.Ok) {a c:Nat}
include ok in
theorem aAQ {i:Nat} (hi:i<x.bs.length) (h0:bB x a c i=0) :
 aU 0 [1,2,3,7] (execW aA 69 0 none (match oV with | .loop _ a=>a|c=>c) (aQ [1,2,3,7] [I a,I c,.pt 0 0,I (i:Nat)]) (dL x))=some ([I a,I c,.pt 0 0,I (i+1:Nat)],dL x):=by
 obtain⟨b,hx⟩:=aW hi
 have a1:=cZ hi
 have a2:=fI hi (by have:=ok.nb;omega)
 have gl:(x.bs.map bI).length=x.bs.length:=List.length_map ..
 unfold bB at h0
 rw[aR hx]at h0
 unfold bMt at h0
 unfold oV
 dsimp only
 rcases mO b.1 a with ⟨p1,q1,s1⟩|⟨p1,q1,s1⟩<;>rcases mO b.2 c with ⟨p2,q2,s2⟩|⟨p2,q2,s2⟩<;>rcases mO b.1 c with ⟨p3,q3,s3⟩|⟨p3,q3,s3⟩<;>rcases mO b.2 a with ⟨p4,q4,s4⟩|⟨p4,q4,s4⟩<;>rw[q1,q2,q3,q4]at h0<;>first|(exfalso;revert h0;decide)|(exfalso;clear h0;omega)|(sym=>(simp[Za,Zb,Zd,Ze,Zf,Zh,Zl,Zm,Zp,Zr,Zv,Zy,Z0,Z3,Z4,Z8,ZA,ZF,ZG,ZW,Ya,Yc,Yg,Yh,Yj,Ys,Yw,Yx,YQ,YR,YT,YX,Xd,Xr,Xx,Wq,W3,W4,W5,W7,W8,W9,WA,WC,WE,WH,WI,WK,WL,WM,WO,WQ,WR,WS,WT,WY,WZ,Vf,VQ,VR,VS,VT,VU,VV,VZ,Ua,Ub,Uc,Ud,Uf,Ug,Uh,Ui,Uj,Uk,Um,Uo,Uu,Ux,Uy,Uz,U3,U4,U5,U6,UF,UG,UH,UI,UJ,UK,UL,UM,Tf,Tg,Th,Ti,Tj,Tk,Tt,Tu,Tw,Ty,Tz,T2,T5,T6,T7,TK,a1,a2,hx,p1,p2,p3,p4];all_goals tactic=>exact rfl))
theorem aII {i:Nat} (hi:i<x.bs.length) (h0:bB x a c i≠0):∃ e h,
 execW aA 69 0 none (match oV with | .loop _ a=>a|c=>c) (aQ [1,2,3,7] [I a,I c,.pt 0 0,I (i:Nat)]) (dL x)=some (.ret,e,h)∧bD none [(6,none)] false 0 (some (.ret,e,h))=some (.bool true,[]):=by
 obtain⟨b,hx⟩:=aW hi
 have a1:=cZ hi
 have gl:(x.bs.map bI).length=x.bs.length:=List.length_map ..
 unfold bB at h0
 rw[aR hx]at h0
 unfold bMt at h0
 unfold oV
 dsimp only
 rcases mO b.1 a with ⟨p1,q1,s1⟩|⟨p1,q1,s1⟩<;>rcases mO b.2 c with ⟨p2,q2,s2⟩|⟨p2,q2,s2⟩<;>rcases mO b.1 c with ⟨p3,q3,s3⟩|⟨p3,q3,s3⟩<;>rcases mO b.2 a with ⟨p4,q4,s4⟩|⟨p4,q4,s4⟩<;>rw[q1,q2,q3,q4]at h0<;>try (exfalso;revert h0;decide)
 all_goals try (exfalso;clear h0;omega)
 all_goals refine bV ?_ ?_
 all_goals (sym=>(simp[Za,Zb,Zd,Ze,Zf,Zh,Zl,Zm,Zp,Zr,Zt,Zv,Zy,Z0,Z3,Z4,Z8,ZA,ZF,ZG,ZV,ZW,Ya,Yc,Yg,Yh,Ys,Yw,Yx,YQ,YR,YT,YY,Xs,XK,Wf,Wq,W3,W4,W5,W7,W8,W9,WA,WC,WK,WO,WQ,WR,WS,Vv,V9,VA,VC,VD,VE,VF,VG,VJ,VK,VL,VM,VQ,VT,VU,VX,VZ,Ua,Ub,Uc,Ud,Uf,Ug,Uh,Ui,Uj,Uk,Um,Uo,Uu,Uy,Uz,U3,U4,UF,UG,UH,UI,UJ,UK,UL,UM,Tf,Tg,Th,Ti,Tj,Tk,Tt,Tu,Tv,Tw,Ty,Tz,T1,T3,T6,T7,Sw,a1,hx,p1,p2,p3,p4];all_goals tactic=>exact rfl))
include ok in
theorem aAP {i:Nat} (hi:i<x.ps.length) (h0:pB x a c i=0) :
 aU 0 [1,2,3,8] (execW aA 69 0 none (match qH with | .loop _ a=>a|c=>c) (aQ [1,2,3,8] [I a,I c,.pt 0 0,I (i:Nat)]) (dL x))=some ([I a,I c,.pt 0 0,I (i+1:Nat)],dL x):=by
 obtain⟨b,hx⟩:=aW hi
 have a1:=cZ hi
 have a2:=fI hi (by have:=ok.np;omega)
 have gl:(x.ps.map pI).length=x.ps.length:=List.length_map ..
 unfold pB at h0
 rw[aR hx]at h0
 unfold pMt at h0
 unfold qH
 dsimp only
 rcases mO b.2.1 a with ⟨p1,q1,s1⟩|⟨p1,q1,s1⟩<;>rcases mO b.2.2 c with ⟨p2,q2,s2⟩|⟨p2,q2,s2⟩<;>rw[q1,q2]at h0<;>first|(exfalso;revert h0;decide)|(exfalso;clear h0;omega)|(sym=>(simp[Za,Zb,Zd,Ze,Zf,Zh,Zl,Zm,Zp,Zq,Zs,Zv,Zy,Z3,Z8,ZA,ZF,ZG,ZV,ZW,Ya,Yb,Yc,Yg,Yh,Yj,Yq,Ys,Yw,Yx,YX,Xd,Xr,Xx,W3,W4,W5,WC,WE,WH,WI,WK,WL,WM,WO,WQ,WR,WS,WT,WY,WZ,Vf,VQ,VR,VS,VT,VU,VV,VZ,Ua,Uc,Ud,Uf,Ug,Uh,Ui,Uj,Uk,Uu,Ux,Uy,Uz,U3,U4,U5,U6,Tf,Tg,Th,Ti,Tk,Tt,Tu,Tw,Ty,Tz,T2,T5,T6,T7,TK,a1,a2,hx,p1,p2];all_goals tactic=>exact rfl))
theorem aIH {i:Nat} (hi:i<x.ps.length) (h0:pB x a c i≠0):∃ e h,
 execW aA 69 0 none (match qH with | .loop _ a=>a|c=>c) (aQ [1,2,3,8] [I a,I c,.pt 0 0,I (i:Nat)]) (dL x)=some (.ret,e,h)∧bD none [(6,none)] false 0 (some (.ret,e,h))=some (.bool true,[]):=by
 obtain⟨b,hx⟩:=aW hi
 have a1:=cZ hi
 have gl:(x.ps.map pI).length=x.ps.length:=List.length_map ..
 unfold pB at h0
 rw[aR hx]at h0
 unfold pMt at h0
 unfold qH
 dsimp only
 rcases mO b.2.1 a with ⟨p1,q1,s1⟩|⟨p1,q1,s1⟩<;>rcases mO b.2.2 c with ⟨p2,q2,s2⟩|⟨p2,q2,s2⟩<;>rw[q1,q2]at h0<;>try (exfalso;revert h0;decide)
 all_goals try (exfalso;clear h0;omega)
 all_goals refine bV ?_ ?_
 all_goals (sym=>(simp[Za,Zb,Zd,Ze,Zf,Zh,Zl,Zm,Zp,Zq,Zv,Zy,Z3,Z8,ZA,ZF,ZG,ZV,Ya,Yb,Yc,Yg,Yh,Yq,Ys,Yw,Yx,YY,Xs,XK,Wf,W3,W4,W5,WC,WK,WO,WQ,WR,WS,Vv,V9,VA,VC,VD,VE,VF,VG,VJ,VK,VL,VM,VQ,VT,VU,VX,Ua,Ud,Uf,Ug,Uh,Ui,Uj,Uk,Uu,Uy,U3,U4,Tf,Tg,Th,Ti,Tk,Tt,Tu,Tv,Tw,Ty,Tz,T1,T3,T6,T7,Sw,a1,hx,p1,p2];all_goals tactic=>exact rfl))
end
theorem xN (st:Nat→Nat) (u v a c:Nat):(addS st u v a).testBit c=((st a).testBit c||(u==a&&v==c)):=by
 unfold addS uC
 split
 ·next h=>subst h;rw[dV,show (v==c)=decide (v=c) from by rw[Bool.eq_iff_iff];simp];simp
 ·next h =>
  have:(u==a)=false:=by simp;omega
  rw[this];simp
theorem wS {α:Type} {f:(Nat→Nat)→α→Nat→Nat} {m:α→Bool} {a c:Nat} (hf:∀ st y,(f st y a).testBit c=((st a).testBit c||m y)):∀ (l:List α) (st:Nat→Nat),(l.foldl f st a).testBit c=((st a).testBit c||l.any m)
 | [],st=>by simp
 | y::l,st=>by rw[List.foldl_cons,wS hf l,hf,List.any_cons,Bool.or_assoc]
theorem aHF (x:Vn) (a c:Nat):(stB x x.bs.length a).testBit c=x.bs.any fun b=>bMt b a c:=by
 unfold stB
 rw[List.take_length,wS (m:=fun b=>bMt b a c)]
 ·simp
 ·intro st y
  rw[xN,xN,bMt,Bool.or_assoc,Bool.and_comm (y.2==a)]
theorem zX (x:Vn) (a c:Nat):(cQ x a).testBit c=((x.bs.any fun b=>bMt b a c)||x.ps.any fun p=>pMt p a c):=by
 unfold cQ stP
 rw[List.take_length,wS (m:=fun p=>pMt p a c),aHF]
 intro st y
 rw[xN,pMt]
theorem aAu {α:Type} {l:List α} {m:α→Bool}:l.any m=true↔∃ (i:Nat) (y:α),l[i]?=some y∧m y=true:=by
 rw[List.any_eq_true]
 constructor
 ·rintro ⟨y,hy,h⟩
  obtain⟨i,hi⟩:=List.getElem?_of_mem hy
  exact⟨i,y,hi,h⟩
 ·rintro ⟨i,y,hi,h⟩
  exact⟨y,List.mem_of_getElem? hi,h⟩
theorem aJj {x:Vn} {a c:Nat} (h:∀ i,i<x.bs.length→bB x a c i=0):(x.bs.any fun b=>bMt b a c)=false:=by
 cases e:x.bs.any fun b=>bMt b a c
 ·rfl
 ·obtain⟨i,y,hi,hy⟩:=aAu.1 e
  have:=h i (dO hi)
  unfold bB at this
  rw[aR hi,hy]at this
  simp at this
theorem aIv {x:Vn} {a c:Nat} (h:∀ i,i<x.ps.length→pB x a c i=0):(x.ps.any fun b=>pMt b a c)=false:=by
 cases e:x.ps.any fun b=>pMt b a c
 ·rfl
 ·obtain⟨i,y,hi,hy⟩:=aAu.1 e
  have:=h i (dO hi)
  unfold pB at this
  rw[aR hi,hy]at this
  simp at this
theorem w69 {x:Vn} (ok:x.Ok) (a c:Nat):runW aA 69 [.agg x.c,I a,I c] []=some (.bool ((cQ x a).testBit c),[]):=by
 have z:=Te (n:=(x.bs.length:Int))
 have zp:=Te (n:=(x.ps.length:Int))
 have n1:(x.bs.map bI).length=x.bs.length:=List.length_map ..
 have n2:(x.ps.map pI).length=x.ps.length:=List.length_map ..
 have b1:((x.bs.map bI).map fun b=>([I b.1,I b.2]:List AV)).length=x.bs.length:=by simp
 have b2:((x.ps.map pI).map fun p=>([I p.1,I p.2.1,I p.2.2]:List AV)).length=x.ps.length:=by simp
 obtain⟨m,m1,m2,m3⟩:=cO (bB x a c) x.bs.length
 rcases m3 with ⟨rfl,_⟩|⟨m3,m4,_⟩
 ·have hb:=aJj m2
  have rd:=fun i (hi:i<x.bs.length)=>aAQ ok (a:=a) (c:=c) hi (m2 i hi)
  obtain⟨k,k1,k2,k3⟩:=cO (pB x a c) x.ps.length
  rcases k3 with ⟨rfl,_⟩|⟨k3,k4,_⟩
  ·have hp:=aIv k2
   have rd2:=fun i (hi:i<x.ps.length)=>aAP ok (a:=a) (c:=c) hi (k2 i hi)
   rw[zX,hb,hp,Bool.or_self]
   rw[r69 (by simp)];unfold x69;dsimp only
   sym =>
    simp[Zb,Zf,Zh,Zl,Zo,Zv,Zz,Xi,Xk,Xl,We,Wg,Wi,Ws,WB,VO,VY,Uc,Uh,Um,U7,U8,UD,UE,US,UT,Tn,Tu,Ty,Tz,T6,T7]
    tactic =>
     unfold oV
     rw[aC x.bs.length (fun i=>[I a,I c,.pt 0 0,I (i:Nat)]) (fun _=>dL x)]
     ·sym =>
      simp[Za,Zb,Zf,Zh,Zl,Zm,Zv,Z3,Z8,ZF,ZG,Ya,Yc,Ys,W3,W4,W5,WC,VQ,VT,VV,Ui,Uz,Te,Tf,Tg,Tk,Tt,Tu,Tx,Ty,Tz,T0,T4,T6,T7,z]
      tactic =>
       unfold qH
       rw[aC x.ps.length (fun i=>[I a,I c,.pt 0 0,I (i:Nat)]) (fun _=>dL x)]
       ·(sym=>(simp[Za,Zb,Zf,Zh,Zl,Zm,Zv,Z3,Z8,ZF,ZG,Ya,Yc,Ys,YY,Xs,XK,Wf,W3,W4,W5,WC,WK,WO,WQ,WR,WS,Vv,V9,VA,VC,VD,VE,VF,VG,VJ,VK,VL,VM,VQ,VT,VV,Ua,Ud,Uf,Ui,Uz,U3,U4,Te,Tf,Tg,Tk,Tt,Tu,Tv,Tx,Tz,T0,T4,T6,T7,Sw,zp];all_goals tactic=>exact rfl))
       ·(sym=>(simp[Za,Y9,YX,Xd,Xr,Xx,W3,WE,WH,WI,WK,WL,WM,WO,WQ,WR,WS,WT,WY,WZ,Vf,VQ,VR,VS,VZ,Ua,Uc,Ud,Uf,Uk,Ux,U3,U4,U5,U6,T5,TK];all_goals tactic=>exact rfl))
       ·exact rd2
       ·(sym=>(simp[Za,Zb,Zf,Zh,Zl,Zm,Zv,Z3,Z8,ZF,ZG,Ya,Yc,Ys,W3,W4,W5,WC,VQ,VT,VV,VW,Ui,Uz,Te,Tf,Tg,Tk,Tt,Tu,Tx,Tz,T0,T6,zp];all_goals tactic=>exact rfl))
     ·(sym=>(simp[Za,Y9,YX,Xd,Xr,Xx,W3,WB,WE,WH,WI,WK,WL,WM,WO,WQ,WR,WS,WT,WY,WZ,Vf,VO,VR,VS,VZ,Ua,Uc,Ud,Uf,Uk,Ux,U3,U4,U5,U6,T5,TK];all_goals tactic=>exact rfl))
     ·exact rd
     ·(sym=>(simp[Za,Zb,Zf,Zh,Zl,Zm,Zv,Z3,Z8,ZF,ZG,Ya,Yc,Ys,W3,W4,W5,WC,VQ,VT,VV,VW,Ui,Uz,Te,Tf,Tg,Tk,Tt,Tu,Tx,Tz,T0,T6,z];all_goals tactic=>exact rfl))
  ·have rd2:=fun i (hi:i<k)=>aAP ok (a:=a) (c:=c) (show i<x.ps.length by omega) (k2 i hi)
   obtain⟨e,hh,q1,q2⟩:=aIH (a:=a) (c:=c) k3 k4
   have ht:(cQ x a).testBit c=true:=by
    rw[zX,Bool.or_eq_true]
    obtain⟨y,hy⟩:=aW k3
    refine .inr (aAu.2 ⟨k,y,hy,?_⟩)
    unfold pB at k4
    rw[aR hy]at k4
    by_cases h:pMt y a c=true
    ·exact h
    ·rw[if_neg h]at k4;simp at k4
   rw[ht]
   rw[r69 (by simp)];unfold x69;dsimp only
   sym =>
    simp[Zb,Zf,Zh,Zl,Zo,Zv,Zz,Xi,Xk,Xl,We,Wg,Wi,Ws,WB,VO,VY,Uc,Uh,Um,U7,U8,UD,UE,US,UT,Tn,Tu,Ty,Tz,T6,T7]
    tactic =>
     unfold oV
     rw[aC x.bs.length (fun i=>[I a,I c,.pt 0 0,I (i:Nat)]) (fun _=>dL x)]
     ·sym =>
      simp[Za,Zb,Zf,Zh,Zl,Zm,Zv,Z3,Z8,ZF,ZG,Ya,Yc,Ys,W3,W4,W5,WC,VQ,VT,VV,Ui,Uz,Te,Tf,Tg,Tk,Tt,Tu,Tx,Ty,Tz,T0,T4,T6,T7,z]
      tactic =>
       unfold qH
       rw[aC k (fun i=>[I a,I c,.pt 0 0,I (i:Nat)]) (fun _=>dL x)]
       ·unfold qH at q1
        dsimp only at q1
        rw[q1]
        exact q2
       ·(sym=>(simp[Za,Y9,YX,Xd,Xr,Xx,W3,WE,WH,WI,WK,WL,WM,WO,WQ,WR,WS,WT,WY,WZ,Vf,VQ,VR,VS,VZ,Ua,Uc,Ud,Uf,Uk,Ux,U3,U4,U5,U6,T5,TK];all_goals tactic=>exact rfl))
       ·exact rd2
       ·unfold qH at q1
        dsimp only at q1
        rw[q1]
        rfl
     ·(sym=>(simp[Za,Y9,YX,Xd,Xr,Xx,W3,WB,WE,WH,WI,WK,WL,WM,WO,WQ,WR,WS,WT,WY,WZ,Vf,VO,VR,VS,VZ,Ua,Uc,Ud,Uf,Uk,Ux,U3,U4,U5,U6,T5,TK];all_goals tactic=>exact rfl))
     ·exact rd
     ·(sym=>(simp[Za,Zb,Zf,Zh,Zl,Zm,Zv,Z3,Z8,ZF,ZG,Ya,Yc,Ys,W3,W4,W5,WC,VQ,VT,VV,VW,Ui,Uz,Te,Tf,Tg,Tk,Tt,Tu,Tx,Tz,T0,T6,z];all_goals tactic=>exact rfl))
 ·have rd:=fun i (hi:i<m)=>aAQ ok (a:=a) (c:=c) (show i<x.bs.length by omega) (m2 i hi)
  obtain⟨e,hh,q1,q2⟩:=aII (a:=a) (c:=c) m3 m4
  have ht:(cQ x a).testBit c=true:=by
   rw[zX,Bool.or_eq_true]
   obtain⟨y,hy⟩:=aW m3
   refine .inl (aAu.2 ⟨m,y,hy,?_⟩)
   unfold bB at m4
   rw[aR hy]at m4
   by_cases h:bMt y a c=true
   ·exact h
   ·rw[if_neg h]at m4;simp at m4
  rw[ht]
  rw[r69 (by simp)];unfold x69;dsimp only
  sym =>
   simp[Zb,Zf,Zh,Zl,Zo,Zv,Zz,Xi,Xk,Xl,We,Wg,Wi,Ws,WB,VO,VY,Uc,Uh,Um,U7,U8,UD,UE,US,UT,Tn,Tu,Ty,Tz,T6,T7]
   tactic =>
    unfold oV
    rw[aC m (fun i=>[I a,I c,.pt 0 0,I (i:Nat)]) (fun _=>dL x)]
    ·unfold oV at q1
     dsimp only at q1
     rw[q1]
     exact q2
    ·(sym=>(simp[Za,Y9,YX,Xd,Xr,Xx,W3,WB,WE,WH,WI,WK,WL,WM,WO,WQ,WR,WS,WT,WY,WZ,Vf,VO,VR,VS,VZ,Ua,Uc,Ud,Uf,Uk,Ux,U3,U4,U5,U6,T5,TK];all_goals tactic=>exact rfl))
    ·exact rd
    ·unfold oV at q1
     dsimp only at q1
     rw[q1]
     rfl
def uG (g:Nat→Nat):Nat→Nat→Nat
 | 0,m=>m
 | n+1,m=>g (uG g n m)
theorem aCq {st:Nat→Nat} {s cl F:Nat} {g:Nat→Nat} (hF:F≤16) (hst:∀ k,st k<2^F) (hs:s<2^F) (hcl:cl<65536) (h1:∀ m,sub m (g m)) (h2:∀ m,m<2^F→g m<2^F)
 (h3:∀ m,(∀ i,m.testBit i=true→Rch st s cl i)→∀ i,(g m).testBit i=true→Rch st s cl i) (h4:∀ m a b,m<2^F→m.testBit a=true→(st a).testBit b=true→cl.testBit b=false→(g m).testBit b=true) :
 uG g F (gF s cl)=eL st s cl:=by
 have hp:=aX hF
 have hst':∀ k,st k<65536:=fun k=>Nat.lt_of_lt_of_le (hst k) hp
 have hs':s<65536:=by omega
 have lt:∀ k,uG g k (gF s cl)<2^F:=fun k=>by
  induction k with
  | zero=>exact tE hs
  | succ k ih=>exact h2 _ ih
 have base:∀ k i,s.testBit i=true→cl.testBit i=false→(uG g k (gF s cl)).testBit i=true:=fun k i hi hc=>by
  induction k with
  | zero =>
    show (gF s cl).testBit i=true
    rw[bS (by omega),hi,hc]
    have:=eN hs' hi
    simp;omega
  | succ k ih=>exact h1 _ _ ih
 have snd:∀ k i,(uG g k (gF s cl)).testBit i=true→Rch st s cl i:=fun k=>by
  induction k with
  | zero =>
    intro i hi
    have hi:(gF s cl).testBit i=true:=hi
    rw[bS (by omega)]at hi
    simp only[Bool.and_eq_true,Bool.not_eq_true']at hi
    exact .base hi.1 hi.2.2
  | succ k ih=>exact h3 _ ih
 apply Nat.eq_of_testBit_eq
 intro i
 rw[Bool.eq_iff_iff,jP hst' hs' hcl]
 refine⟨snd F i,?_⟩
 refine aJB (F:=F) (M:=fun k=>uG g k (gF s cl)) (P:=fun m=>∀ i,Rch st s cl i→m.testBit i=true) hF lt (fun k=>h1 _) (fun k hk=>?_) (fun k hk i hi=>h1 _ i (hk i hi)) ?_ i
 ·intro i hi
  refine hi.sub (base k) fun a b ha hb hc=>?_
  have:=h4 _ a b (lt k) ha hb hc
  rw[show g (uG g k (gF s cl))=uG g k (gF s cl) from hk]at this
  exact this
 ·intro i hi
  rw[Nat.testBit_two_pow_sub_one]
  simpa using hi.lt hs hst
def rS (st:Nat→Nat) (cl a m b:Nat):Nat:=if m.testBit a&&(!cl.testBit b&&(st a).testBit b) then m|||2^b else m
def mB (st:Nat→Nat) (cl a m i:Nat):Nat:=(List.range i).foldl (rS st cl a) m
def mA (st:Nat→Nat) (cl F m i:Nat):Nat:=(List.range i).foldl (fun m a=>mB st cl a m F) m
theorem aBd (st:Nat→Nat) (cl a m i:Nat):mB st cl a m (i+1)=rS st cl a (mB st cl a m i) i:=by rw[mB,List.range_succ,List.foldl_append];rfl
theorem aBe (st:Nat→Nat) (cl F m i:Nat):mA st cl F m (i+1)=mB st cl i (mA st cl F m i) F:=by rw[mA,List.range_succ,List.foldl_append];rfl
section
variable {st:Nat→Nat} {s cl F:Nat}
theorem aJY (a m b:Nat):sub m (rS st cl a m b):=fun i hi=>by
 unfold rS
 split
 ·rw[dV,hi];rfl
 ·exact hi
theorem aDx (a m:Nat) {i j:Nat} (h:i≤j):sub (mB st cl a m i) (mB st cl a m j):=by
 induction j with
 | zero=>rw[show i=0 by omega];exact cR _
 | succ j ih =>
   by_cases e:i=j+1
   ·rw[e];exact cR _
   ·rw[aBd];exact kY (ih (by omega)) (aJY _ _ _)
theorem aGu (a m i:Nat):sub m (mB st cl a m i):=aDx a m (Nat.zero_le i)
theorem aDy (m:Nat) {i j:Nat} (h:i≤j):sub (mA st cl F m i) (mA st cl F m j):=by
 induction j with
 | zero=>rw[show i=0 by omega];exact cR _
 | succ j ih =>
   by_cases e:i=j+1
   ·rw[e];exact cR _
   ·rw[aBe];exact kY (ih (by omega)) (aGu _ _ _)
theorem aGx (m i:Nat):sub m (mA st cl F m i):=aDy m (Nat.zero_le i)
theorem aGw {a m:Nat} (hm:m<2^F):∀ i,i≤F→mB st cl a m i<2^F
 | 0,_=>hm
 | i+1,h=>by
   have ih:=aGw (a:=a) hm i (by omega)
   rw[aBd,rS]
   split
   ·exact qW ih (by omega)
   ·exact ih
theorem aDz {m:Nat} (hm:m<2^F):∀ i,mA st cl F m i<2^F
 | 0=>hm
 | i+1=>by rw[aBe];exact aGw (aDz hm i) F (Nat.le_refl _)
theorem aGv {a m:Nat} (h:∀ i,m.testBit i=true→Rch st s cl i):∀ n i,(mB st cl a m n).testBit i=true→Rch st s cl i
 | 0=>h
 | n+1=>by
   intro i hi
   have ih:=aGv (a:=a) h n
   rw[aBd,rS]at hi
   split at hi
   ·next hc =>
    rw[dV,Bool.or_eq_true]at hi
    simp only[Bool.and_eq_true,Bool.not_eq_true']at hc
    rcases hi with hi|hi
    ·exact ih i hi
    ·rw[←of_decide_eq_true hi]
     exact .step (ih a hc.1) hc.2.2 hc.2.1
   ·exact ih i hi
theorem aGy {m:Nat} (h:∀ i,m.testBit i=true→Rch st s cl i):∀ n i,(mA st cl F m n).testBit i=true→Rch st s cl i
 | 0=>h
 | n+1=>by rw[aBe];exact aGv (aGy h n) F
theorem aID {m a b:Nat} (hst:∀ k,st k<2^F) (hm:m<2^F) (ha:m.testBit a=true) (hb:(st a).testBit b=true) (hc:cl.testBit b=false):(mA st cl F m F).testBit b=true:=by
 have hF:=fK hm ha
 have hbF:=fK (hst a) hb
 refine aDy (F:=F) m (show a+1≤F from hF) b ?_
 rw[aBe]
 refine aDx a _ (show b+1≤F from hbF) b ?_
 rw[aBd,rS,aGu a _ b a (aGx m a a ha),hb,hc]
 rw[if_pos (by rfl),dV];simp
end
theorem aEp {x:Vn} (ok:x.Ok) {cl:Nat} (hcl:cl<65536):uG (fun m=>mA (cQ x) cl x.F m x.F) x.F (gF x.sick cl)=eL (cQ x) x.sick cl :=
 aCq ok.F16 (eR ok _) ok.s hcl (fun m=>aGx m _) (fun m hm=>aDz hm _) (fun m h=>aGy h _) (fun m a b hm ha hb hc=>aID (eR ok _) hm ha hb hc)
section
variable {x:Vn} (ok:x.Ok) {cl:Nat} (hcl:cl<2^x.F)
include ok hcl in
theorem aFG {m0 r a i:Nat} (hm0:m0<2^x.F) (ha:a<x.F) (hi:i<x.F) :
 aU 0 [1,2,5,6,7,8] (execW aA 58 0 none (match aCZ with | .loop _ a=>a|c=>c) (aQ [1,2,5,6,7,8] [I cl,.pt 0 0,I (mB (cQ x) cl a m0 i:Nat),I (r:Nat),I (a:Nat),I (i:Nat)]) (dL x))=some ([I cl,.pt 0 0,I (mB (cQ x) cl a m0 (i+1):Nat),I (r:Nat),I (a:Nat),I (i+1:Nat)],dL x):=by
 have hF:=ok.F16
 have hp:=aX hF
 have hm:=aGw (st:=cQ x) (cl:=cl) (a:=a) hm0 i (by omega)
 have e1:=w52 (a:=mB (cQ x) cl a m0 i) (j:=a) (by omega) (by omega)
 have e2:=w52 (a:=cl) (j:=i) (by omega) (by omega)
 have e3:=w69 ok a i
 have a1:((i:Int)<x.F)=True:=eq_true (by omega)
 have a2:IntKind.i64.wrap ((i:Int)+1)=(i:Int)+1:=aE (by omega) (by omega)
 have s1:=lP bX (i:=i) (by omega)
 have s1':=aDk bX (i:=i) (by omega)
 have n1:((i:Int)<0)=False:=eq_false (by omega)
 have p1:(2:Nat)^i≤2^16:=Nat.pow_le_pow_right (by omega) (by omega)
 have o1:=dG bX (a:=mB (cQ x) cl a m0 i) (b:=2^i) (by omega) (by omega)
 rw[aBd,rS]
 generalize mB (cQ x) cl a m0 i=m at *
 generalize (cQ x a).testBit i=t3 at *
 generalize cl.testBit i=t2 at *
 generalize m.testBit a=t1 at *
 unfold aCZ
 dsimp only
 cases t1
 ·simp only[Bool.false_and,Bool.false_eq_true,if_false]
  (sym=>(simp[Za,Zb,Zf,Zg,Zh,Zj,Zl,Zm,Zp,Zs,Zv,Zy,Z3,Z8,ZG,ZO,ZP,ZT,ZU,ZW,Ya,Yj,Ys,YX,Xd,Xr,Xs,Xx,W3,W4,W5,WA,WC,WE,WH,WI,WK,WL,WM,WN,WO,WP,WQ,WR,WS,WT,WU,WV,WY,WZ,Vf,Vi,Vj,Vk,Vv,Vx,Vy,V0,V1,V3,VQ,VR,VS,VT,VU,VV,VZ,Ua,Uc,Ud,Uf,Ug,Uh,Uk,Ux,Uy,U2,U3,U4,U5,U6,Tf,Tg,Tk,Tt,Tu,Tw,Ty,Tz,T2,T5,T6,T7,TK,SE,SF,SG,SJ,SK,SL,e1,e2,e3,a1,a2];all_goals tactic=>exact rfl))
 ·cases t2
  ·cases t3
   ·simp only[Bool.and_false,Bool.false_eq_true,if_false]
    (sym=>(simp[Za,Zb,Zf,Zg,Zh,Zj,Zl,Zm,Zp,Zq,Zv,Zy,Z3,Z5,Z8,ZG,ZO,ZP,ZT,ZU,ZV,ZX,Ya,Yj,Ys,YX,YZ,Xb,Xd,Xr,Xs,Xt,Xv,Xx,W3,W4,W5,W7,W8,W9,WA,WC,WE,WH,WI,WK,WL,WM,WN,WO,WP,WQ,WR,WS,WT,WU,WV,WY,WZ,Vf,Vi,Vj,Vk,Vv,Vx,Vy,V0,V1,V3,VQ,VR,VS,VT,VU,VV,VZ,Ua,Uc,Ud,Uf,Ug,Uh,Uk,Ur,Ux,Uy,U2,U3,U4,U5,U6,Tf,Tg,Tj,Tk,Tt,Tu,Tw,Ty,Tz,T2,T5,T6,T7,TK,SE,SF,SG,SJ,SK,SL,e1,e2,e3,a1,a2];all_goals tactic=>exact rfl))
   ·simp only[Bool.not_false,Bool.and_self,if_true]
    (sym=>(simp[Za,Zb,Zf,Zg,Zh,Zj,Zl,Zm,Zp,Zq,Zv,Zy,Z3,Z5,Z8,ZG,ZO,ZP,ZT,ZU,ZV,ZX,Ya,Yj,Yn,Yo,Ys,Yx,YX,YZ,Xb,Xd,Xr,Xs,Xt,Xv,Xx,W3,W4,W5,W7,W8,W9,WA,WC,WE,WH,WI,WK,WL,WM,WN,WO,WP,WQ,WR,WS,WT,WU,WV,WY,WZ,Vf,Vi,Vj,Vk,Vv,Vx,Vy,V0,V1,V3,VQ,VR,VS,VT,VU,VZ,Ua,Uc,Ud,Uf,Ug,Uh,Uk,Ur,Ux,Uy,U2,U3,U4,U5,U6,Tf,Tg,Tj,Tk,Tt,Tu,Tw,Ty,Tz,T2,T5,T6,T7,TK,SE,SF,SG,SJ,SK,SL,e1,e2,e3,a1,a2,s1,s1',n1,o1];all_goals tactic=>exact rfl))
  ·simp only[Bool.not_true,Bool.false_and,Bool.and_false,Bool.false_eq_true,if_false]
   (sym=>(simp[Za,Zb,Zf,Zg,Zh,Zj,Zl,Zm,Zp,Zq,Zs,Zv,Zy,Z3,Z5,Z8,ZG,ZO,ZP,ZT,ZU,ZV,ZW,ZX,Ya,Yj,Ys,YX,Xd,Xr,Xs,Xx,W3,W4,W5,WA,WC,WE,WH,WI,WK,WL,WM,WN,WO,WP,WQ,WR,WS,WT,WU,WV,WY,WZ,Vf,Vi,Vj,Vk,Vv,Vx,Vy,V0,V1,V3,VQ,VR,VS,VT,VU,VV,VZ,Ua,Uc,Ud,Uf,Ug,Uh,Uk,Uq,Ux,Uy,U2,U3,U4,U5,U6,Tf,Tg,Tk,Tt,Tu,Tw,Ty,Tz,T2,T5,T6,T7,TK,SE,SF,SG,SJ,SK,SL,e1,e2,e3,a1,a2];all_goals tactic=>exact rfl))
include ok hcl in
theorem aFF {m0 r i:Nat} (hm0:m0<2^x.F) (hi:i<x.F) :
 aU 0 [1,2,5,6,7] (execW aA 58 0 none (match aCY with | .loop _ a=>a|c=>c) (aQ [1,2,5,6,7] [I cl,.pt 0 0,I (mA (cQ x) cl x.F m0 i:Nat),I (r:Nat),I (i:Nat)]) (dL x))=some ([I cl,.pt 0 0,I (mA (cQ x) cl x.F m0 (i+1):Nat),I (r:Nat),I (i+1:Nat)],dL x):=by
 have hF:=ok.F16
 have hm:=aDz (st:=cQ x) (cl:=cl) hm0 i
 have rd:=fun j (hj:j<x.F)=>aFG ok hcl (r:=r) hm hi hj
 have a1:((i:Int)<x.F)=True:=eq_true (by omega)
 have a2:IntKind.i64.wrap ((i:Int)+1)=(i:Int)+1:=aE (by omega) (by omega)
 have z:=Te (n:=(x.F:Int))
 rw[aBe]
 generalize mA (cQ x) cl x.F m0 i=m at *
 have b0:mB (cQ x) cl i m 0=m:=rfl
 unfold aCY
 dsimp only
 sym =>
  simp[Za,Zb,Zf,Zh,Zl,Zm,Zv,Z3,Z8,ZG,Ya,Ys,W3,W4,W5,WC,VQ,VT,VU,Uy,Tf,Tg,Tk,Tt,Tu,Tw,Ty,Tz,T6,T7,a1]
  tactic =>
   unfold aCZ
   rw[aC x.F (fun j=>[I cl,.pt 0 0,I (mB (cQ x) cl i m j:Nat),I (r:Nat),I (i:Nat),I (j:Nat)]) (fun _=>dL x)]
   ·generalize mB (cQ x) cl i m x.F=q at *
    (sym=>(simp[Za,Zb,Zf,Zh,Zl,Zm,Zv,Z3,Z8,ZG,Ya,Yj,Ys,YX,Xd,Xr,Xx,W3,W4,W5,WC,WE,WH,WI,WK,WL,WM,WO,WQ,WR,WS,WT,WY,WZ,Vf,VQ,VR,VS,VT,VV,VZ,Ua,Uc,Ud,Uf,Uk,Ux,Uz,U3,U4,U5,U6,Te,Tf,Tg,Tk,Tt,Tu,Tx,Tz,T0,T2,T4,T5,T6,T7,TK,z,a2];all_goals tactic=>exact rfl))
   ·rw[b0]; (sym=>(simp[Za,Y9,YX,Xd,Xr,Xx,W3,WE,WH,WI,WK,WL,WM,WO,WQ,WR,WS,WT,WY,WZ,Vf,VQ,VR,VS,VZ,Ua,Uc,Ud,Uf,Uk,Ux,U3,U4,U5,U6,T5,TK];all_goals tactic=>exact rfl))
   ·exact rd
   ·generalize mB (cQ x) cl i m x.F=q at *
    (sym=>(simp[Za,Zb,Zf,Zh,Zl,Zm,Zv,Z3,Z8,ZG,Ya,Ys,W3,W4,W5,WC,VQ,VT,VV,VW,Uz,Te,Tf,Tg,Tk,Tt,Tu,Tx,Tz,T0,T6,z];all_goals tactic=>exact rfl))
include ok hcl in
theorem aFE {i:Nat} (hi:i<x.F) {m0:Nat} (hm0:m0<2^x.F) :
 aU 0 [1,2,5,6] (execW aA 58 0 none (match aCX with | .loop _ a=>a|c=>c) (aQ [1,2,5,6] [I cl,.pt 0 0,I (m0:Nat),I (i:Nat)]) (dL x))=some ([I cl,.pt 0 0,I (mA (cQ x) cl x.F m0 x.F:Nat),I (i+1:Nat)],dL x):=by
 have hF:=ok.F16
 have rd:=fun j (hj:j<x.F)=>aFF ok hcl (r:=i) hm0 hj
 have a1:((i:Int)<x.F)=True:=eq_true (by omega)
 have a2:IntKind.i64.wrap ((i:Int)+1)=(i:Int)+1:=aE (by omega) (by omega)
 have z:=Te (n:=(x.F:Int))
 have b0:mA (cQ x) cl x.F m0 0=m0:=rfl
 unfold aCX
 dsimp only
 sym =>
  simp[Za,Zb,Zf,Zh,Zl,Zm,Zv,Z3,Z8,ZG,Ya,Ys,W3,W4,W5,WC,VQ,VT,VU,Uy,Tf,Tg,Tk,Tt,Tu,Tw,Ty,Tz,T6,T7,a1]
  tactic =>
   unfold aCY
   rw[aC x.F (fun j=>[I cl,.pt 0 0,I (mA (cQ x) cl x.F m0 j:Nat),I (i:Nat),I (j:Nat)]) (fun _=>dL x)]
   ·generalize mA (cQ x) cl x.F m0 x.F=q at *
    (sym=>(simp[Za,Zb,Zf,Zh,Zl,Zm,Zv,Z3,Z8,ZG,Ya,Yj,Ys,YX,Xd,Xr,Xx,W3,W4,W5,WC,WE,WH,WI,WK,WL,WM,WO,WQ,WR,WS,WT,WY,WZ,Vf,VQ,VR,VS,VT,VV,VZ,Ua,Uc,Ud,Uf,Uk,Ux,Uz,U3,U4,U5,U6,Te,Tf,Tg,Tk,Tt,Tu,Tx,Tz,T0,T2,T4,T5,T6,T7,TK,z,a2];all_goals tactic=>exact rfl))
   ·rw[b0]; (sym=>(simp[Za,Y9,YX,Xd,Xr,Xx,W3,WE,WH,WI,WK,WL,WM,WO,WQ,WR,WS,WT,WY,WZ,Vf,VQ,VR,VS,VZ,Ua,Uc,Ud,Uf,Uk,Ux,U3,U4,U5,U6,T5,TK];all_goals tactic=>exact rfl))
   ·exact rd
   ·generalize mA (cQ x) cl x.F m0 x.F=q at *
    (sym=>(simp[Za,Zb,Zf,Zh,Zl,Zm,Zv,Z3,Z8,ZG,Ya,Ys,W3,W4,W5,WC,VQ,VT,VV,VW,Uz,Te,Tf,Tg,Tk,Tt,Tu,Tx,Tz,T0,T6,z];all_goals tactic=>exact rfl))
include ok hcl in
theorem w58:runW aA 58 [.agg x.c,I cl] []=some (I (eL (cQ x) x.sick cl:Nat),[]):=by
 have hF:=ok.F16
 have hp:=aX hF
 have hk:=ok.s
 have lt:∀ k,uG (fun m=>mA (cQ x) cl x.F m x.F) k (gF x.sick cl)<2^x.F:=fun k=>by
  induction k with
  | zero=>exact tE hk
  | succ k ih=>exact aDz ih _
 have rd:=fun i (hi:i<x.F)=>aFE ok hcl hi (lt i)
 have z:=Te (n:=(x.F:Int))
 have er:=aEp ok (cl:=cl) (by omega)
 have d1:=iR bX (a:=x.sick) (b:=cl) (by omega) (by omega)
 have i0:uG (fun m=>mA (cQ x) cl x.F m x.F) 0 (gF x.sick cl)=gF x.sick cl:=rfl
 generalize hd:gF x.sick cl=d at *
 rw[r58 (by simp)];unfold x58;dsimp only
 sym =>
  simp[Za,Zb,Zf,Zh,Zl,Zm,Zo,Zv,Zz,Z3,Z8,ZG,Ya,Xi,Xk,Xl,We,Wg,Wi,Ws,W3,W4,W5,WB,WC,VO,VY,Uc,Uh,Um,U7,U8,UD,UE,US,UT,Tf,Tg,Tk,Tn,Tt,Tu,Ty,Tz,T6,T7,SD,d1]
  tactic =>
   unfold aCX
   rw[aC x.F (fun i=>[I cl,.pt 0 0,I (uG (fun m=>mA (cQ x) cl x.F m x.F) i d:Nat),I (i:Nat)]) (fun _=>dL x)]
   ·rw[er]
    generalize eL (cQ x) x.sick cl=q at *
    (sym=>(simp[Za,Zb,Zf,Zh,Zl,Zm,Zv,Z3,Z8,ZG,Ya,Ys,YX,Xr,XJ,We,W3,W4,W5,WC,WK,WO,WQ,WR,WS,Vv,V9,VA,VC,VD,VE,VF,VG,VJ,VK,VL,VM,VQ,VT,VV,Ua,Ud,Uf,Uz,U3,U4,Te,Tf,Tg,Tk,Tt,Tu,Tv,Tx,Tz,T0,T4,T6,Sw,z];all_goals tactic=>exact rfl))
   ·rw[i0]; (sym=>(simp[Za,Y9,YX,Xd,Xr,Xx,W3,WB,WE,WH,WI,WK,WL,WM,WO,WQ,WR,WS,WT,WY,WZ,Vf,VO,VR,VS,VZ,Ua,Uc,Ud,Uf,Uk,Ux,U3,U4,U5,U6,T5,TK];all_goals tactic=>exact rfl))
   ·exact rd
   ·rw[er]
    generalize eL (cQ x) x.sick cl=q at *
    (sym=>(simp[Za,Zb,Zf,Zh,Zl,Zm,Zv,Z3,Z8,ZG,Ya,Ys,W3,W4,W5,WC,VQ,VT,VV,VW,Uz,Te,Tf,Tg,Tk,Tt,Tu,Tx,Tz,T0,T6,z];all_goals tactic=>exact rfl))
end
section
variable {x:Vn} (ok:x.Ok) {c:List Int} (hc:c.length<1000000000)
include ok hc in
end
def lM (a b:Int):Int:=Int.tmod a b
def lN (a b:Int):Int:=Int.tdiv a b
def aGh (z:Bool) (k:IntKind) (v:Int):Option AV:=if z then none else some (.int k v)
theorem fQ (k:IntKind) (v:Int):aGh false k v=some (.int k v):=rfl
theorem dJ {k:IntKind} {a b:Int}:eX .rem k a k b=aGh (decide (b=0)) k (lM a b):=by
 by_cases h:b=0<;>simp[eX,aGh,h,lM]
theorem dK {k:IntKind} {a b:Int}:eX .quo k a k b=aGh (decide (b=0)) k (k.wrap (lN a b)):=by
 by_cases h:b=0<;>simp[eX,aGh,h,lN]
theorem bZ (a b:Nat):lN (a:Int) (b:Int)=((a/b:Nat):Int):=by rw[lN,Int.tdiv_eq_ediv_of_nonneg (by omega)];exact(Int.natCast_ediv a b).symm
theorem bY (a b:Nat):lM (a:Int) (b:Int)=((a%b:Nat):Int):=by rw[lM,Int.tmod_eq_emod_of_nonneg (by omega)];exact(Int.natCast_emod a b).symm
def flC (fl:Nat→Nat→Int):List AV:=(List.range 1156).map fun k=>I (fl (k/34) (k%34))
def gZ (v:AV) (fl:Nat→Nat→Int):List AV:=v::flC fl
theorem aLF (l:List Nat) (f:Nat→Int):mM (l.map fun k=>I (f k))=[]:=by
 induction l with
 | nil=>simp[mM]
 | cons a l ih=>rw[List.map_cons,mM,ih];rfl
theorem aLD (s:Nat→Option Nat) (l:List Nat) (f:Nat→Int):kT s (l.map fun k=>I (f k))=l.map fun k=>I (f k):=by
 induction l with
 | nil=>simp[kT]
 | cons a l ih=>rw[List.map_cons,kT,ih];rfl
theorem aJC (l:List Nat) (f:Nat→Int):fM (l.map fun k=>I (f k))=true:=by
 induction l with
 | nil=>simp[fM]
 | cons a l ih=>rw[List.map_cons,fM,ih];rfl
theorem aLR (b:Nat) (cs:List AV) (l:List Nat) (f:Nat→Int):uI b cs (l.map fun k=>I (f k))=l.map fun k=>I (f k):=by
 induction l with
 | nil=>simp[uI]
 | cons a l ih=>rw[List.map_cons,uI,ih];rfl
theorem aJ {v:AV} {fl:Nat→Nat→Int}:mM (gZ v fl)=nmA v:=by rw[gZ,mM,flC,aLF (List.range 1156) (fun k=>fl (k/34) (k%34)),List.append_nil]
theorem aI {s:Nat→Option Nat} {v:AV} {fl:Nat→Nat→Int}:kT s (gZ v fl)=gZ (rnA s v) fl:=by rw[gZ,kT,flC,aLD s (List.range 1156) (fun k=>fl (k/34) (k%34))];rfl
theorem aK {v:AV} {fl:Nat→Nat→Int}:fM (gZ v fl)=gG v:=by rw[gZ,fM,flC,aJC (List.range 1156) (fun k=>fl (k/34) (k%34)),Bool.and_true]
theorem aL {b:Nat} {cs:List AV} {v:AV} {fl:Nat→Nat→Int}:uI b cs (gZ v fl)=gZ (xX b cs v) fl:=by rw[gZ,uI,flC,aLR b cs (List.range 1156) (fun k=>fl (k/34) (k%34))];rfl
theorem aT {v:AV} {fl:Nat→Nat→Int}:(gZ v fl)[0]?=some v:=rfl
theorem aIW (fl:Nat→Nat→Int):(flC fl).length=1156:=by simp[flC]
theorem aF {v:AV} {fl:Nat→Nat→Int}:(gZ v fl).length=1157:=by rw[gZ,List.length_cons,aIW]
theorem bP {v:AV} {fl:Nat→Nat→Int} {a b:Nat} (ha:a<34) (hb:b<34):(gZ v fl)[1+a*34+b]?=some (I (fl a b)):=by
 rw[show 1+a*34+b=(a*34+b)+1 by omega,gZ,List.getElem?_cons_succ,flC,List.getElem?_map,List.getElem?_range (by omega),Option.map_some]
 rw[show (a*34+b)/34=a by omega,show (a*34+b)%34=b by omega]
def kN (fl:Nat→Nat→Int) (a b:Nat) (v:Int):Nat→Nat→Int:=fun c d=>if c=a∧d=b then v else fl c d
theorem rA {v:AV} {fl:Nat→Nat→Int} {a b:Nat} {n:Int} (ha:a<34) (hb:b<34):bU (gZ v fl) (1+a*34+b) [I n]=gZ v (kN fl a b n):=by
 rw[jN (by rw[aF];omega)]
 apply List.ext_getElem?
 intro j
 rw[List.getElem?_set,aF]
 by_cases hj:1+a*34+b=j
 ·subst hj
  rw[if_pos rfl,if_pos (by omega),bP ha hb,kN,if_pos ⟨rfl,rfl⟩]
 ·rw[if_neg hj]
  by_cases h0:j=0
  ·subst h0;rfl
  ·by_cases h:j<1157
   ·obtain⟨c,d,hc,hd,rfl⟩:∃ c d,c<34∧d<34∧j=1+c*34+d:=⟨(j-1)/34,(j-1)%34,by omega,by omega,by omega⟩
    rw[bP hc hd,bP hc hd,kN,if_neg (by rintro ⟨rfl,rfl⟩;exact hj rfl)]
   ·rw[List.getElem?_eq_none (by rw[aF];omega),List.getElem?_eq_none (by rw[aF];omega)]
def bR (st:Nat→Nat) (s nur fix a b:Nat):Int :=
 if a=32 then (if b%2=0∧b<32∧s.testBit (b/2)=true then 16 else 0)
 else if b=33 then (if a%2=1∧a<32∧nur.testBit (a/2)=true then 16 else 0)
 else if 32≤a∨32≤b then 0
 else if a%2=0∧b=a+1 then (if fix.testBit (a/2)=true then 16 else 1)
 else if a%2=1∧b%2=0∧(st (a/2)).testBit (b/2)=true then 16 else 0
structure aCO (l:List AV) (st:Nat→Nat) (F s nur fix:Nat):Prop where
 k:∀ k,k<16→l[6+k]?=some (I (st k))
 l0:l[0]?=some (I F)
 l3:l[3]?=some (I s)
 l4:l[4]?=some (I nur)
 l5:l[5]?=some (I fix)
 F16:F≤16
 st:∀ k,st k<65536
 s:s<65536
 nur:nur<65536
 fix:fix<65536
theorem aOX {x:Vn} (ok:x.Ok):aCO (eW x (cQ x)) (cQ x) x.F x.sick x.nur x.fix:=by
 have hp:=aX ok.F16
 have:=ok.s
 have:=ok.n
 have:=ok.f
 exact⟨fun k hk=>iX hk,rfl,rfl,rfl,rfl,ok.F16,fun k=>Nat.lt_of_lt_of_le (eR ok _ k) hp,by omega,by omega,by omega⟩
def FlB (fl:Nat→Nat→Int):Prop:=∀ a b,0≤fl a b∧fl a b≤100
def cM (st:Nat→Nat) (s nur fix:Nat) (fl:Nat→Nat→Int) (a b:Nat):Int:=bR st s nur fix a b-fl a b+fl b a
abbrev gN (l:List AV) (fl:Nat→Nat→Int):XH:=[some (.blk false (.cells true (gZ (.pt 1 0) fl))),some (.blk true (.cells true l))]
end Go.Proofs.YtiabjdfdkiijmaaDoor
