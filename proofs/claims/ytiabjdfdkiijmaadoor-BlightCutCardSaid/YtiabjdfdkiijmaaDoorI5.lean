/- Parts of a proof, joined: GT E0 K1 K2 K3 K4 K5 K6 K7 K8 K9 K10 K11 K12 K13 K14 K15 K16 K17 K18 K19 K20 K21 K22 K23 K24 K25 K26 K27 K28 K29 K30 K31 K32 K33 K34 K35 K36 K37 K38 K39 K40 K41 K42 K43 K44 K45 K46. No statement of the seed is proved here. -/
import Derived.KernelRfl
import Derived.Test.YtiabjdfdkiijmaaDoorI4
set_option linter.unusedSimpArgs false
set_option linter.unusedVariables false
set_option linter.unusedSectionVars false
namespace Go.Proofs.YtiabjdfdkiijmaaDoor
open Go Go.DL Go.Proofs.Tryd

def aA:Nat→Option XFn
 | 8=>some x8
 | 16=>some x16
 | 18=>some x18
 | 20=>some x20
 | 22=>some x22
 | 23=>some x23
 | 25=>some x25
 | 27=>some x27
 | 29=>some x29
 | 31=>some x31
 | 33=>some x33
 | 35=>some x35
 | 36=>some x36
 | 39=>some x39
 | 40=>some x40
 | 41=>some x41
 | 42=>some x42
 | 44=>some x44
 | 45=>some x45
 | 46=>some x46
 | 50=>some x50
 | 51=>some x51
 | 53=>some x53
 | 54=>some x54
 | 56=>some x56
 | 57=>some x57
 | 59=>some x59
 | 60=>some x60
 | 61=>some x61
 | 62=>some x62
 | 63=>some x63
 | 65=>some x65
 | 66=>some x66
 | 67=>some x67
 | 68=>some x68
 | 70=>some x70
 | 71=>some x71
 | 72=>some x72
 | 73=>some x73
 | 75=>some x75
 | 76=>some x76
 | 77=>some x77
 | 78=>some x78
 | 79=>some x79
 | 80=>some x80
 | 81=>some x81
 | 82=>some x82
 | 83=>some x83
 | 84=>some x84
 | 85=>some x85
 | 86=>some x86
 | 87=>some x87
 | 88=>some x88
 | 89=>some x89
 | 90=>some x90
 | 91=>some x91
 | _=>none
theorem aGK:XOk prog aA:=by
 refine⟨rfl,fun k d h=>?_,fun k d h=>?_,fun k d h=>?_⟩
 ·unfold aA at h
  split at h
  ·simp only[oSI]at h;subst h;exact is8
  ·simp only[oSI]at h;subst h;exact aQs
  ·simp only[oSI]at h;subst h;exact aQr
  ·simp only[oSI]at h;subst h;exact aQq
  ·simp only[oSI]at h;subst h;exact aQp
  ·simp only[oSI]at h;subst h;exact aQo
  ·simp only[oSI]at h;subst h;exact aQn
  ·simp only[oSI]at h;subst h;exact aQm
  ·simp only[oSI]at h;subst h;exact aQl
  ·simp only[oSI]at h;subst h;exact aQk
  ·simp only[oSI]at h;subst h;exact aQj
  ·simp only[oSI]at h;subst h;exact aQi
  ·simp only[oSI]at h;subst h;exact aQh
  ·simp only[oSI]at h;subst h;exact aQg
  ·simp only[oSI]at h;subst h;exact aQf
  ·simp only[oSI]at h;subst h;exact aQe
  ·simp only[oSI]at h;subst h;exact aQd
  ·simp only[oSI]at h;subst h;exact aQc
  ·simp only[oSI]at h;subst h;exact aQb
  ·simp only[oSI]at h;subst h;exact aQa
  ·simp only[oSI]at h;subst h;exact aPZ
  ·simp only[oSI]at h;subst h;exact aPY
  ·simp only[oSI]at h;subst h;exact aPX
  ·simp only[oSI]at h;subst h;exact aPW
  ·simp only[oSI]at h;subst h;exact aPV
  ·simp only[oSI]at h;subst h;exact aPU
  ·simp only[oSI]at h;subst h;exact aPT
  ·simp only[oSI]at h;subst h;exact aPS
  ·simp only[oSI]at h;subst h;exact aPR
  ·simp only[oSI]at h;subst h;exact aPQ
  ·simp only[oSI]at h;subst h;exact aPP
  ·simp only[oSI]at h;subst h;exact aPO
  ·simp only[oSI]at h;subst h;exact aPN
  ·simp only[oSI]at h;subst h;exact aPM
  ·simp only[oSI]at h;subst h;exact aPL
  ·simp only[oSI]at h;subst h;exact aPK
  ·simp only[oSI]at h;subst h;exact aPJ
  ·simp only[oSI]at h;subst h;exact aPI
  ·simp only[oSI]at h;subst h;exact aPH
  ·simp only[oSI]at h;subst h;exact aPG
  ·simp only[oSI]at h;subst h;exact aPF
  ·simp only[oSI]at h;subst h;exact aPE
  ·simp only[oSI]at h;subst h;exact aPD
  ·simp only[oSI]at h;subst h;exact aPC
  ·simp only[oSI]at h;subst h;exact aPB
  ·simp only[oSI]at h;subst h;exact aPA
  ·simp only[oSI]at h;subst h;exact aPz
  ·simp only[oSI]at h;subst h;exact aPy
  ·simp only[oSI]at h;subst h;exact aPx
  ·simp only[oSI]at h;subst h;exact aPw
  ·simp only[oSI]at h;subst h;exact aPv
  ·simp only[oSI]at h;subst h;exact aPu
  ·simp only[oSI]at h;subst h;exact aPt
  ·simp only[oSI]at h;subst h;exact aPs
  ·simp only[oSI]at h;subst h;exact aPr
  ·simp only[oSI]at h;subst h;exact aPq
  ·cases h
 ·unfold aA at h
  split at h
  ·simp only[oSI]at h;subst h;exact ok8
  ·simp only[oSI]at h;subst h;exact aPo
  ·simp only[oSI]at h;subst h;exact aPn
  ·simp only[oSI]at h;subst h;exact aPm
  ·simp only[oSI]at h;subst h;exact aPl
  ·simp only[oSI]at h;subst h;exact aPk
  ·simp only[oSI]at h;subst h;exact aPj
  ·simp only[oSI]at h;subst h;exact aPi
  ·simp only[oSI]at h;subst h;exact aPh
  ·simp only[oSI]at h;subst h;exact aPg
  ·simp only[oSI]at h;subst h;exact aPf
  ·simp only[oSI]at h;subst h;exact aPe
  ·simp only[oSI]at h;subst h;exact aPd
  ·simp only[oSI]at h;subst h;exact aPc
  ·simp only[oSI]at h;subst h;exact aPb
  ·simp only[oSI]at h;subst h;exact aPa
  ·simp only[oSI]at h;subst h;exact aOZ
  ·simp only[oSI]at h;subst h;exact aOY
  ·simp only[oSI]at h;subst h;exact aOX
  ·simp only[oSI]at h;subst h;exact aOW
  ·simp only[oSI]at h;subst h;exact aOV
  ·simp only[oSI]at h;subst h;exact aOU
  ·simp only[oSI]at h;subst h;exact aOT
  ·simp only[oSI]at h;subst h;exact aOS
  ·simp only[oSI]at h;subst h;exact aOR
  ·simp only[oSI]at h;subst h;exact aOQ
  ·simp only[oSI]at h;subst h;exact aOP
  ·simp only[oSI]at h;subst h;exact aOO
  ·simp only[oSI]at h;subst h;exact aON
  ·simp only[oSI]at h;subst h;exact aOM
  ·simp only[oSI]at h;subst h;exact aOL
  ·simp only[oSI]at h;subst h;exact aOK
  ·simp only[oSI]at h;subst h;exact aOJ
  ·simp only[oSI]at h;subst h;exact aOI
  ·simp only[oSI]at h;subst h;exact aOH
  ·simp only[oSI]at h;subst h;exact aOG
  ·simp only[oSI]at h;subst h;exact aOF
  ·simp only[oSI]at h;subst h;exact aOE
  ·simp only[oSI]at h;subst h;exact aOD
  ·simp only[oSI]at h;subst h;exact aOC
  ·simp only[oSI]at h;subst h;exact aOB
  ·simp only[oSI]at h;subst h;exact aOA
  ·simp only[oSI]at h;subst h;exact aOz
  ·simp only[oSI]at h;subst h;exact aOy
  ·simp only[oSI]at h;subst h;exact aOx
  ·simp only[oSI]at h;subst h;exact aOw
  ·simp only[oSI]at h;subst h;exact aOv
  ·simp only[oSI]at h;subst h;exact aOu
  ·simp only[oSI]at h;subst h;exact aOt
  ·simp only[oSI]at h;subst h;exact aOs
  ·simp only[oSI]at h;subst h;exact aOr
  ·simp only[oSI]at h;subst h;exact aOq
  ·simp only[oSI]at h;subst h;exact aOp
  ·simp only[oSI]at h;subst h;exact aOo
  ·simp only[oSI]at h;subst h;exact aOn
  ·simp only[oSI]at h;subst h;exact aOm
  ·cases h
 ·unfold aA at h
  split at h
  ·simp only[oSI]at h;subst h;exact st8
  ·simp only[oSI]at h;subst h;exact aOh
  ·simp only[oSI]at h;subst h;exact aOg
  ·simp only[oSI]at h;subst h;exact aOf
  ·simp only[oSI]at h;subst h;exact aOe
  ·simp only[oSI]at h;subst h;exact aOd
  ·simp only[oSI]at h;subst h;exact aOc
  ·simp only[oSI]at h;subst h;exact aOb
  ·simp only[oSI]at h;subst h;exact aOa
  ·simp only[oSI]at h;subst h;exact aNZ
  ·simp only[oSI]at h;subst h;exact aNY
  ·simp only[oSI]at h;subst h;exact aNX
  ·simp only[oSI]at h;subst h;exact aNW
  ·simp only[oSI]at h;subst h;exact aNV
  ·simp only[oSI]at h;subst h;exact aNU
  ·simp only[oSI]at h;subst h;exact aNT
  ·simp only[oSI]at h;subst h;exact aNS
  ·simp only[oSI]at h;subst h;exact aNR
  ·simp only[oSI]at h;subst h;exact aNQ
  ·simp only[oSI]at h;subst h;exact aNP
  ·simp only[oSI]at h;subst h;exact aNO
  ·simp only[oSI]at h;subst h;exact aNN
  ·simp only[oSI]at h;subst h;exact aNM
  ·simp only[oSI]at h;subst h;exact aNL
  ·simp only[oSI]at h;subst h;exact aNK
  ·simp only[oSI]at h;subst h;exact aNJ
  ·simp only[oSI]at h;subst h;exact aNI
  ·simp only[oSI]at h;subst h;exact aNH
  ·simp only[oSI]at h;subst h;exact aNG
  ·simp only[oSI]at h;subst h;exact aNF
  ·simp only[oSI]at h;subst h;exact aNE
  ·simp only[oSI]at h;subst h;exact aND
  ·simp only[oSI]at h;subst h;exact aNC
  ·simp only[oSI]at h;subst h;exact aNB
  ·simp only[oSI]at h;subst h;exact aNA
  ·simp only[oSI]at h;subst h;exact aNz
  ·simp only[oSI]at h;subst h;exact aNy
  ·simp only[oSI]at h;subst h;exact aNx
  ·simp only[oSI]at h;subst h;exact aNw
  ·simp only[oSI]at h;subst h;exact aNv
  ·simp only[oSI]at h;subst h;exact aNu
  ·simp only[oSI]at h;subst h;exact aNt
  ·simp only[oSI]at h;subst h;exact aNs
  ·simp only[oSI]at h;subst h;exact aNr
  ·simp only[oSI]at h;subst h;exact aNq
  ·simp only[oSI]at h;subst h;exact aNp
  ·simp only[oSI]at h;subst h;exact aNo
  ·simp only[oSI]at h;subst h;exact aNn
  ·simp only[oSI]at h;subst h;exact aNm
  ·simp only[oSI]at h;subst h;exact aNl
  ·simp only[oSI]at h;subst h;exact aNk
  ·simp only[oSI]at h;subst h;exact aNj
  ·simp only[oSI]at h;subst h;exact aNi
  ·simp only[oSI]at h;subst h;exact aNh
  ·simp only[oSI]at h;subst h;exact aNg
  ·simp only[oSI]at h;subst h;exact aNf
  ·cases h
theorem r8 {vs:List AV} {h:XH} (hl:vs.length≤176):runW aA 8 vs h=bU none x8.res x8.ownR h.length (execW aA 8 h.length none x8.body (aM (if x8.ownA then vs else eP vs)) h):=aY rfl hl h rfl
theorem r16 {vs:List AV} {h:XH} (hl:vs.length≤168):runW aA 16 vs h=bU none x16.res x16.ownR h.length (execW aA 16 h.length none x16.body (aM (if x16.ownA then vs else eP vs)) h):=aY rfl hl h rfl
theorem r20 {vs:List AV} {h:XH} (hl:vs.length≤26):runW aA 20 vs h=bU none x20.res x20.ownR h.length (execW aA 20 h.length none x20.body (aM (if x20.ownA then vs else eP vs)) h):=aY rfl hl h rfl
theorem r23 {vs:List AV} {h:XH} (hl:vs.length≤83):runW aA 23 vs h=bU none x23.res x23.ownR h.length (execW aA 23 h.length none x23.body (aM (if x23.ownA then vs else eP vs)) h):=aY rfl hl h rfl
theorem r27 {vs:List AV} {h:XH} (hl:vs.length≤29):runW aA 27 vs h=bU none x27.res x27.ownR h.length (execW aA 27 h.length none x27.body (aM (if x27.ownA then vs else eP vs)) h):=aY rfl hl h rfl
theorem r29 {vs:List AV} {h:XH} (hl:vs.length≤50):runW aA 29 vs h=bU none x29.res x29.ownR h.length (execW aA 29 h.length none x29.body (aM (if x29.ownA then vs else eP vs)) h):=aY rfl hl h rfl
theorem r31 {vs:List AV} {h:XH} (hl:vs.length≤57):runW aA 31 vs h=bU none x31.res x31.ownR h.length (execW aA 31 h.length none x31.body (aM (if x31.ownA then vs else eP vs)) h):=aY rfl hl h rfl
theorem r33 {vs:List AV} {h:XH} (hl:vs.length≤82):runW aA 33 vs h=bU none x33.res x33.ownR h.length (execW aA 33 h.length none x33.body (aM (if x33.ownA then vs else eP vs)) h):=aY rfl hl h rfl
theorem r35 {vs:List AV} {h:XH} (hl:vs.length≤75):runW aA 35 vs h=bU none x35.res x35.ownR h.length (execW aA 35 h.length none x35.body (aM (if x35.ownA then vs else eP vs)) h):=aY rfl hl h rfl
theorem r36 {vs:List AV} {h:XH} (hl:vs.length≤135):runW aA 36 vs h=bU none x36.res x36.ownR h.length (execW aA 36 h.length none x36.body (aM (if x36.ownA then vs else eP vs)) h):=aY rfl hl h rfl
theorem r39 {vs:List AV} {h:XH} (hl:vs.length≤64):runW aA 39 vs h=bU none x39.res x39.ownR h.length (execW aA 39 h.length none x39.body (aM (if x39.ownA then vs else eP vs)) h):=aY rfl hl h rfl
theorem r40 {vs:List AV} {h:XH} (hl:vs.length≤96):runW aA 40 vs h=bU none x40.res x40.ownR h.length (execW aA 40 h.length none x40.body (aM (if x40.ownA then vs else eP vs)) h):=aY rfl hl h rfl
theorem r41 {vs:List AV} {h:XH} (hl:vs.length≤113):runW aA 41 vs h=bU none x41.res x41.ownR h.length (execW aA 41 h.length none x41.body (aM (if x41.ownA then vs else eP vs)) h):=aY rfl hl h rfl
theorem r42 {vs:List AV} {h:XH} (hl:vs.length≤13):runW aA 42 vs h=bU none x42.res x42.ownR h.length (execW aA 42 h.length none x42.body (aM (if x42.ownA then vs else eP vs)) h):=aY rfl hl h rfl
theorem r45 {vs:List AV} {h:XH} (hl:vs.length≤15):runW aA 45 vs h=bU none x45.res x45.ownR h.length (execW aA 45 h.length none x45.body (aM (if x45.ownA then vs else eP vs)) h):=aY rfl hl h rfl
theorem r51 {vs:List AV} {h:XH} (hl:vs.length≤8):runW aA 51 vs h=bU none x51.res x51.ownR h.length (execW aA 51 h.length none x51.body (aM (if x51.ownA then vs else eP vs)) h):=aY rfl hl h rfl
theorem r53 {vs:List AV} {h:XH} (hl:vs.length≤26):runW aA 53 vs h=bU none x53.res x53.ownR h.length (execW aA 53 h.length none x53.body (aM (if x53.ownA then vs else eP vs)) h):=aY rfl hl h rfl
theorem r54 {vs:List AV} {h:XH} (hl:vs.length≤45):runW aA 54 vs h=bU none x54.res x54.ownR h.length (execW aA 54 h.length none x54.body (aM (if x54.ownA then vs else eP vs)) h):=aY rfl hl h rfl
theorem r56 {vs:List AV} {h:XH} (hl:vs.length≤77):runW aA 56 vs h=bU none x56.res x56.ownR h.length (execW aA 56 h.length none x56.body (aM (if x56.ownA then vs else eP vs)) h):=aY rfl hl h rfl
theorem r57 {vs:List AV} {h:XH} (hl:vs.length≤15):runW aA 57 vs h=bU none x57.res x57.ownR h.length (execW aA 57 h.length none x57.body (aM (if x57.ownA then vs else eP vs)) h):=aY rfl hl h rfl
theorem r59 {vs:List AV} {h:XH} (hl:vs.length≤24):runW aA 59 vs h=bU none x59.res x59.ownR h.length (execW aA 59 h.length none x59.body (aM (if x59.ownA then vs else eP vs)) h):=aY rfl hl h rfl
theorem r60 {vs:List AV} {h:XH} (hl:vs.length≤10):runW aA 60 vs h=bU none x60.res x60.ownR h.length (execW aA 60 h.length none x60.body (aM (if x60.ownA then vs else eP vs)) h):=aY rfl hl h rfl
theorem r61 {vs:List AV} {h:XH} (hl:vs.length≤36):runW aA 61 vs h=bU none x61.res x61.ownR h.length (execW aA 61 h.length none x61.body (aM (if x61.ownA then vs else eP vs)) h):=aY rfl hl h rfl
theorem r62 {vs:List AV} {h:XH} (hl:vs.length≤5):runW aA 62 vs h=bU none x62.res x62.ownR h.length (execW aA 62 h.length none x62.body (aM (if x62.ownA then vs else eP vs)) h):=aY rfl hl h rfl
theorem r63 {vs:List AV} {h:XH} (hl:vs.length≤6):runW aA 63 vs h=bU none x63.res x63.ownR h.length (execW aA 63 h.length none x63.body (aM (if x63.ownA then vs else eP vs)) h):=aY rfl hl h rfl
theorem r65 {vs:List AV} {h:XH} (hl:vs.length≤27):runW aA 65 vs h=bU none x65.res x65.ownR h.length (execW aA 65 h.length none x65.body (aM (if x65.ownA then vs else eP vs)) h):=aY rfl hl h rfl
theorem r66 {vs:List AV} {h:XH} (hl:vs.length≤19):runW aA 66 vs h=bU none x66.res x66.ownR h.length (execW aA 66 h.length none x66.body (aM (if x66.ownA then vs else eP vs)) h):=aY rfl hl h rfl
theorem r67 {vs:List AV} {h:XH} (hl:vs.length≤5):runW aA 67 vs h=bU none x67.res x67.ownR h.length (execW aA 67 h.length none x67.body (aM (if x67.ownA then vs else eP vs)) h):=aY rfl hl h rfl
theorem r68 {vs:List AV} {h:XH} (hl:vs.length≤19):runW aA 68 vs h=bU none x68.res x68.ownR h.length (execW aA 68 h.length none x68.body (aM (if x68.ownA then vs else eP vs)) h):=aY rfl hl h rfl
theorem r70 {vs:List AV} {h:XH} (hl:vs.length≤9):runW aA 70 vs h=bU none x70.res x70.ownR h.length (execW aA 70 h.length none x70.body (aM (if x70.ownA then vs else eP vs)) h):=aY rfl hl h rfl
theorem r71 {vs:List AV} {h:XH} (hl:vs.length≤10):runW aA 71 vs h=bU none x71.res x71.ownR h.length (execW aA 71 h.length none x71.body (aM (if x71.ownA then vs else eP vs)) h):=aY rfl hl h rfl
theorem r72 {vs:List AV} {h:XH} (hl:vs.length≤65):runW aA 72 vs h=bU none x72.res x72.ownR h.length (execW aA 72 h.length none x72.body (aM (if x72.ownA then vs else eP vs)) h):=aY rfl hl h rfl
theorem r73 {vs:List AV} {h:XH} (hl:vs.length≤59):runW aA 73 vs h=bU none x73.res x73.ownR h.length (execW aA 73 h.length none x73.body (aM (if x73.ownA then vs else eP vs)) h):=aY rfl hl h rfl
theorem r76 {vs:List AV} {h:XH} (hl:vs.length≤21):runW aA 76 vs h=bU none x76.res x76.ownR h.length (execW aA 76 h.length none x76.body (aM (if x76.ownA then vs else eP vs)) h):=aY rfl hl h rfl
theorem r77 {vs:List AV} {h:XH} (hl:vs.length≤98):runW aA 77 vs h=pQ 19 h.length (eO (runW aA) (runYW aA) [⟨0,(some 4),(.box (.t 0)),none⟩,⟨0,(some 7),(.box (.t 3)),none⟩,⟨0,(some 19),(.load false 1 (.t 7)),none⟩] (aM (if x77.ownA then vs else eP vs)) h) fun b e1 h1=>bU (some b) x77.res x77.ownR h.length (execW aA 77 h.length none x77.body e1 h1):=aFU rfl hl h rfl
theorem r78 {vs:List AV} {h:XH} (hl:vs.length≤20):runW aA 78 vs h=bU none x78.res x78.ownR h.length (execW aA 78 h.length none x78.body (aM (if x78.ownA then vs else eP vs)) h):=aY rfl hl h rfl
theorem r79 {vs:List AV} {h:XH} (hl:vs.length≤5):runW aA 79 vs h=bU none x79.res x79.ownR h.length (execW aA 79 h.length none x79.body (aM (if x79.ownA then vs else eP vs)) h):=aY rfl hl h rfl
theorem r80 {vs:List AV} {h:XH} (hl:vs.length≤4):runW aA 80 vs h=bU none x80.res x80.ownR h.length (execW aA 80 h.length none x80.body (aM (if x80.ownA then vs else eP vs)) h):=aY rfl hl h rfl
theorem r81 {vs:List AV} {h:XH} (hl:vs.length≤8):runW aA 81 vs h=bU none x81.res x81.ownR h.length (execW aA 81 h.length none x81.body (aM (if x81.ownA then vs else eP vs)) h):=aY rfl hl h rfl
theorem r84 {vs:List AV} {h:XH} (hl:vs.length≤30):runW aA 84 vs h=bU none x84.res x84.ownR h.length (execW aA 84 h.length none x84.body (aM (if x84.ownA then vs else eP vs)) h):=aY rfl hl h rfl
theorem r85 {vs:List AV} {h:XH} (hl:vs.length≤13):runW aA 85 vs h=bU none x85.res x85.ownR h.length (execW aA 85 h.length none x85.body (aM (if x85.ownA then vs else eP vs)) h):=aY rfl hl h rfl
theorem r86 {vs:List AV} {h:XH} (hl:vs.length≤15):runW aA 86 vs h=bU none x86.res x86.ownR h.length (execW aA 86 h.length none x86.body (aM (if x86.ownA then vs else eP vs)) h):=aY rfl hl h rfl
theorem r87 {vs:List AV} {h:XH} (hl:vs.length≤8):runW aA 87 vs h=bU none x87.res x87.ownR h.length (execW aA 87 h.length none x87.body (aM (if x87.ownA then vs else eP vs)) h):=aY rfl hl h rfl
theorem r88 {vs:List AV} {h:XH} (hl:vs.length≤66):runW aA 88 vs h=bU none x88.res x88.ownR h.length (execW aA 88 h.length none x88.body (aM (if x88.ownA then vs else eP vs)) h):=aY rfl hl h rfl
theorem r89 {vs:List AV} {h:XH} (hl:vs.length≤126):runW aA 89 vs h=bU none x89.res x89.ownR h.length (execW aA 89 h.length none x89.body (aM (if x89.ownA then vs else eP vs)) h):=aY rfl hl h rfl
theorem r91 {vs:List AV} {h:XH} (hl:vs.length≤14):runW aA 91 vs h=bU none x91.res x91.ownR h.length (execW aA 91 h.length none x91.body (aM (if x91.ownA then vs else eP vs)) h):=aY rfl hl h rfl

end Go.Proofs.YtiabjdfdkiijmaaDoor
namespace Go.Proofs.YtiabjdfdkiijmaaDoor
open Go Go.DL
theorem aMS:runW aA 44 [I (0)] []=some (.agg [I (8),.fs [[I (0),I (1)],[I (0),I (2)],[I (1),I (3)],[I (2),I (3)],[I (3),I (4)],[I (3),I (5)],[I (4),I (6)],[I (5),I (6)]],.fs [[I (0),I (2),I (7)],[I (3),I (4),I (7)]],I (1),I (192),I (0)],[]):=aX.2 ⟨400,by kernel_rfl⟩
theorem aMR:runW aA 18 [.agg [I (8),.fs [[I (0),I (1)],[I (0),I (2)],[I (1),I (3)],[I (2),I (3)],[I (3),I (4)],[I (3),I (5)],[I (4),I (6)],[I (5),I (6)]],.fs [[I (0),I (2),I (7)],[I (3),I (4),I (7)]],I (1),I (192),I (0)],I (2)] []=some (.tup [.fs [[I (0)],[I (1)],[I (2)],[I (3)],[I (7)]],I (0)],[]):=aX.2 ⟨400,by kernel_rfl⟩
theorem aMO:runW aA 44 [I (9)] []=some (.agg [I (8),.fs [[I (0),I (1)],[I (0),I (2)],[I (1),I (3)],[I (2),I (3)],[I (3),I (4)],[I (3),I (5)],[I (4),I (6)],[I (5),I (6)]],.fs [[I (0),I (2),I (7)],[I (3),I (4),I (7)]],I (1),I (192),I (9)],[]):=aX.2 ⟨400,by kernel_rfl⟩
theorem aMM:runW aA 44 [I (79)] []=some (.agg [I (8),.fs [[I (0),I (1)],[I (0),I (2)],[I (1),I (3)],[I (2),I (3)],[I (3),I (4)],[I (3),I (5)],[I (4),I (6)],[I (5),I (6)]],.fs [[I (0),I (2),I (7)],[I (3),I (4),I (7)]],I (1),I (192),I (79)],[]):=aX.2 ⟨400,by kernel_rfl⟩
theorem aMK:runW aA 44 [I (15)] []=some (.agg [I (8),.fs [[I (0),I (1)],[I (0),I (2)],[I (1),I (3)],[I (2),I (3)],[I (3),I (4)],[I (3),I (5)],[I (4),I (6)],[I (5),I (6)]],.fs [[I (0),I (2),I (7)],[I (3),I (4),I (7)]],I (1),I (192),I (15)],[]):=aX.2 ⟨400,by kernel_rfl⟩
theorem aLP:runW aA 25 [.agg [I (8),.fs [[I (0),I (1)],[I (0),I (2)],[I (1),I (3)],[I (2),I (3)],[I (3),I (4)],[I (3),I (5)],[I (4),I (6)],[I (5),I (6)]],.fs [[I (0),I (2),I (7)],[I (3),I (4),I (7)]],I (1),I (192),I (0)],.sl 0 0 1 2,I (4)] [some (.blk true (.cells true [I (2),I (3)]))]=some (.tup [.fs [[I (0)],[I (1)]],I (0)],[none]):=aX.2 ⟨400,by kernel_rfl⟩
theorem aLO:runW aA 22 [.fs [[I (0)],[I (1)],[I (2)],[I (3)],[I (7)]],.sl 0 0 1 5] [some (.blk true (.cells true [I (0),I (1),I (2),I (3),I (7)]))]=some (.bool true,[some (.blk true (.cells true [I (0),I (1),I (2),I (3),I (7)]))]):=aX.2 ⟨400,by kernel_rfl⟩
theorem aLN:runW aA 22 [.fs [[I (0)],[I (1)],[I (1)],[I (2)],[I (3)],[I (3)],[I (4)],[I (1)]],.sl 0 0 1 8] [some (.blk true (.cells true [I (0),I (1),I (1),I (2),I (3),I (3),I (4),I (1)]))]=some (.bool true,[some (.blk true (.cells true [I (0),I (1),I (1),I (2),I (3),I (3),I (4),I (1)]))]):=aX.2 ⟨400,by kernel_rfl⟩
theorem aLM:runW aA 22 [.fs [[I (0)]],.sl 0 0 1 1] [some (.blk true (.cells true [I (0)]))]=some (.bool true,[some (.blk true (.cells true [I (0)]))]):=aX.2 ⟨400,by kernel_rfl⟩
theorem aLL:runW aA 22 [.fs [[I (1)],[I (2)]],.sl 0 0 1 2] [some (.blk true (.cells true [I (1),I (2)]))]=some (.bool true,[some (.blk true (.cells true [I (1),I (2)]))]):=aX.2 ⟨400,by kernel_rfl⟩
theorem aLK:runW aA 22 [.fs [[I (4)],[I (5)],[I (7)]],.sl 0 0 1 3] [some (.blk true (.cells true [I (4),I (5),I (7)]))]=some (.bool true,[some (.blk true (.cells true [I (4),I (5),I (7)]))]):=aX.2 ⟨400,by kernel_rfl⟩
theorem aLJ:runW aA 22 [.fs [[I (6)],[I (7)]],.sl 0 0 1 2] [some (.blk true (.cells true [I (6),I (7)]))]=some (.bool true,[some (.blk true (.cells true [I (6),I (7)]))]):=aX.2 ⟨400,by kernel_rfl⟩
theorem aLI:runW aA 22 [.fs [[I (0)],[I (1)]],.sl 0 0 1 2] [some (.blk true (.cells true [I (0),I (1)]))]=some (.bool true,[some (.blk true (.cells true [I (0),I (1)]))]):=aX.2 ⟨400,by kernel_rfl⟩
theorem aLH:runW aA 27 [.agg [I (8),.fs [[I (0),I (1)],[I (0),I (2)],[I (1),I (3)],[I (2),I (3)],[I (3),I (4)],[I (3),I (5)],[I (4),I (6)],[I (5),I (6)]],.fs [[I (0),I (2),I (7)],[I (3),I (4),I (7)]],I (1),I (192),I (0)],.sl 0 0 1 2] [some (.blk true (.cells true [I (3),I (7)]))]=some (I (0),[none]):=aX.2 ⟨400,by kernel_rfl⟩
theorem aLG:runW aA 27 [.agg [I (8),.fs [[I (0),I (1)],[I (0),I (2)],[I (1),I (3)],[I (2),I (3)],[I (3),I (4)],[I (3),I (5)],[I (4),I (6)],[I (5),I (6)]],.fs [[I (0),I (2),I (7)],[I (3),I (4),I (7)]],I (1),I (192),I (0)],.sl 0 0 1 2] [some (.blk true (.cells true [I (3),I (4)]))]=some (I (11),[none]):=aX.2 ⟨400,by kernel_rfl⟩
theorem aLF:runW aA 35 [.agg [I (8),.fs [[I (0),I (1)],[I (0),I (2)],[I (1),I (3)],[I (2),I (3)],[I (3),I (4)],[I (3),I (5)],[I (4),I (6)],[I (5),I (6)]],.fs [[I (0),I (2),I (7)],[I (3),I (4),I (7)]],I (1),I (192),I (9)],.sl 0 0 1 2] [some (.blk false (.cells true [.sl 1 0 1 3,.sl 2 0 1 5])),some (.blk true (.cells true [I (0),I (2),I (7)])),some (.blk true (.cells true [I (0),I (1),I (3),I (4),I (7)]))]=some (I (6),[some (.blk true (.cells true [.fs [[I (0)],[I (2)],[I (7)]],.fs [[I (0)],[I (1)],[I (3)],[I (4)],[I (7)]]])),none,none]):=aX.2 ⟨400,by kernel_rfl⟩
end Go.Proofs.YtiabjdfdkiijmaaDoor
namespace Go.Proofs.YtiabjdfdkiijmaaDoor
open Go Go.DL
set_option maxRecDepth 100000
set_option maxHeartbeats 1000000
theorem ptf (p:Prop):p=True∨p=False:=by
 by_cases h:p
 ·exact .inl (eq_true h)
 ·exact .inr (eq_false h)
theorem bM {α:Type} {l:List α} {i:Nat} (h:i<l.length):∃ x,l[i]?=some x:=⟨_,List.getElem?_eq_getElem h⟩
theorem dH {α:Type} {l:List α} {i:Nat} (h:i<l.length):((i:Int)<(l.length:Int))=True:=eq_true (by omega)
theorem dN {n i:Nat} (h:i<n) (hn:n≤9223372036854775807):IntKind.i64.wrap ((i:Int)+1)=(i:Int)+1:=aD (by omega) (by omega)
theorem fJ {α:Type} {l:List α} {i:Nat} {x:α} (h:l[i]?=some x):i<l.length:=(List.getElem?_eq_some_iff.1 h).1

def cG (f:Nat→Int):Nat→Int
 | 0=>0
 | n+1=>if cG f n=0 then f n else cG f n
theorem dJ (f:Nat→Int):∀ n,∃ m,m≤n∧(∀ i,i<m→f i=0)∧((m=n∧cG f n=0)∨(m<n∧f m≠0∧cG f n=f m))
 | 0=>⟨0,Nat.le_refl _,fun i hi=>by omega,.inl ⟨rfl,rfl⟩⟩
 | n+1=>by
   obtain⟨m,h1,h2,h3⟩:=dJ f n
   rcases h3 with ⟨rfl,h4⟩|⟨h4,h5,h6⟩
   ·by_cases hf:f m=0
    ·refine⟨m+1,Nat.le_refl _,fun i hi=>?_,.inl ⟨rfl,by rw[cG,if_pos h4,hf]⟩⟩
     by_cases hi2:i=m
     ·rw[hi2];exact hf
     ·exact h2 i (by omega)
    ·exact⟨m,by omega,h2,.inr ⟨by omega,hf,by rw[cG,if_pos h4]⟩⟩
   ·exact⟨m,by omega,h2,.inr ⟨by omega,h5,by rw[cG,if_neg (by rw[h6];exact h5),h6]⟩⟩
theorem eE {f:Nat→Int}:∀ {n},cG f n=0→∀ i,i<n→f i=0
 | 0,_,i,hi=>by omega
 | n+1,h,i,hi=>by
   rw[cG]at h
   by_cases h0:cG f n=0
   ·rw[if_pos h0]at h
    by_cases hin:i=n
    ·rw[hin];exact h
    ·exact eE h0 i (by omega)
   ·rw[if_neg h0]at h
    exact absurd h h0

theorem dR {res:List (Nat×Option (Bool×Nat))} {own:Bool} {k:Nat} {r:Option (DX×aH×XH)} {v:AV×XH} (h1:hO r=true) (h2:bU none res own k r=some v):∃ e h,r=some (.ret,e,h)∧bU none res own k (some (.ret,e,h))=some v:=by
 match r with
 | none=>simp[hO]at h1
 | some (.normal,e,h)=>simp[hO]at h1
 | some (.exit _,e,h)=>simp[bU]at h2
 | some (.ret,e,h)=>exact⟨e,h,rfl,h2⟩
def big (k:IntKind):Prop:=k = .u64∨k = .i64
theorem aEh:big .u64:=.inl rfl
theorem bH:big .i64:=.inr rfl
theorem jE {k:IntKind} (h:big k):k.bits=64:=by rcases h with rfl|rfl<;>rfl
theorem fA {k:IntKind} (h:big k) {a:Nat} (ha:a<2^63):k.wrap (a:Int)=(a:Int):=by
 rcases h with rfl|rfl
 ·simp[IntKind.wrap,IntKind.bits,IntKind.signed];omega
 ·simp[IntKind.wrap,IntKind.bits,IntKind.signed];omega
theorem dM {w:Nat} (a:Nat):BitVec.ofInt w (a:Int)=BitVec.ofNat w a:=by
 apply BitVec.eq_of_toNat_eq
 simp
theorem iD {k:IntKind} (h:big k) {a b:Nat} (ha:a<2^63) (hb:b<2^63):cA .and k (a:Int) (b:Int)=((a&&&b:Nat):Int):=by
 unfold cA
 dsimp only
 rw[dM,dM,jE h,BitVec.toNat_and,BitVec.toNat_ofNat,BitVec.toNat_ofNat,Nat.mod_eq_of_lt (by omega),Nat.mod_eq_of_lt (by omega)]
 exact fA h (Nat.lt_of_le_of_lt Nat.and_le_left ha)
theorem cT {k:IntKind} (h:big k) {a b:Nat} (ha:a<2^63) (hb:b<2^63):cA .or k (a:Int) (b:Int)=((a|||b:Nat):Int):=by
 unfold cA
 dsimp only
 rw[dM,dM,jE h,BitVec.toNat_or,BitVec.toNat_ofNat,BitVec.toNat_ofNat,Nat.mod_eq_of_lt (by omega),Nat.mod_eq_of_lt (by omega)]
 exact fA h (Nat.or_lt_two_pow ha hb)
def gE (a b:Nat):Nat:=a&&&(2^64-(b+1))
theorem iC (a b:Nat):gE a b≤a:=Nat.and_le_left
theorem jD {k:IntKind} (h:big k) {a b:Nat} (ha:a<2^63) (hb:b<2^63):cA .andNot k (a:Int) (b:Int)=((gE a b:Nat):Int):=by
 unfold cA
 dsimp only
 rw[dM,dM,jE h,BitVec.toNat_and,BitVec.toNat_not,BitVec.toNat_ofNat,BitVec.toNat_ofNat,Nat.mod_eq_of_lt (by omega),Nat.mod_eq_of_lt (by omega),show 2^64-1-b=2^64-(b+1) by omega]
 exact fA h (Nat.lt_of_le_of_lt (iC a b) ha)
theorem bX {a b:Nat} (hb:b<2^64) {i:Nat}:(gE a b).testBit i=(a.testBit i&&(decide (i<64) && !b.testBit i)):=by
 unfold gE
 rw[Nat.testBit_and,Nat.testBit_two_pow_sub_succ hb]
theorem tG {a n:Nat} (h:a<2^n) {i:Nat} (hi:n≤i):a.testBit i=false:=Nat.testBit_lt_two_pow (Nat.lt_of_lt_of_le h (Nat.pow_le_pow_right (by omega) hi))
theorem fS {k:IntKind} (h:big k) {i:Nat} (hi:i<63):k.wrap (1*2^min i k.bits)=((2^i:Nat):Int):=by
 rw[jE h,Nat.min_eq_left (by omega),Int.one_mul,show (2:Int)^i=((2^i:Nat):Int) by norm_cast]
 exact fA h (Nat.pow_lt_pow_right (by omega) hi)
theorem aIh {k:IntKind} (h:big k) {a i:Nat} (hi:i<64):(a:Int).fdiv (2^min i k.bits)=((a>>>i:Nat):Int):=by
 rw[jE h,Nat.min_eq_left (by omega),show (2:Int)^i=((2^i:Nat):Int) by norm_cast,Int.fdiv_eq_ediv_of_nonneg _ (Int.natCast_nonneg _),Nat.shiftRight_eq_div_pow]
 exact(Int.natCast_ediv a (2^i)).symm
theorem tH {k:IntKind} (h:big k) {a i:Nat} (ha:a<2^63) (hi:i<64):cA .and k ((a:Int).fdiv (2^min i k.bits)) 1=if a.testBit i then 1 else 0:=by
 have:a>>>i≤a:=Nat.shiftRight_le a i
 rw[aIh h hi,show (1:Int)=((1:Nat):Int) from rfl,iD h (by omega) (by omega)]
 unfold Nat.testBit
 rw[Nat.and_comm,Nat.one_and_eq_mod_two]
 by_cases hb:(a>>>i)%2=0
 ·simp[hb]
 ·have:(a>>>i)%2=1:=by omega
  simp[this]
theorem aHM {k:IntKind} (h:big k) {a i:Nat} (ha:a<2^63) (hi:i<64):(cA .and k ((a:Int).fdiv (2^min i k.bits)) 1=1)=(a.testBit i=true):=by
 rw[tH h ha hi]
 cases a.testBit i<;>simp
theorem tS {a i n:Nat} (ha:a<2^n) (hi:i<n):a|||2^i<2^n:=Nat.or_lt_two_pow ha (Nat.pow_lt_pow_right (by omega) hi)
theorem eK (a i j:Nat):(a|||2^i).testBit j=(a.testBit j||decide (i=j)):=by
 rw[Nat.testBit_or,Nat.testBit_two_pow]


def btw (a b c:Int):Bool:=decide (a≤b)&&decide (b≤c)
theorem mG {a b c:Int}:btw a b c=true↔a≤b∧b≤c:=by simp[btw]
theorem w45 (a b c:Int):runW aA 45 [I a,I b,I c] []=some (.bool (btw a b c),[]):=by
 rw[r45 (by simp)];unfold x45;dsimp only
 rcases ptf (a≤b)with h|h
 ·(sym=>(simp[Za,Zb,Zf,Zh,Zl,Zm,Zp,Zq,Zv,Zy,Z3,ZV,Yt,YV,Xq,XI,Wc,Wd,W7,WG,WK,WL,WN,WO,Vr,V5,V6,V8,V9,VA,VB,VC,VF,VG,VH,VI,VK,VU,VW,VZ,Ub,Ud,Uh,Uu,Uy,Uz,U0,U9,UA,Tm,Tn,Tp,Tt,T0,T1,Sl,h,btw.eq_1];all_goals tactic=>exact rfl))
 ·(sym=>(simp[Za,Zb,Zf,Zh,Zl,Zm,Zp,Zs,Zv,Zy,Z3,ZW,Yt,YV,Xq,XI,Wc,Wd,W7,WG,WK,WL,WN,WO,Vr,V5,V6,V8,V9,VA,VB,VC,VF,VG,VH,VI,VK,VU,VW,VZ,Ub,Ud,Uj,Uv,Uy,Uz,U0,U9,UA,Tm,Tn,Tp,Tt,T0,T1,Sl,h,btw.eq_1];all_goals tactic=>exact rfl))
theorem oO {a j:Nat} (ha:a<2^63) (hj:j<64):runW aA 60 [I a,I j] []=some (.bool (a.testBit j),[]):=by
 have e:=aHM bH (a:=a) (i:=j) ha hj
 have n0:((j:Int)<0)=False:=eq_false (by omega)
 rw[r60 (by simp)];unfold x60;dsimp only
 cases hb:a.testBit j
 ·rw[hb]at e
  have e:=e.trans (eq_false (by simp))
  (sym=>(simp[Za,Zb,Zf,Zh,Zl,Zm,Zv,Z3,Yl,Yp,Yq,Yx,YV,Xq,XI,Wc,Wd,W7,WG,WK,WL,WN,WO,Vr,V5,V6,V8,V9,VA,VB,VC,VF,VG,VH,VI,VK,VU,VW,VZ,Ub,Ud,Uv,Uy,Uz,U0,U9,UA,Tm,Tn,Tp,Tt,T0,T1,Sl,n0,e];all_goals tactic=>exact rfl))
 ·rw[hb]at e
  have e:=e.trans (eq_true rfl)
  (sym=>(simp[Za,Zb,Zf,Zh,Zl,Zm,Zv,Z3,Yl,Yp,Yq,Yx,YV,Xq,XI,Wc,Wd,W7,WG,WK,WL,WN,WO,Vr,V5,V6,V8,V9,VA,VB,VC,VF,VG,VH,VI,VK,VU,VW,VZ,Ub,Ud,Uu,Uy,Uz,U0,U9,UA,Tm,Tn,Tp,Tt,T0,T1,Sl,n0,e];all_goals tactic=>exact rfl))
theorem w62 {j:Nat} (hj:j<63):runW aA 62 [I j] []=some (I (2^j:Nat),[]):=by
 have e:=fS bH hj
 have n0:((j:Int)<0)=False:=eq_false (by omega)
 rw[r62 (by simp)];unfold x62;dsimp only
 (sym=>(simp[Za,Zb,Zf,Zh,Zl,Zm,Zv,Z3,Yo,Yx,YU,Xp,X0,Wc,W7,WG,WK,WL,WN,WO,Vr,V5,V6,V8,V9,VA,VB,VC,VF,VG,VH,VI,VK,VU,VW,VZ,Ub,Ud,Uy,Uz,U0,U9,UA,Tm,Tn,Tp,Tt,T0,T1,Sl,n0,e];all_goals tactic=>exact rfl))
abbrev nL (l:List Int):AV:=.fs (l.map fun n=>[I n])
end Go.Proofs.YtiabjdfdkiijmaaDoor
namespace Go.Proofs.YtiabjdfdkiijmaaDoor
open Go Go.DL
set_option maxRecDepth 100000
set_option maxHeartbeats 4000000

theorem aKI:∀ a:Nat,a≠0→∃ p m,a=2^p*(2*m+1):=by
 intro a
 induction a using Nat.strongRecOn with
 | _ a ih =>
   intro h0
   by_cases h:a%2=1
   ·exact⟨0,a/2,by omega⟩
   ·obtain⟨p,m,hm⟩:=ih (a/2) (by omega) (by omega)
    refine⟨p+1,m,?_⟩
    rw[Nat.pow_succ,Nat.mul_comm (2^p) 2,Nat.mul_assoc,←hm]
    omega
theorem zZ (m j:Nat):(2*m+1).testBit j=if j=0 then true else m.testBit (j-1):=by
 cases j with
 | zero=>simp[Nat.testBit]
 | succ j=>simp only[Nat.add_one_ne_zero,if_false,Nat.add_sub_cancel];rw[Nat.testBit_succ];congr 1;omega
theorem aAa (m j:Nat):(2*m).testBit j=if j=0 then false else m.testBit (j-1):=by
 cases j with
 | zero=>simp[Nat.testBit]
 | succ j=>simp only[Nat.add_one_ne_zero,if_false,Nat.add_sub_cancel];rw[Nat.testBit_succ];congr 1;omega
theorem lP (p x i:Nat):(2^p*x).testBit i=if i<p then false else x.testBit (i-p):=by
 have:=Nat.testBit_two_pow_mul_add x (b:=0) (i:=p) (Nat.two_pow_pos p) i
 rw[Nat.add_zero,Nat.zero_testBit]at this
 exact this
theorem aEZ (p m:Nat):2^p*(2*m+1)&&&(2^p*(2*m+1)-1)=2^p*(2*m):=by
 have h1:2^p*(2*m+1)-1=2^p*(2*m)+(2^p-1):=by
  have:=Nat.two_pow_pos p
  rw[Nat.mul_add,Nat.mul_one];omega
 apply Nat.eq_of_testBit_eq
 intro i
 rw[Nat.testBit_and,lP,h1,Nat.testBit_two_pow_mul_add _ (by have:=Nat.two_pow_pos p;omega),lP]
 by_cases hi:i<p
 ·simp[hi]
 ·simp only[hi,if_false,zZ,aAa]
  by_cases h0:i-p=0
  ·simp[h0]
  ·simp[h0]
theorem aIZ (p m:Nat) (h:2^p*(2*m+1)<2^64):2^p*(2*m+1)&&&(2^64-2^p*(2*m+1))=2^p:=by
 have hp:p<64:=by
  by_cases hp:p<64
  ·exact hp
  ·have h1:2^64≤2^p:=Nat.pow_le_pow_right (by omega) (by omega)
   have h2:2^p*1≤2^p*(2*m+1):=Nat.mul_le_mul_left _ (by omega)
   omega
 have e64:(2:Nat)^64=2^p*(2*2^(63-p)):=by
  rw[←Nat.pow_succ',←Nat.pow_add];congr 1;omega
 have hm:m<2^(63-p):=by
  rw[e64]at h
  have:=Nat.lt_of_mul_lt_mul_left h
  omega
 have h1:2^64-2^p*(2*m+1)=2^p*(2*(2^(63-p)-(m+1))+1):=by
  rw[e64,←Nat.mul_sub];congr 1;omega
 rw[h1]
 apply Nat.eq_of_testBit_eq
 intro i
 rw[Nat.testBit_and,lP,lP,Nat.testBit_two_pow]
 by_cases hi:i<p
 ·simp[hi];omega
 ·simp only[hi,if_false,zZ]
  by_cases h0:i-p=0
  ·have:p=i:=by omega
   simp[h0,this]
  ·have:p≠i:=by omega
   simp only[h0,if_false,Nat.testBit_two_pow_sub_succ hm]
   cases m.testBit (i-p-1)<;>simp[this]

def el (a:Nat):List Nat:=(List.range 16).filter (a.testBit ·)
def iL (a:Nat):Nat:=(el a).headD 0
theorem fM {a k:Nat}:k∈el a↔k<16∧a.testBit k=true:=by simp[el]
theorem aHp {a:Nat} (ha:a<65536) (h0:a≠0):∃ p m,p<16∧a=2^p*(2*m+1)∧el a=p::el (a&&&(a-1)):=by
 obtain⟨p,m,rfl⟩:=aKI a h0
 have hp:p<16:=by
  by_cases hp:p<16
  ·exact hp
  ·have h1:2^16≤2^p:=Nat.pow_le_pow_right (by omega) (by omega)
   have h2:2^p*1≤2^p*(2*m+1):=Nat.mul_le_mul_left _ (by omega)
   omega
 refine⟨p,m,hp,rfl,?_⟩
 rw[aEZ]
 unfold el
 have hr:List.range 16=List.range p++p::List.range' (p+1) (15-p):=by
  rw[List.range_eq_range',List.range_eq_range',show (16:Nat)=p+(1+(15-p)) by omega,←List.range'_append_1,←List.range'_append_1]
  simp
 rw[hr,List.filter_append,List.filter_append,List.filter_cons,List.filter_cons]
 have f1:∀ x:Nat,(List.range p).filter (fun i=>(2^p*x).testBit i)=[]:=fun x=>by
  rw[List.filter_eq_nil_iff]
  intro i hi
  rw[List.mem_range]at hi
  rw[lP,if_pos hi];simp
 have t1:(2^p*(2*m+1)).testBit p=true:=by rw[lP,if_neg (by omega),Nat.sub_self,zZ];rfl
 have t2:(2^p*(2*m)).testBit p=false:=by rw[lP,if_neg (by omega),Nat.sub_self,aAa];rfl
 rw[f1,f1]
 simp only[t1,t2,if_true,List.nil_append,Bool.false_eq_true,if_false]
 congr 1
 refine List.filter_congr fun i hi=>?_
 rw[List.mem_range'_1]at hi
 rw[lP,lP,if_neg (by omega),if_neg (by omega),zZ,aAa,if_neg (by omega),if_neg (by omega)]
theorem oK {a:Nat} (ha:a<65536) (h0:a≠0):el a=iL a::el (a&&&(a-1)):=by
 obtain⟨p,m,_,_,h⟩:=aHp ha h0
 rw[iL,h];rfl
theorem aJu {a:Nat} (ha:a<65536):el a=[]↔a=0:=by
 constructor
 ·intro h
  by_cases h0:a=0
  ·exact h0
  ·rw[oK ha h0]at h;simp at h
 ·rintro rfl;rfl
theorem wJ {a:Nat} (ha:a<65536) (h0:a≠0):iL a<16∧a.testBit (iL a)=true:=by
 have:=oK ha h0
 exact fM.1 (by rw[this];simp)
theorem aEi {a:Nat} (ha:a<65536) (h0:a≠0):a&&&(2^64-a)=2^iL a:=by
 obtain⟨p,m,hp,e,h⟩:=aHp ha h0
 have hl:iL a=p:=by rw[iL,h];rfl
 rw[hl]
 conv=>lhs;rw[e]
 exact aIZ p m (by rw[←e];omega)

abbrev U (a:Nat):AV:=.int .u64 (a:Int)
theorem w91 {a:Nat} (ha:a<65536) (h0:a≠0):runW aA 91 [U a] []=some (I (iL a:Nat),[]):=by
 have n0:((a:Int)=0)=False:=eq_false (by omega)
 have u1:IntKind.u64.wrap (0-(a:Int))=((2^64-a:Nat):Int):=by
  simp[IntKind.wrap,IntKind.bits,IntKind.signed];omega
 have u2:cA .and .u64 (a:Int) ((2^64-a:Nat):Int)=((2^iL a:Nat):Int):=by
  unfold cA
  dsimp only
  rw[dM,dM,jE aEh,BitVec.toNat_and,BitVec.toNat_ofNat,BitVec.toNat_ofNat,Nat.mod_eq_of_lt (by omega),Nat.mod_eq_of_lt (by omega),aEi ha h0]
  exact fA aEh (Nat.pow_lt_pow_right (by omega) (by have:=(wJ ha h0).1;omega))
 obtain⟨p,hp⟩:∃ p,iL a=p:=⟨_,rfl⟩
 have hp16:=(wJ ha h0).1
 rw[hp]at u2 hp16 ⊢
 generalize 2^64-a=na at u1 u2
 rw[r91 (by simp)];unfold x91;dsimp only
 have fin:p=0∨p=1∨p=2∨p=3∨p=4∨p=5∨p=6∨p=7∨p=8∨p=9∨p=10∨p=11∨p=12∨p=13∨p=14∨p=15:=by omega
 rcases fin with rfl|rfl|rfl|rfl|rfl|rfl|rfl|rfl|rfl|rfl|rfl|rfl|rfl|rfl|rfl|rfl
 ·have u2:cA .and .u64 (a:Int) (na:Int)=1:=u2
  have u3:IntKind.u64.wrap 285870213051353865=285870213051353865:=by decide
  have u4:(285870213051353865:Int).fdiv (2^min (Int.toNat 58) IntKind.u64.bits)=0:=by decide
  have u5:Int.toNat 0=0:=rfl
  (sym=>(simp[Za,Zb,Zf,Zh,Zl,Zm,Zv,Z3,Z5,Z6,Z8,ZG,ZY,ZZ,Yk,Yl,Yp,Yq,Yy,Y8,Y9,YP,YU,Xp,X0,Wc,W7,W8,WG,WK,WL,WN,WO,Vr,V5,V6,V8,V9,VA,VB,VC,VF,VG,VH,VI,VK,VP,VR,VU,VW,VZ,Ub,Ud,Uq,Uv,Uy,Uz,U0,U9,UA,Tb,Tc,Te,Tm,Tn,Tp,Tq,Tt,T0,T1,Sl,S2,n0,u1,u2,u3,u4,u5];all_goals tactic=>exact rfl))
 ·have u2:cA .and .u64 (a:Int) (na:Int)=2:=u2
  have u3:IntKind.u64.wrap 571740426102707730=571740426102707730:=by decide
  have u4:(571740426102707730:Int).fdiv (2^min (Int.toNat 58) IntKind.u64.bits)=1:=by decide
  have u5:Int.toNat 1=1:=rfl
  (sym=>(simp[Za,Zb,Zf,Zh,Zl,Zm,Zv,Z3,Z5,Z6,Z8,ZG,ZY,ZZ,Yk,Yl,Yp,Yq,Yz,YA,YB,YP,YU,Xp,X0,Wc,W7,W8,WG,WK,WL,WN,WO,Vr,V5,V6,V8,V9,VA,VB,VC,VF,VG,VH,VI,VK,VP,VR,VU,VW,VZ,Ub,Ud,Uq,Uv,Uy,Uz,U0,U9,UA,Tb,Tc,Te,Tm,Tn,Tp,Tq,Tt,T0,T1,Sl,S2,n0,u1,u2,u3,u4,u5];all_goals tactic=>exact rfl))
 ·have u2:cA .and .u64 (a:Int) (na:Int)=4:=u2
  have u3:IntKind.u64.wrap 1143480852205415460=1143480852205415460:=by decide
  have u4:(1143480852205415460:Int).fdiv (2^min (Int.toNat 58) IntKind.u64.bits)=3:=by decide
  have u5:Int.toNat 3=3:=rfl
  (sym=>(simp[Za,Zb,Zf,Zh,Zl,Zm,Zv,Z3,Z5,Z6,Z8,ZG,ZY,ZZ,Yk,Yl,Yp,Yq,Y0,YD,YE,YP,YU,Xp,X0,Wc,W7,W8,WG,WK,WL,WN,WO,Vr,V5,V6,V8,V9,VA,VB,VC,VF,VG,VH,VI,VK,VP,VR,VU,VW,VZ,Ub,Ud,Uq,Uv,Uy,Uz,U0,U9,UA,Tb,Tc,Te,Tm,Tn,Tp,Tq,Tt,T0,T1,Sl,S2,n0,u1,u2,u3,u4,u5];all_goals tactic=>exact rfl))
 ·have u2:cA .and .u64 (a:Int) (na:Int)=8:=u2
  have u3:IntKind.u64.wrap 2286961704410830920=2286961704410830920:=by decide
  have u4:(2286961704410830920:Int).fdiv (2^min (Int.toNat 58) IntKind.u64.bits)=7:=by decide
  have u5:Int.toNat 7=7:=rfl
  (sym=>(simp[Za,Zb,Zf,Zh,Zl,Zm,Zv,Z3,Z5,Z6,Z8,ZG,ZY,ZZ,Yk,Yl,Yp,Yq,Y1,YF,YK,YP,YU,Xp,X0,Wc,W7,W8,WG,WK,WL,WN,WO,Vr,V5,V6,V8,V9,VA,VB,VC,VF,VG,VH,VI,VK,VP,VR,VU,VW,VZ,Ub,Ud,Uq,Uv,Uy,Uz,U0,U9,UA,Tb,Tc,Te,Tm,Tn,Tp,Tq,Tt,T0,T1,Sl,S2,n0,u1,u2,u3,u4,u5];all_goals tactic=>exact rfl))
 ·have u2:cA .and .u64 (a:Int) (na:Int)=16:=u2
  have u3:IntKind.u64.wrap 4573923408821661840=4573923408821661840:=by decide
  have u4:(4573923408821661840:Int).fdiv (2^min (Int.toNat 58) IntKind.u64.bits)=15:=by decide
  have u5:Int.toNat 15=15:=rfl
  (sym=>(simp[Za,Zb,Zf,Zh,Zl,Zm,Zv,Z3,Z5,Z6,Z8,ZG,ZY,ZZ,Yk,Yl,Yp,Yq,Y2,YG,YP,YU,Xp,X0,Wc,W7,W8,WG,WK,WL,WN,WO,Vr,V5,V6,V8,V9,VA,VB,VC,VF,VG,VH,VI,VK,VP,VR,VU,VW,VZ,Ub,Ud,Uq,Uv,Uy,Uz,U0,U9,UA,Tb,Tc,Te,Tm,Tn,Tp,Tq,Tt,T0,T1,Sl,S2,n0,u1,u2,u3,u4,u5];all_goals tactic=>exact rfl))
 ·have u2:cA .and .u64 (a:Int) (na:Int)=32:=u2
  have u3:IntKind.u64.wrap 9147846817643323680=9147846817643323680:=by decide
  have u4:(9147846817643323680:Int).fdiv (2^min (Int.toNat 58) IntKind.u64.bits)=31:=by decide
  have u5:Int.toNat 31=31:=rfl
  (sym=>(simp[Za,Zb,Zf,Zh,Zl,Zm,Zv,Z3,Z5,Z6,Z8,ZG,ZY,ZZ,Yk,Yl,Yp,Yq,Y3,YH,YP,YU,Xp,X0,Wc,W7,W8,WG,WK,WL,WN,WO,Vr,V5,V6,V8,V9,VA,VB,VC,VF,VG,VH,VI,VK,VP,VR,VU,VW,VZ,Ub,Ud,Uq,Uv,Uy,Uz,U0,U9,UA,Tb,Tc,Te,Tm,Tn,Tp,Tq,Tt,T0,T1,Sl,S2,n0,u1,u2,u3,u4,u5];all_goals tactic=>exact rfl))
 ·have u2:cA .and .u64 (a:Int) (na:Int)=64:=u2
  have u3:IntKind.u64.wrap 18295693635286647360=18295693635286647360:=by decide
  have u4:(18295693635286647360:Int).fdiv (2^min (Int.toNat 58) IntKind.u64.bits)=63:=by decide
  have u5:Int.toNat 63=63:=rfl
  (sym=>(simp[Za,Zb,Zf,Zh,Zl,Zm,Zv,Z3,Z5,Z6,Z8,ZG,ZY,ZZ,Yk,Yl,Yp,Yq,Y4,YJ,YP,YU,Xp,X0,Wc,W7,W8,WG,WK,WL,WN,WO,Vr,V5,V6,V8,V9,VA,VB,VC,VF,VG,VH,VI,VK,VP,VR,VU,VW,VZ,Ub,Ud,Uq,Uv,Uy,Uz,U0,U9,UA,Tb,Tc,Te,Tm,Tn,Tp,Tq,Tt,T0,T1,Sl,S2,n0,u1,u2,u3,u4,u5];all_goals tactic=>exact rfl))
 ·have u2:cA .and .u64 (a:Int) (na:Int)=128:=u2
  have u3:IntKind.u64.wrap 36591387270573294720=18144643196863743104:=by decide
  have u4:(18144643196863743104:Int).fdiv (2^min (Int.toNat 58) IntKind.u64.bits)=62:=by decide
  have u5:Int.toNat 62=62:=rfl
  (sym=>(simp[Za,Zb,Zf,Zh,Zl,Zm,Zv,Z3,Z5,Z6,Z8,ZG,ZY,ZZ,Yk,Yl,Yp,Yq,Y5,YL,YP,YU,Xp,X0,Wc,W7,W8,WG,WK,WL,WN,WO,Vr,V5,V6,V8,V9,VA,VB,VC,VF,VG,VH,VI,VK,VP,VR,VU,VW,VZ,Ub,Ud,Uq,Uv,Uy,Uz,U0,U9,UA,Tb,Tc,Te,Tm,Tn,Tp,Tq,Tt,T0,T1,Sl,S2,n0,u1,u2,u3,u4,u5];all_goals tactic=>exact rfl))
 ·have u2:cA .and .u64 (a:Int) (na:Int)=256:=u2
  have u3:IntKind.u64.wrap 73182774541146589440=17842542320017934592:=by decide
  have u4:(17842542320017934592:Int).fdiv (2^min (Int.toNat 58) IntKind.u64.bits)=61:=by decide
  have u5:Int.toNat 61=61:=rfl
  (sym=>(simp[Za,Zb,Zf,Zh,Zl,Zm,Zv,Z3,Z5,Z6,Z8,ZG,ZY,ZZ,Yk,Yl,Yp,Yq,Y6,YM,YP,YU,Xp,X0,Wc,W7,W8,WG,WK,WL,WN,WO,Vr,V5,V6,V8,V9,VA,VB,VC,VF,VG,VH,VI,VK,VP,VR,VU,VW,VZ,Ub,Ud,Uq,Uv,Uy,Uz,U0,U9,UA,Tb,Tc,Te,Tm,Tn,Tp,Tq,Tt,T0,T1,Sl,S2,n0,u1,u2,u3,u4,u5];all_goals tactic=>exact rfl))
 ·have u2:cA .and .u64 (a:Int) (na:Int)=512:=u2
  have u3:IntKind.u64.wrap 146365549082293178880=17238340566326317568:=by decide
  have u4:(17238340566326317568:Int).fdiv (2^min (Int.toNat 58) IntKind.u64.bits)=59:=by decide
  have u5:Int.toNat 59=59:=rfl
  (sym=>(simp[Za,Zb,Zf,Zh,Zl,Zm,Zv,Z3,Z5,Z6,Z8,ZG,ZY,ZZ,Yk,Yl,Yp,Yq,Y7,YN,YP,YU,Xp,X0,Wc,W7,W8,WG,WK,WL,WN,WO,Vr,V5,V6,V8,V9,VA,VB,VC,VF,VG,VH,VI,VK,VP,VR,VU,VW,VZ,Ub,Ud,Uq,Uv,Uy,Uz,U0,U9,UA,Tb,Tc,Te,Tm,Tn,Tp,Tq,Tt,T0,T1,Sl,S2,n0,u1,u2,u3,u4,u5];all_goals tactic=>exact rfl))
 ·have u2:cA .and .u64 (a:Int) (na:Int)=1024:=u2
  have u3:IntKind.u64.wrap 292731098164586357760=16029937058943083520:=by decide
  have u4:(16029937058943083520:Int).fdiv (2^min (Int.toNat 58) IntKind.u64.bits)=55:=by decide
  have u5:Int.toNat 55=55:=rfl
  (sym=>(simp[Za,Zb,Zf,Zh,Zl,Zm,Zv,Z3,Z5,Z6,Z8,ZG,ZY,ZZ,Yk,Yl,Yp,Yq,YP,YU,Xp,X0,Wc,W7,W8,WG,WK,WL,WN,WO,Vr,V5,V6,V8,V9,VA,VB,VC,VF,VG,VH,VI,VK,VP,VR,VU,VW,VZ,Ub,Ud,Uq,Uv,Uy,Uz,U0,U9,UA,Tb,Tc,Te,Tm,Tn,Tp,Tq,Tt,T0,T1,Sl,Sq,S2,n0,u1,u2,u3,u4,u5];all_goals tactic=>exact rfl))
 ·have u2:cA .and .u64 (a:Int) (na:Int)=2048:=u2
  have u3:IntKind.u64.wrap 585462196329172715520=13613130044176615424:=by decide
  have u4:(13613130044176615424:Int).fdiv (2^min (Int.toNat 58) IntKind.u64.bits)=47:=by decide
  have u5:Int.toNat 47=47:=rfl
  (sym=>(simp[Za,Zb,Zf,Zh,Zl,Zm,Zv,Z3,Z5,Z6,Z8,ZG,ZY,ZZ,Yk,Yl,Yp,Yq,YP,YU,Xp,X0,Wc,W7,W8,WG,WK,WL,WN,WO,Vr,V5,V6,V8,V9,VA,VB,VC,VF,VG,VH,VI,VK,VP,VR,VU,VW,VZ,Ub,Ud,Uq,Uv,Uy,Uz,U0,U9,UA,Tb,Tc,Te,Tm,Tn,Tp,Tq,Tt,T0,T1,Sl,Sr,S2,n0,u1,u2,u3,u4,u5];all_goals tactic=>exact rfl))
 ·have u2:cA .and .u64 (a:Int) (na:Int)=4096:=u2
  have u3:IntKind.u64.wrap 1170924392658345431040=8779516014643679232:=by decide
  have u4:(8779516014643679232:Int).fdiv (2^min (Int.toNat 58) IntKind.u64.bits)=30:=by decide
  have u5:Int.toNat 30=30:=rfl
  (sym=>(simp[Za,Zb,Zf,Zh,Zl,Zm,Zv,Z3,Z5,Z6,Z8,ZG,ZY,ZZ,Yk,Yl,Yp,Yq,YP,YU,Xp,X0,Wc,W7,W8,WG,WK,WL,WN,WO,Vr,V5,V6,V8,V9,VA,VB,VC,VF,VG,VH,VI,VK,VP,VR,VU,VW,VZ,Ub,Ud,Uq,Uv,Uy,Uz,U0,U9,UA,Tb,Tc,Te,Tm,Tn,Tp,Tq,Tt,T0,T1,Sl,Ss,S2,n0,u1,u2,u3,u4,u5];all_goals tactic=>exact rfl))
 ·have u2:cA .and .u64 (a:Int) (na:Int)=8192:=u2
  have u3:IntKind.u64.wrap 2341848785316690862080=17559032029287358464:=by decide
  have u4:(17559032029287358464:Int).fdiv (2^min (Int.toNat 58) IntKind.u64.bits)=60:=by decide
  have u5:Int.toNat 60=60:=rfl
  (sym=>(simp[Za,Zb,Zf,Zh,Zl,Zm,Zv,Z3,Z5,Z6,Z8,ZG,ZY,ZZ,Yk,Yl,Yp,Yq,YP,YU,Xp,X0,Wc,W7,W8,WG,WK,WL,WN,WO,Vr,V5,V6,V8,V9,VA,VB,VC,VF,VG,VH,VI,VK,VP,VR,VU,VW,VZ,Ub,Ud,Uq,Uv,Uy,Uz,U0,U9,UA,Tb,Tc,Te,Tm,Tn,Tp,Tq,Tt,T0,T1,Sl,Su,S2,n0,u1,u2,u3,u4,u5];all_goals tactic=>exact rfl))
 ·have u2:cA .and .u64 (a:Int) (na:Int)=16384:=u2
  have u3:IntKind.u64.wrap 4683697570633381724160=16671319984865165312:=by decide
  have u4:(16671319984865165312:Int).fdiv (2^min (Int.toNat 58) IntKind.u64.bits)=57:=by decide
  have u5:Int.toNat 57=57:=rfl
  (sym=>(simp[Za,Zb,Zf,Zh,Zl,Zm,Zv,Z3,Z5,Z6,Z8,ZG,ZY,ZZ,Yk,Yl,Yp,Yq,YP,YU,Xp,X0,Wc,W7,W8,WG,WK,WL,WN,WO,Vr,V5,V6,V8,V9,VA,VB,VC,VF,VG,VH,VI,VK,VP,VR,VU,VW,VZ,Ub,Ud,Uq,Uv,Uy,Uz,U0,U9,UA,Tb,Tc,Te,Tm,Tn,Tp,Tq,Tt,T0,T1,Sl,Sv,S2,n0,u1,u2,u3,u4,u5];all_goals tactic=>exact rfl))
 ·have u2:cA .and .u64 (a:Int) (na:Int)=32768:=u2
  have u3:IntKind.u64.wrap 9367395141266763448320=14895895896020779008:=by decide
  have u4:(14895895896020779008:Int).fdiv (2^min (Int.toNat 58) IntKind.u64.bits)=51:=by decide
  have u5:Int.toNat 51=51:=rfl
  (sym=>(simp[Za,Zb,Zf,Zh,Zl,Zm,Zv,Z3,Z5,Z6,Z8,ZG,ZY,ZZ,Yk,Yl,Yp,Yq,YP,YU,Xp,X0,Wc,W7,W8,WG,WK,WL,WN,WO,Vr,V5,V6,V8,V9,VA,VB,VC,VF,VG,VH,VI,VK,VP,VR,VU,VW,VZ,Ub,Ud,Uq,Uv,Uy,Uz,U0,U9,UA,Tb,Tc,Te,Tm,Tn,Tp,Tq,Tt,T0,T1,Sl,Sw,S2,n0,u1,u2,u3,u4,u5];all_goals tactic=>exact rfl))
theorem w87 {a:Nat} (ha:a<65536) (h0:a≠0):runW aA 87 [U a] []=some (I (iL a:Nat),[]):=by
 have e:=w91 ha h0
 rw[r87 (by simp)];unfold x87;dsimp only
 (sym=>(simp[Za,Zb,Zf,Zh,Zl,Zv,ZO,ZP,ZT,ZU,YU,Xp,X0,Wc,W6,W7,WG,WJ,WK,WL,WN,WO,WQ,WR,Ve,Vf,Vg,Vr,V5,V6,V8,V9,VA,VB,VC,VF,VG,VH,VI,VK,VP,VR,VU,VV,VW,VY,VZ,Ub,Ud,Uy,Uz,U0,U1,U2,U9,UA,Tn,Tp,Tq,Tt,T0,T1,Sl,e];all_goals tactic=>exact rfl))
def tB (a:Nat):Nat→Nat
 | 0=>a
 | i+1=>tB a i&&&(tB a i-1)
theorem tA {a:Nat} (ha:a<65536):∀ i,tB a i<65536
 | 0=>ha
 | i+1=>by rw[tB];exact Nat.lt_of_le_of_lt Nat.and_le_left (tA ha i)
theorem aCT {a:Nat} (ha:a<65536):∀ i,el (tB a i)=(el a).drop i
 | 0=>rfl
 | i+1=>by
   have ih:=aCT ha i
   rw[tB]
   by_cases h0:tB a i=0
   ·rw[h0]at ih ⊢
    have e0:el 0=[]:=rfl
    rw[show (0&&&(0-1))=0 from rfl,e0]
    rw[e0]at ih
    have:=congrArg List.length ih
    rw[List.length_nil,List.length_drop]at this
    exact(List.drop_eq_nil_of_le (by omega)).symm
   ·rw[oK (tA ha i) h0]at ih
    rw[←List.drop_drop,←ih]
    rfl
theorem aHw {a:Nat} (ha:a<65536) {i:Nat} (hi:i<(el a).length):tB a i≠0∧(el a)[i]?=some (iL (tB a i)):=by
 have h:=aCT ha i
 have h0:tB a i≠0:=fun hc=>by
  rw[hc,show el 0=[] from rfl]at h
  have:=congrArg List.length h
  rw[List.length_nil,List.length_drop]at this
  omega
 refine⟨h0,?_⟩
 rw[oK (tA ha i) h0]at h
 have:=congrArg (fun l=>l[0]?) h
 simpa using this.symm
theorem aEd {a:Nat} (ha:a<65536):tB a (el a).length=0:=by
 have h:=aCT ha (el a).length
 rw[List.drop_length]at h
 exact(aJu (tA ha _)).1 h
abbrev cI (a:Nat):Option XB:=some (.blk true (.cells true [I a]))
structure aFh (n:Nat) (H:XH):Prop where
 hat:∀ a,hat (H++[cI a]) n=cI a
 set:∀ a b,(H++[cI a]).set n (cI b)=H++[cI b]
 len:∀ a,(H++[cI a]).length=n+1
 head:∀ (a:Nat) (e:aH),e 0 = .fn (.yield 0) [] []→e 1 = .pt n 0→aW (n+1) [0,1] (some (.normal,e,H++[cI a]))=some ([.fn (.yield 0) [] [],.pt n 0],H++[cI a])
 fin:∀ a,iQ false (n+1) (.tup []) (H++[cI a])=(.tup [],H++[cI a])
def Yd (H H':XH) (v:Nat) (b:Bool):Prop:=∀ a:Nat,eH (runW aA) (runYW aA) (.fn (.yield 0) [] []) [I v] (H++[cI a])=some (.bool b,H'++[cI a])
theorem aIq {n:Nat} {H H':XH} (g:aFh n H) (g':aFh n H') {a:Nat} (ha:a<65536) (h0:a≠0) (hy:Yd H H' (iL a) true) :
 aW (n+1) [0,1] (execW aA 86 (n+1) none (match vD with | .loop _ a=>a|c=>c) (aV [0,1] [.fn (.yield 0) [] [],.pt n 0]) (H++[cI a]))=some ([.fn (.yield 0) [] [],.pt n 0],H'++[cI (a&&&(a-1))]):=by
 have h1:=g.hat a
 have h2:=g'.hat a
 have h3:=g'.set a
 have h4:=hy a
 have t:=w87 ha h0
 have n0:((a:Int)=0)=False:=eq_false (by omega)
 have u1:IntKind.i64.wrap ((a:Int)-1)=((a-1:Nat):Int):=by
  rw[show (a:Int)-1=((a-1:Nat):Int) by omega];exact fA bH (by omega)
 have u2:=iD bH (a:=a) (b:=a-1) (by omega) (by omega)
 have u3:=fA aEh (a:=a) (by omega)
 have hd:=g'.head (a&&&(a-1))
 unfold vD
 dsimp only
 sym =>
  simp[Za,Zb,Zc,Zf,Zh,Zl,Zm,Zv,Z3,Z4,Z6,ZG,ZK,ZL,ZO,ZP,ZT,ZU,ZX,ZZ,Yj,Yl,Yr,YU,Xg,Xp,Wo,Wy,Wz,W3,W5,W6,W8,WG,WJ,WL,WQ,WR,Ve,Vf,Vg,VM,VP,VQ,VR,VV,VW,VY,VZ,Uc,Ud,Ui,Ul,Um,Uq,Uv,Uy,Uz,U0,U1,U2,U3,U4,UB,UZ,Ta,Te,Tf,Tg,Tm,Tn,Tq,Ts,Tt,Tw,T0,T1,TB,h1,h2,t,h4,n0,u1,u2,u3,h3]
  tactic=>exact hd _ rfl rfl
theorem rH {n:Nat} {G:Nat→XH} {a:Nat} (ha:a<65536) (g:∀ i,i≤(el a).length→aFh n (G i)) (hy:∀ i v,(el a)[i]?=some v→Yd (G i) (G (i+1)) v true) :
 runW aA 86 [.fn (.yield 0) [] [],.pt n 0] (G 0++[cI a])=some (.tup [],G (el a).length++[cI 0]):=by
 have l0:=(g 0 (by omega)).len a
 have g1:=g (el a).length (by omega)
 have h1:hat (G (el a).length++[some (.blk true (.cells true [.int .i64 0]))]) n=some (.blk true (.cells true [.int .i64 0])):=g1.hat 0
 have hf:iQ false (n+1) (.tup []) (G (el a).length++[some (.blk true (.cells true [.int .i64 0]))])=(.tup [],G (el a).length++[some (.blk true (.cells true [.int .i64 0]))]):=g1.fin 0
 have c0:=aEd ha
 rw[r86 (by simp)];unfold x86;dsimp only
 rw[l0]
 unfold vD
 sym =>
  simp[Y9,Wi,Wn,VU,U9,UA,Ts]
  tactic =>
   rw[aE (el a).length (fun _=>[.fn (.yield 0) [] [],.pt n 0]) (fun i=>G i++[cI (tB a i)])]
   ·rw[c0]
    (sym=>(simp[Za,Zb,Zf,Zh,Zl,Zm,Z3,ZG,Yr,Y9,Wy,Wz,W8,V4,V6,VB,VD,VF,VM,VP,VR,Ul,Uu,UZ,Ta,Te,Tm,Tn,Tr,Tt,Tu,Ty,T0,T1,h1,hf];all_goals tactic=>exact rfl))
   ·exact(g 0 (by omega)).head a _ rfl rfl
   ·intro i hi
    obtain⟨p1,p2⟩:=aHw ha hi
    exact aIq (g i (by omega)) (g (i+1) (by omega)) (tA ha i) p1 (hy i _ p2)
   ·rw[c0]
    (sym=>(simp[Za,Zb,Zf,Zh,Zl,Zm,Z3,ZG,Yr,Y9,Wy,Wz,W8,VM,VP,VR,VS,Ul,Uu,UZ,Ta,Te,Tm,Tn,Tr,Tt,Tu,T0,T1,h1];all_goals tactic=>exact rfl))
structure zR (n:Nat) (M K:Nat→XH):Prop where
 hat:∀ a,hat (M a) n=cI a
 set:∀ a b,(M a).set n (cI b)=M b
 head:∀ (a:Nat) (e:aH),e 0 = .fn (.yield 0) [] []→e 1 = .pt n 0→aW (n+1) [0,1] (some (.normal,e,M a))=some ([.fn (.yield 0) [] [],.pt n 0],K a)
def YdF (K K':Nat→XH) (v:Nat) (b:Bool):Prop:=∀ a:Nat,eH (runW aA) (runYW aA) (.fn (.yield 0) [] []) [I v] (K a)=some (.bool b,K' a)
theorem aKv {n:Nat} {K M K':Nat→XH} {a:Nat} (h1:hat (K a) n=cI a) (g':zR n M K') (ha:a<65536) (h0:a≠0) (hy:YdF K M (iL a) true) :
 aW (n+1) [0,1] (execW aA 86 (n+1) none (match vD with | .loop _ a=>a|c=>c) (aV [0,1] [.fn (.yield 0) [] [],.pt n 0]) (K a))=some ([.fn (.yield 0) [] [],.pt n 0],K' (a&&&(a-1))):=by
 have h2:=g'.hat a
 have h3:=g'.set a
 have h4:=hy a
 have t:=w87 ha h0
 have n0:((a:Int)=0)=False:=eq_false (by omega)
 have u1:IntKind.i64.wrap ((a:Int)-1)=((a-1:Nat):Int):=by
  rw[show (a:Int)-1=((a-1:Nat):Int) by omega];exact fA bH (by omega)
 have u2:=iD bH (a:=a) (b:=a-1) (by omega) (by omega)
 have u3:=fA aEh (a:=a) (by omega)
 have hd:=g'.head (a&&&(a-1))
 unfold vD
 dsimp only
 sym =>
  simp[Za,Zb,Zc,Zf,Zh,Zl,Zm,Zv,Z3,Z4,Z6,ZG,ZK,ZL,ZO,ZP,ZT,ZU,ZX,ZZ,Yj,Yl,Yr,YU,Xg,Xp,Wo,Wy,Wz,W3,W5,W6,W8,WG,WJ,WL,WQ,WR,Ve,Vf,Vg,VM,VP,VQ,VR,VV,VW,VY,VZ,Uc,Ud,Ui,Ul,Um,Uq,Uv,Uy,Uz,U0,U1,U2,U3,U4,UB,UZ,Ta,Te,Tf,Tg,Tm,Tn,Tq,Ts,Tt,Tw,T0,T1,h1,h2,t,h4,n0,u1,u2,u3,h3]
  tactic=>exact hd _ rfl rfl
theorem aMw {n:Nat} {G:Nat→Nat→XH} {a:Nat} {X:XH} (ha:a<65536) (l0:(G 0 a).length=n+1) (g0:zR n (G 0) (G 0)) (gh:∀ i,i≤(el a).length→∀ a,hat (G i a) n=cI a) (hf:iQ false (n+1) (.tup []) (G (el a).length 0)=(.tup [],X)) (hy:∀ i v,(el a)[i]?=some v→∃ M,YdF (G i) M v true∧zR n M (G (i+1))) :
 runW aA 86 [.fn (.yield 0) [] [],.pt n 0] (G 0 a)=some (.tup [],X):=by
 have h1:=gh (el a).length (by omega) 0
 have h1:hat (G (el a).length 0) n=some (.blk true (.cells true [.int .i64 0])):=h1
 have c0:=aEd ha
 rw[r86 (by simp)];unfold x86;dsimp only
 rw[l0]
 unfold vD
 sym =>
  simp[Wi,Wn,VU,U9,UA,Ts]
  tactic =>
   rw[aE (el a).length (fun _=>[.fn (.yield 0) [] [],.pt n 0]) (fun i=>G i (tB a i))]
   ·rw[c0]
    (sym=>(simp[Za,Zb,Zf,Zh,Zl,Zm,Z3,ZG,Yr,Wy,Wz,W8,V4,V6,VB,VD,VF,VM,VP,VR,Ul,Uu,UZ,Ta,Te,Tm,Tn,Tr,Tt,Tu,Ty,T0,T1,h1,hf];all_goals tactic=>exact rfl))
   ·exact g0.head a _ rfl rfl
   ·intro i hi
    obtain⟨p1,p2⟩:=aHw ha hi
    obtain⟨M,m1,m2⟩:=hy i _ p2
    exact aKv (gh i (by omega) _) m2 (tA ha i) p1 m1
   ·rw[c0]
    (sym=>(simp[Za,Zb,Zf,Zh,Zl,Zm,Z3,ZG,Yr,Wy,Wz,W8,VM,VP,VR,VS,Ul,Uu,UZ,Ta,Te,Tm,Tn,Tr,Tt,Tu,T0,T1,h1];all_goals tactic=>exact rfl))
def cZ (ks:List Nat):List Int:=ks.map fun k:Nat=>(k:Int)
theorem sY (a:Nat):(el a).length≤16:=by
 have:=List.length_filter_le (fun i=>a.testBit i) (List.range 16)
 simpa [el]using this
theorem eB {ks:List Nat} {i v:Nat} (h:ks[i]?=some v):(cZ ks)[i]?=some (v:Int):=by
 unfold cZ
 rw[List.getElem?_map,h];rfl
theorem bQ (ks:List Nat):(cZ ks).length=ks.length:=by simp[cZ]
abbrev gCn (a:Nat):XH:=[some (.loop 85 0 [.pt 1 0] .ready),some (.blk true (.cells true [.nilsl])),cI a]
abbrev gCc (x:Int) (r:List Int) (a:Nat):XH:=[some (.loop 85 0 [.pt 1 0] .ready),some (.blk false (.cells true [.sl 3 0 1 (r.length+1)])),cI a,some (.blk true (.cells true (I x::r.map I)))]
abbrev gCm (x:Int) (r:List Int) (a:Nat):XH:=[some (.loop 85 0 [.pt 1 0] .ready),some (.blk false (.cells true [.sl 4 0 1 (r.length+1)])),cI a,none,some (.blk true (.cells true (I x::r.map I)))]
def gC:List Int→Nat→XH
 | []=>gCn
 | x::r=>gCc x r
theorem aKT:zR 2 gCn gCn:=by
 refine⟨fun _=>rfl,fun _ _=>rfl,?_⟩
 intro a e h0 h1
 (sym=>(simp[Xb,Xf,Xv,Xz,W9,WE,WG,WI,WK,WL,WM,WN,WO,WU,WV,WX,WZ,Vb,Vd,VN,VO,VV,VW,VX,VY,VZ,Ua,Ub,Ut,Uy,Uz,U0,U1,U2,Tz,h0,h1];all_goals tactic=>exact rfl))
theorem aKV (x:Int) (r:List Int):zR 2 (gCc x r) (gCc x r):=by
 refine⟨fun _=>rfl,fun _ _=>rfl,?_⟩
 intro a e h0 h1
 (sym=>(simp[Xa,Xb,Xf,Xu,Xv,Xz,Wx,W9,WC,WE,WG,WH,WI,WK,WM,WN,WO,WP,WU,WV,WW,WX,WZ,Vb,Vc,Vd,VN,VO,VV,VW,VX,VY,VZ,Ua,Ub,Ug,Ut,Uz,U0,U1,U2,Tz,h0,h1];all_goals tactic=>exact rfl))
theorem aKU (x:Int) (r:List Int):zR 2 (gCm x r) (gCc x r):=by
 refine⟨fun _=>rfl,fun _ _=>rfl,?_⟩
 intro a e h0 h1
 (sym=>(simp[Xa,Xb,Xf,Xu,Xv,Xz,Wx,W9,WC,WE,WG,WH,WI,WK,WM,WN,WO,WP,WU,WV,WW,WX,WZ,Vb,Vc,Vd,VN,VO,VV,VW,VX,VY,VZ,Ua,Ub,Ug,Ut,Uz,U0,U1,U2,Tz,h0,h1];all_goals tactic=>exact rfl))
theorem yCn (v:Nat):YdF gCn (gCc (v:Int) []) v true:=by
 have y:runYW aA (.fn (.yield 0) [] []) [I (v:Nat)] [some (.loop 85 0 [.pt 1 0] .ready),some (.blk true (.cells true [.nilsl]))]=some (.bool true,[some (.loop 85 0 [.pt 1 0] .ready),some (.blk false (.cells true [.sl 2 0 1 1])),some (.blk true (.cells true [I (v:Nat)]))]):=by
  rw[jW (K:=85) (d:=x85) (site:=0) (vs:=[.pt 1 0]) rfl rfl (by rfl) rfl]
  (sym=>(simp[Za,Zb,Zc,Zd,Ze,Zf,Zg,Zh,Zj,Zl,Zm,Zo,Zv,Z1,ZG,ZK,ZL,ZS,YV,Xa,Xb,Xg,Xk,Xq,Xu,Xv,X0,Wc,Wo,Ws,Wx,Wy,Wz,W0,W3,W4,W5,W6,W8,W9,WC,WE,WG,WH,WI,WK,WM,WN,WO,WP,WU,WV,WW,WX,WZ,Vb,Vc,Vd,Vr,Vt,Vu,Vv,V7,VA,VM,VV,VW,VX,VY,VZ,Ua,Ub,Uc,Ud,Ug,Ui,Uk,Uq,Ut,Uw,Ux,Uz,U0,U1,U2,U3,U4,UB,UC,UD,UE,UI,UJ,UM,UN,UO,UP,US,UT,UU,UV,UZ,Ta,Te,Tf,Tg,Th,Tj,Tk,Tl,Ts,Tw,T0,TK,TT,TU,TV,TW,Se,Sf,Sg,Si,Sl,S4,S5,S7,S8,S9,SA];all_goals tactic=>exact rfl))
 intro a
 (sym=>(simp[YU,Xb,Xf,Xp,Xq,Xu,Xv,Xz,Wx,W0,W5,W8,W9,WA,WB,WC,WF,WG,WH,WI,WJ,WM,WQ,WR,WS,WU,WV,WW,WX,Vb,Vd,Ve,Vf,Vg,Vh,VV,VW,VX,VY,VZ,Uc,Ud,Ug,Ut,Uz,U0,U1,U2,Sd,y];all_goals tactic=>exact rfl))
theorem yCc (v:Nat) (x:Int) (r:List Int) (hr:r.length≤20):YdF (gCc x r) (gCm x (r++[(v:Int)])) v true:=by
 have b1:((r.length+1+1)*8≤1099511627776)=True:=eq_true (by omega)
 have b2:(r.length+1+1≤1099511627776)=True:=eq_true (by omega)
 have y:runYW aA (.fn (.yield 0) [] []) [I (v:Nat)] [some (.loop 85 0 [.pt 1 0] .ready),some (.blk false (.cells true [.sl 2 0 1 (r.length+1)])),some (.blk true (.cells true (I x::r.map I)))]=some (.bool true,[some (.loop 85 0 [.pt 1 0] .ready),some (.blk false (.cells true [.sl 3 0 1 (r.length+1+1)])),none,some (.blk true (.cells true (I x::(r.map I++[I (v:Nat)]))))]):=by
  rw[jW (K:=85) (d:=x85) (site:=0) (vs:=[.pt 1 0]) rfl rfl (by rfl) rfl]
  (sym=>(simp[Za,Zb,Zc,Zd,Ze,Zf,Zg,Zh,Zj,Zl,Zm,Zo,Zv,Z1,ZG,ZK,ZL,ZS,YV,Xa,Xb,Xg,Xk,Xq,Xu,Xv,X0,Wc,Wo,Ws,Wx,Wy,Wz,W0,W3,W4,W5,W6,W8,W9,WC,WE,WG,WH,WI,WK,WM,WN,WO,WP,WT,WU,WV,WW,WX,WY,WZ,Vb,Vc,Vd,Vr,Vt,Vu,Vv,V7,VA,VM,VV,VW,VX,VY,VZ,Ua,Ub,Uc,Ud,Ue,Ug,Ui,Uk,Uq,Ut,Uw,Ux,Uz,U0,U1,U2,U3,U4,UB,UC,UD,UE,UI,UJ,UM,UN,UO,UP,US,UT,UU,UW,UX,UZ,Ta,Te,Tf,Tg,Th,Ti,Tj,Tk,Ts,Tw,T0,TC,TK,TT,TU,TV,TW,Se,Sf,Sg,Si,Sl,S4,S5,S7,S8,S9,SA,b1,b2];all_goals tactic=>exact rfl))
 intro a
 (sym=>(simp[YU,Xa,Xb,Xf,Xp,Xq,Xu,Xv,Xz,Wx,W0,W5,W8,W9,WA,WB,WC,WF,WG,WH,WI,WJ,WM,WQ,WR,WS,WT,WU,WV,WW,WX,Vb,Vc,Vd,Ve,Vf,Vg,Vh,VV,VW,VX,VY,VZ,Uc,Ud,Ug,Ut,Uz,U0,U1,U2,TA,TB,Sd,y];all_goals tactic=>exact rfl))
theorem aKX (os:List Int):iQ false 3 (.tup []) (gC os 0)=(.tup [],gC os 0):=by
 cases os with
 | nil=>unfold gC; (sym=>(simp[Za,Y9,YY,Xb,Xs,Xv,XK,Wf,W9,WE,WG,WI,WK,WL,WM,WN,WO,WU,WV,WX,WZ,Vb,Vd,Vr,V8,V9,VA,VV,VW,VY,VZ,Ua,Ub,Ut,Uy,Uz,U0,U1,U2,U5,U9,Sl];all_goals tactic=>exact rfl))
 | cons x r=>unfold gC; (sym=>(simp[Za,Y9,YY,Xa,Xb,Xs,Xu,Xv,XK,Wf,Wx,W9,WC,WE,WG,WH,WI,WK,WM,WN,WO,WP,WU,WV,WW,WX,WZ,Vb,Vc,Vd,Vr,V8,V9,VA,VV,VW,VX,VY,VZ,Ua,Ub,Ug,Ut,Uz,U0,U1,U2,U5,U9,Sl];all_goals tactic=>exact rfl))
theorem w85 {a:Nat} (ha:a<65536):runW aA 85 [.nilsl,.fn (.func 86) [] [.pt 0 0]] [cI a]=some (nL (cZ (el a)),[some (.blk true (.cells true [.int .i64 0]))]):=by
 have e:=aMw (n:=2) (G:=fun i=>gC (cZ ((el a).take i))) (X:=gC (cZ (el a)) 0) ha rfl aKT
  (by intro i _ c;cases cZ ((el a).take i)<;>rfl)
  (by
   show iQ false 3 (.tup []) (gC (cZ ((el a).take (el a).length)) 0)=_
   rw[List.take_length]
   exact aKX _)
  (by
   intro i v hv
   have e1:cZ ((el a).take (i+1))=cZ ((el a).take i)++[(v:Int)]:=by
    rw[List.take_add_one,hv]
    simp[cZ]
   have hl:=bQ ((el a).take i)
   have hl2:=sY a
   rw[List.length_take]at hl
   rw[e1]
   generalize cZ ((el a).take i)=os at *
   rcases os with _|⟨x,r⟩
   ·exact⟨_,yCn v,aKV _ _⟩
   ·exact⟨_,yCc v x r (by simp at hl;omega),aKU _ _⟩)
 have e:runW aA 86 [.fn (.yield 0) [] [],.pt 2 0] [some (.loop 85 0 [.pt 1 0] .ready),some (.blk true (.cells true [.nilsl])),cI a]=some (.tup [],gC (cZ (el a)) 0):=e
 generalize cZ (el a)=os at *
 rw[r85 (by simp)];unfold x85;dsimp only
 rcases os with _|⟨x,r⟩
 ·have e:runW aA 86 [.fn (.yield 0) [] [],.pt 2 0] [some (.loop 85 0 [.pt 1 0] .ready),some (.blk true (.cells true [.nilsl])),cI a]=some (.tup [],[some (.loop 85 0 [.pt 1 0] .ready),some (.blk true (.cells true [.nilsl])),some (.blk true (.cells true [.int .i64 0]))]):=e
  (sym=>(simp[Za,Zb,Zf,Zh,Zl,Zm,Zo,Zv,Zz,ZG,ZT,ZU,YZ,Xb,Xf,Xm,Xs,Xt,Xv,Xz,XO,Wj,Wu,Wx,Wy,Wz,W0,W5,W6,W7,W8,W9,WA,WB,WC,WF,WG,WH,WI,WJ,WK,WL,WM,WN,WO,WQ,WR,WS,WU,WV,WX,WZ,Vb,Vd,Ve,Vf,Vg,Vh,Vr,V5,V6,V8,V9,VA,VB,VC,VF,VG,VH,VI,VK,VV,VW,VX,VY,VZ,Ua,Ub,Uc,Ud,Ug,Ui,Ut,Uy,Uz,U0,U1,U2,UK,UL,UZ,Ta,Te,Th,Tn,Tp,Ts,Tt,Tw,T0,T1,TT,TU,TX,TY,TZ,Sa,Sb,Sc,Sl,e];all_goals tactic=>exact rfl))
 ·have e:runW aA 86 [.fn (.yield 0) [] [],.pt 2 0] [some (.loop 85 0 [.pt 1 0] .ready),some (.blk true (.cells true [.nilsl])),cI a]=some (.tup [],[some (.loop 85 0 [.pt 1 0] .ready),some (.blk false (.cells true [.sl 3 0 1 (r.length+1)])),some (.blk true (.cells true [.int .i64 0])),some (.blk true (.cells true (I x::r.map I)))]):=e
  (sym=>(simp[Za,Zb,Zf,Zh,Zl,Zm,Zo,Zv,Zz,ZG,ZT,ZU,YZ,Xb,Xf,Xj,Xm,Xs,Xt,Xu,Xv,Xz,XM,XZ,Wg,Wu,Wx,Wy,Wz,W0,W5,W7,W8,W9,WA,WB,WC,WF,WG,WH,WI,WJ,WK,WM,WN,WO,WQ,WR,WS,WU,WV,WW,WX,WZ,Vb,Vd,Ve,Vf,Vg,Vh,Vo,Vp,Vq,Vr,Vs,V0,V1,V2,V3,V5,V6,V8,V9,VA,VB,VC,VF,VG,VH,VI,VK,VV,VW,VX,VY,VZ,Ua,Ub,Uc,Ud,Ue,Ug,Ui,Uq,Ut,Uz,U0,U1,U2,U3,U4,U7,U8,UK,UL,UZ,Ta,Te,Th,Tn,Tp,Ts,Tt,Tw,T0,T1,TC,TD,TF,TR,TT,TU,TX,TY,TZ,Sa,Sb,Sc,Sl,Sm,Sn,e];all_goals tactic=>exact rfl))
theorem w79 {a:Nat} (ha:a<65536):runW aA 79 [.fn (.func 86) [] [.pt 0 0]] [cI a]=some (nL (cZ (el a)),[some (.blk true (.cells true [.int .i64 0]))]):=by
 have e:=w85 ha
 generalize cZ (el a)=os at *
 rw[r79 (by simp)];unfold x79;dsimp only
 (sym=>(simp[Za,Zb,Zf,Zh,Zl,Zv,ZO,ZP,ZT,ZU,YZ,Xb,Xc,Xe,Xt,Xv,Xw,Xy,XL,Wg,Wm,Wx,W0,W5,W6,W7,W9,WB,WC,WG,WH,WI,WJ,WK,WL,WM,WN,WO,WQ,WR,WS,WU,WV,WZ,Vb,Ve,Vf,Vg,Vh,Vr,V5,V6,V8,V9,VA,VB,VC,VF,VG,VH,VI,VK,VU,VV,VW,VY,VZ,Ua,Ub,Uc,Ud,Ut,Uy,Uz,U0,U1,U2,U9,UA,Tn,Tp,Tt,T0,T1,Sl,e];all_goals tactic=>exact rfl))
theorem w80 {a:Nat}:runW aA 80 [I a] []=some (.fn (.func 86) [] [.pt 0 0],[cI a]):=by
 rw[r80 (by simp)];unfold x80;dsimp only
 (sym=>(simp[Za,Zb,Zf,Zh,Zl,Zo,Zv,Zx,Zz,Xb,Xe,Xg,Xv,Xy,XQ,Wc,Wm,Wo,Wx,W7,W9,WC,WE,WG,WH,WI,WK,WM,WN,WO,WP,WU,WV,Vb,Vr,V5,V6,V8,V9,VA,VB,VC,VF,VG,VH,VI,VK,VU,VV,VW,VY,VZ,Ub,Ud,Ug,Ut,Uz,U0,U1,U2,U9,UA,UK,UL,Th,Tn,Tp,Tt,T0,T1,TE,Sl];all_goals tactic=>exact rfl))
theorem w63 {a:Nat} (ha:a<65536):runW aA 63 [I a] []=some (nL (cZ (el a)),[]):=by
 have e:=w79 ha
 have e2:=w80 (a:=a)
 generalize cZ (el a)=os at *
 rw[r63 (by simp)];unfold x63;dsimp only
 (sym=>(simp[Za,Zb,Zf,Zg,Zh,Zj,Zl,Zv,ZO,ZP,ZT,ZU,YU,YZ,Xb,Xe,Xp,Xt,Xv,Xy,X0,XL,Wc,Wg,Wx,W0,W5,W6,W7,W9,WB,WC,WF,WG,WH,WI,WJ,WK,WL,WM,WN,WO,WQ,WR,WS,WU,WV,Vb,Ve,Vf,Vg,Vh,Vr,Vt,Vu,Vv,V5,V6,V8,V9,VA,VB,VC,VF,VG,VH,VI,VK,VU,VV,VW,VY,VZ,Ub,Uc,Ud,Ut,Uy,Uz,U0,U1,U2,U9,UA,Tn,Tp,Tt,T0,T1,Sl,S4,S5,S7,S8,S9,SA,e,e2];all_goals tactic=>exact rfl))
structure Va where
 F:Int
 bs:List (Int×Int)
 ps:List (Int×Int×Int)
 sick:Int
 nur:Int
 fix:Int
abbrev rB (l:List (Int×Int)):AV:=.fs (l.map fun b=>[I b.1,I b.2])
abbrev rP (l:List (Int×Int×Int)):AV:=.fs (l.map fun p=>[I p.1,I p.2.1,I p.2.2])
abbrev Va.c (v:Va):List AV:=[I v.F,rB v.bs,rP v.ps,I v.sick,I v.nur,I v.fix]
def gR (F a b:Int):Int:=if btw 0 a (F-1)&&btw 0 b (F-1) then (if a=b then 22 else 0) else 5
theorem tR (F a b:Int):(btw 0 a (F-1)=false∧gR F a b=5)∨(btw 0 a (F-1)=true∧btw 0 b (F-1)=false∧gR F a b=5) ∨
 (btw 0 a (F-1)=true∧btw 0 b (F-1)=true∧(a=b)=True∧gR F a b=22)∨(btw 0 a (F-1)=true∧btw 0 b (F-1)=true∧(a=b)=False∧gR F a b=0):=by
 unfold gR
 cases btw 0 a (F-1)
 ·simp
 cases btw 0 b (F-1)
 ·simp
 by_cases h:a=b
 ·simp[h]
 ·simp[h]
theorem w53 (v:Va) (hF:1≤v.F∧v.F≤16) (a b:Int):runW aA 53 [.agg v.c,I a,I b] []=some (I (gR v.F a b),[]):=by
 have u:IntKind.i64.wrap (v.F-1)=v.F-1:=aD (by omega) (by omega)
 have e1:=w45 0 a (v.F-1)
 have e2:=w45 0 b (v.F-1)
 rw[r53 (by simp)];unfold x53;dsimp only
 rcases tR v.F a b with ⟨h1,h⟩|⟨h1,h2,h⟩|⟨h1,h2,h3,h⟩|⟨h1,h2,h3,h⟩
 ·rw[h];rw[h1]at e1; (sym=>(simp[Za,Zb,Zf,Zh,Zl,Zm,Zo,Zp,Zt,Zv,Zy,Zz,Z3,Z4,Z7,ZG,ZO,ZP,ZT,ZU,ZV,ZX,Ya,Yj,YU,Xg,Xi,Xj,Xp,Xq,X0,Wc,We,Wg,Wq,Wx,Wy,Wz,W6,W7,W8,WG,WJ,WK,WL,WM,WN,WO,WQ,WR,Ve,Vf,Vg,Vr,V5,V6,V8,V9,VA,VB,VC,VF,VG,VH,VI,VK,VP,VQ,VU,VV,VW,VY,VZ,Ub,Uc,Ud,Ui,Um,Uy,Uz,U0,U1,U2,U3,U4,U9,UA,UK,UL,UZ,Ta,Te,Th,Tm,Tn,Tp,Ts,Tt,Tv,Tx,T0,T1,Sl,u,e1];all_goals tactic=>exact rfl))
 ·rw[h];rw[h1]at e1;rw[h2]at e2; (sym=>(simp[Za,Zb,Zf,Zh,Zl,Zm,Zo,Zp,Zr,Zv,Zy,Zz,Z3,Z4,Z7,ZG,ZO,ZP,ZT,ZU,ZW,ZX,Ya,Yj,YU,Xg,Xi,Xj,Xp,Xq,X0,Wc,We,Wg,Wq,Wx,Wy,Wz,W6,W7,W8,WG,WJ,WK,WL,WM,WN,WO,WQ,WR,Ve,Vf,Vg,Vr,V5,V6,V8,V9,VA,VB,VC,VF,VG,VH,VI,VK,VP,VQ,VU,VV,VW,VY,VZ,Ub,Uc,Ud,Ui,Ul,Um,Uy,Uz,U0,U1,U2,U3,U4,U9,UA,UK,UL,UZ,Ta,Te,Th,Tm,Tn,Tp,Ts,Tt,Tv,Tx,T0,T1,Sl,u,e1,e2];all_goals tactic=>exact rfl))
 ·rw[h];rw[h1]at e1;rw[h2]at e2; (sym=>(simp[Za,Zb,Zf,Zh,Zl,Zm,Zo,Zp,Zr,Zv,Zy,Zz,Z3,Z4,Z7,ZG,ZO,ZP,ZT,ZU,ZW,ZX,Ya,Yj,Yq,YU,Xg,Xi,Xj,Xp,Xq,X0,Wc,We,Wg,Wq,Wx,Wy,Wz,W6,W7,W8,WG,WJ,WK,WL,WM,WN,WO,WQ,WR,Ve,Vf,Vg,Vr,V5,V6,V8,V9,VA,VB,VC,VF,VG,VH,VI,VK,VP,VQ,VR,VU,VV,VW,VY,VZ,Ub,Uc,Ud,Ui,Ul,Uu,Uy,Uz,U0,U1,U2,U3,U4,U9,UA,UK,UL,UZ,Ta,Te,Th,Tm,Tn,Tp,Ts,Tt,Tv,Tx,T0,T1,Sl,u,e1,e2,h3];all_goals tactic=>exact rfl))
 ·rw[h];rw[h1]at e1;rw[h2]at e2; (sym=>(simp[Za,Zb,Zf,Zh,Zl,Zm,Zo,Zp,Zr,Zv,Zy,Zz,Z3,Z4,Z7,ZG,ZO,ZP,ZT,ZU,ZW,ZX,Ya,Yj,Yq,YU,Xg,Xi,Xj,Xp,Xq,X0,Wc,We,Wg,Wq,Wx,Wy,Wz,W6,W7,W8,WG,WJ,WK,WL,WM,WN,WO,WQ,WR,Ve,Vf,Vg,Vr,V5,V6,V8,V9,VA,VB,VC,VF,VG,VH,VI,VK,VP,VR,VU,VV,VW,VY,VZ,Ub,Uc,Ud,Ui,Ul,Uv,Uy,Uz,U0,U1,U2,U3,U4,U9,UA,UK,UL,UZ,Ta,Te,Th,Tm,Tn,Tp,Tq,Ts,Tt,Tw,T0,T1,Sl,u,e1,e2,h3];all_goals tactic=>exact rfl))
def bE (v:Va) (i:Nat):Int:=gR v.F (v.bs.getD i (0,0)).1 (v.bs.getD i (0,0)).2
def pE (v:Va) (i:Nat):Int:=if gR v.F (v.ps.getD i (0,0,0)).2.1 (v.ps.getD i (0,0,0)).2.2=0 then (if btw 0 (v.ps.getD i (0,0,0)).1 100 then 0 else 2) else gR v.F (v.ps.getD i (0,0,0)).2.1 (v.ps.getD i (0,0,0)).2.2
def Va.A (v:Va):Int:=2^v.F.toNat-1
def sE (v:Va):Int:=if btw 0 v.sick v.A&&(btw 0 v.nur v.A&&btw 0 v.fix v.A) then 0 else 2
def bsE (v:Va):Int:=if 60<v.bs.length then 1 else cG (bE v) v.bs.length
def psE (v:Va):Int:=if 20<v.ps.length then 1 else cG (pE v) v.ps.length
def vE (v:Va):Int:=if btw 1 v.F 16 then (if bsE v=0 then (if psE v=0 then sE v else psE v) else bsE v) else 2
theorem aIT {n:Int} (h:n≠0):(n=0)=False:=eq_false h
theorem aR {α:Type} {l:List α} {i:Nat} {x d:α} (h:l[i]?=some x):l.getD i d=x:=by rw[List.getD_eq_getElem?_getD,h];rfl
abbrev bx (v:Va):XH:=[some (.blk true (.cells true v.c))]
theorem vT (v:Va) (hF:1≤v.F∧v.F≤16) (hb:v.bs.length<1000000000) {i:Nat} (hi:i<v.bs.length) (h0:bE v i=0) :
 aW 0 [1,22,23,24] (execW aA 23 0 none (match qG with | .loop _ a=>a|c=>c) (aV [1,22,23,24] [.pt 0 0,rB v.bs,I v.bs.length,I (i:Nat)]) (bx v))=some ([.pt 0 0,rB v.bs,I v.bs.length,I (i+1:Nat)],bx v):=by
 obtain⟨x,hx⟩:=bM hi
 have a1:=dH hi
 have a2:=dN hi (by omega)
 have e:=w53 v hF x.1 x.2
 have e0:gR v.F x.1 x.2=0:=by unfold bE at h0;rw[aR hx]at h0;exact h0
 rw[e0]at e
 unfold qG
 dsimp only
 (sym=>(simp[Za,Zb,Zc,Zf,Zg,Zh,Zj,Zl,Zm,Zv,Zw,Z3,Z8,Z9,ZG,ZK,ZL,ZO,ZP,ZT,ZU,Yf,Yg,Yi,Yr,Ys,Yw,Yx,Y8,YA,YD,YO,YU,YX,YZ,Xb,Xg,Xp,Xr,Xt,Xv,Wq,Wx,Wy,Wz,W0,W3,W4,W5,W6,W8,W9,WC,WE,WG,WH,WI,WJ,WK,WL,WM,WN,WO,WP,WQ,WR,WU,WV,Vb,Ve,Vf,Vg,Vr,Vt,Vu,Vw,Vx,Vz,VM,VN,VO,VP,VQ,VR,VV,VW,VX,VY,VZ,Ub,Uc,Ud,Ue,Uf,Ug,Ui,Ul,Uq,Ut,Uu,Uy,Uz,U0,U1,U2,U3,U4,UB,UZ,Ta,Tb,Tc,Td,Te,Tf,Tg,Tm,Tn,Tq,Ts,Tt,Tw,Tz,T0,T1,TE,S4,S5,S6,S8,S9,SA,a1,a2,hx,e];all_goals tactic=>exact rfl))
theorem aJi (v:Va) (hF:1≤v.F∧v.F≤16) {i:Nat} (hi:i<v.bs.length) (h0:bE v i≠0):∃ e h,
 execW aA 23 0 none (match qG with | .loop _ a=>a|c=>c) (aV [1,22,23,24] [.pt 0 0,rB v.bs,I v.bs.length,I (i:Nat)]) (bx v)=some (.ret,e,h)∧bU none x23.res x23.ownR 0 (some (.ret,e,h))=some (I (bE v i),[]):=by
 obtain⟨x,hx⟩:=bM hi
 have a1:=dH hi
 have e:=w53 v hF x.1 x.2
 have e0:gR v.F x.1 x.2=bE v i:=by unfold bE;rw[aR hx]
 have n0:=aIT h0
 rw[e0]at e
 refine dR ?_ ?_
 ·unfold qG
  dsimp only
  (sym=>(simp[Za,Zb,Zc,Zf,Zg,Zh,Zj,Zl,Zm,Zv,Zw,Z3,Z8,Z9,ZG,ZK,ZL,ZO,ZP,ZT,ZU,Yf,Yg,Yr,Ys,Yw,Yx,Y8,YA,YD,YO,YU,YX,YZ,Xg,Xp,Xr,Xt,Wq,Wx,Wy,Wz,W0,W3,W4,W5,W6,W8,WG,WJ,WL,WQ,WR,Ve,Vf,Vg,Vr,Vt,Vu,Vw,Vx,Vz,VM,VP,VQ,VT,VV,VW,VX,VY,VZ,Uc,Ud,Ue,Uf,Ug,Ui,Um,Uq,Uu,Uv,Uy,Uz,U0,U1,U2,U3,U4,UB,UZ,Ta,Tb,Tc,Td,Te,Tf,Tg,Tm,Tn,Tp,Tq,Ts,Tt,Tv,Tx,T0,T1,S4,S5,S6,S8,S9,SA,a1,hx,e,n0];all_goals tactic=>exact rfl))
 ·unfold qG
  dsimp only
  (sym=>(simp[Za,Zb,Zc,Zf,Zg,Zh,Zj,Zl,Zm,Zv,Zw,Z3,Z8,Z9,ZG,ZK,ZL,ZO,ZP,ZT,ZU,Yf,Yg,Yr,Ys,Yw,Yx,Y8,YA,YD,YO,YU,YX,YZ,Xg,Xp,Xr,Xt,Wq,Wx,Wy,Wz,W0,W3,W4,W5,W6,W8,WG,WJ,WL,WQ,WR,Ve,Vf,Vg,Vr,Vt,Vu,Vw,Vx,Vz,V5,VB,VM,VP,VQ,VV,VW,VX,VY,VZ,Uc,Ud,Ue,Uf,Ug,Ui,Um,Uq,Uu,Uv,Uy,Uz,U0,U1,U2,U3,U4,UB,UZ,Ta,Tb,Tc,Td,Te,Tf,Tg,Tm,Tn,Tp,Tq,Ts,Tt,Tv,Tx,T0,T1,S4,S5,S6,S8,S9,SA,a1,hx,e,n0];all_goals tactic=>exact rfl))
theorem qV (v:Va) {i:Nat} {p:Int×Int×Int} (hp:v.ps[i]?=some p):(gR v.F p.2.1 p.2.2≠0∧pE v i=gR v.F p.2.1 p.2.2)∨(gR v.F p.2.1 p.2.2=0∧btw 0 p.1 100=true∧pE v i=0)∨(gR v.F p.2.1 p.2.2=0∧btw 0 p.1 100=false∧pE v i=2):=by
 unfold pE
 rw[aR hp]
 by_cases h:gR v.F p.2.1 p.2.2=0
 ·cases h2:btw 0 p.1 100<;>simp[h]
 ·simp[h]
theorem aBk (v:Va) (hF:1≤v.F∧v.F≤16) (hb:v.ps.length<1000000000) {i:Nat} (hi:i<v.ps.length) (h0:pE v i=0) :
 aW 0 [1,43,44,45] (execW aA 23 0 none (match oU with | .loop _ a=>a|c=>c) (aV [1,43,44,45] [.pt 0 0,rP v.ps,I v.ps.length,I (i:Nat)]) (bx v))=some ([.pt 0 0,rP v.ps,I v.ps.length,I (i+1:Nat)],bx v):=by
 obtain⟨x,hx⟩:=bM hi
 have a1:=dH hi
 have a2:=dN hi (by omega)
 have e:=w53 v hF x.2.1 x.2.2
 have e2:=w45 0 x.1 100
 rcases qV v hx with ⟨h1,h2⟩|⟨h1,h2,_⟩|⟨h1,h2,h3⟩
 ·exact absurd (h2.symm.trans h0) h1
 ·rw[h1]at e
  rw[h2]at e2
  unfold oU
  dsimp only
  (sym=>(simp[Za,Zb,Zc,Zf,Zg,Zh,Zj,Zl,Zm,Zv,Zw,Z3,Z4,Z7,Z9,ZG,ZK,ZL,ZO,ZP,ZT,ZU,ZX,Ya,Yf,Yg,Yi,Yr,Ys,Yw,Yx,YU,YX,YZ,Xb,Xg,Xp,Xq,Xr,Xt,Xv,Wq,Wx,Wy,Wz,W0,W3,W4,W5,W6,W8,W9,WC,WE,WG,WH,WI,WJ,WK,WL,WM,WN,WO,WP,WQ,WR,WU,WV,Vb,Ve,Vf,Vg,Vr,Vt,Vu,Vw,Vx,Vz,VM,VN,VO,VP,VQ,VR,VV,VW,VX,VY,VZ,Ub,Uc,Ud,Ue,Uf,Ug,Ui,Ul,Uq,Ut,Uu,Uy,Uz,U0,U1,U2,U3,U4,UB,UZ,Ta,Tb,Tc,Td,Te,Tf,Tg,Tm,Tn,Tq,Ts,Tt,Tw,Tz,T0,T1,TE,S4,S5,S6,S8,S9,SA,a1,a2,hx,e,e2];all_goals tactic=>exact rfl))
 ·rw[h0]at h3;simp at h3
theorem aJh (v:Va) (hF:1≤v.F∧v.F≤16) {i:Nat} (hi:i<v.ps.length) (h0:pE v i≠0):∃ e h,
 execW aA 23 0 none (match oU with | .loop _ a=>a|c=>c) (aV [1,43,44,45] [.pt 0 0,rP v.ps,I v.ps.length,I (i:Nat)]) (bx v)=some (.ret,e,h)∧bU none x23.res x23.ownR 0 (some (.ret,e,h))=some (I (pE v i),[]):=by
 obtain⟨x,hx⟩:=bM hi
 have a1:=dH hi
 have e:=w53 v hF x.2.1 x.2.2
 have e2:=w45 0 x.1 100
 rcases qV v hx with ⟨h1,h2⟩|⟨h1,h2,h3⟩|⟨h1,h2,h3⟩
 ·have n0:=aIT h1
  rw[h2]
  generalize gR v.F x.2.1 x.2.2=er at *
  refine dR ?_ ?_
  ·unfold oU
   dsimp only
   (sym=>(simp[Za,Zb,Zc,Zf,Zg,Zh,Zj,Zl,Zm,Zv,Zw,Z3,Z7,Z9,ZG,ZK,ZL,ZO,ZP,ZT,ZU,Ya,Yf,Yg,Yr,Ys,Yw,Yx,YU,YX,YZ,Xg,Xp,Xr,Xt,Wq,Wx,Wy,Wz,W0,W3,W4,W5,W6,W8,WG,WJ,WL,WQ,WR,Ve,Vf,Vg,Vr,Vt,Vu,Vw,Vx,Vz,VM,VP,VQ,VT,VV,VW,VX,VY,VZ,Uc,Ud,Ue,Uf,Ug,Ui,Um,Uq,Uu,Uv,Uy,Uz,U0,U1,U2,U3,U4,UB,UZ,Ta,Tb,Tc,Td,Te,Tf,Tg,Tm,Tn,Tp,Tq,Ts,Tt,Tv,Tx,T0,T1,S4,S5,S6,S8,S9,SA,a1,hx,e,n0];all_goals tactic=>exact rfl))
  ·unfold oU
   dsimp only
   (sym=>(simp[Za,Zb,Zc,Zf,Zg,Zh,Zj,Zl,Zm,Zv,Zw,Z3,Z7,Z9,ZG,ZK,ZL,ZO,ZP,ZT,ZU,Ya,Yf,Yg,Yr,Ys,Yw,Yx,YU,YX,YZ,Xg,Xp,Xr,Xt,Wq,Wx,Wy,Wz,W0,W3,W4,W5,W6,W8,WG,WJ,WL,WQ,WR,Ve,Vf,Vg,Vr,Vt,Vu,Vw,Vx,Vz,V5,VB,VM,VP,VQ,VV,VW,VX,VY,VZ,Uc,Ud,Ue,Uf,Ug,Ui,Um,Uq,Uu,Uv,Uy,Uz,U0,U1,U2,U3,U4,UB,UZ,Ta,Tb,Tc,Td,Te,Tf,Tg,Tm,Tn,Tp,Tq,Ts,Tt,Tv,Tx,T0,T1,S4,S5,S6,S8,S9,SA,a1,hx,e,n0];all_goals tactic=>exact rfl))
 ·exact absurd h3 h0
 ·rw[h1]at e
  rw[h2]at e2
  rw[h3]
  refine dR ?_ ?_
  ·unfold oU
   dsimp only
   (sym=>(simp[Za,Zb,Zc,Zf,Zg,Zh,Zj,Zl,Zm,Zv,Zw,Z3,Z4,Z7,Z9,ZG,ZK,ZL,ZO,ZP,ZT,ZU,ZX,Ya,Yf,Yg,Yr,Ys,Yw,Yx,YU,YX,YZ,Xg,Xp,Xq,Xr,Xt,Wq,Wx,Wy,Wz,W0,W3,W4,W5,W6,W8,WG,WJ,WL,WQ,WR,Ve,Vf,Vg,Vr,Vt,Vu,Vw,Vx,Vz,VM,VP,VQ,VR,VT,VV,VW,VX,VY,VZ,Uc,Ud,Ue,Uf,Ug,Ui,Ul,Um,Uq,Uu,Uy,Uz,U0,U1,U2,U3,U4,UB,UZ,Ta,Tb,Tc,Td,Te,Tf,Tg,Tm,Tn,Tp,Tq,Ts,Tt,Tv,Tx,T0,T1,S4,S5,S6,S8,S9,SA,a1,hx,e,e2];all_goals tactic=>exact rfl))
  ·unfold oU
   dsimp only
   (sym=>(simp[Za,Zb,Zc,Zf,Zg,Zh,Zj,Zl,Zm,Zv,Zw,Z3,Z4,Z7,Z9,ZG,ZK,ZL,ZO,ZP,ZT,ZU,ZX,Ya,Yf,Yg,Yr,Ys,Yw,Yx,YU,YX,YZ,Xg,Xp,Xq,Xr,Xt,Wq,Wx,Wy,Wz,W0,W3,W4,W5,W6,W8,WG,WJ,WL,WQ,WR,Ve,Vf,Vg,Vr,Vt,Vu,Vw,Vx,Vz,V5,VB,VM,VP,VQ,VR,VV,VW,VX,VY,VZ,Uc,Ud,Ue,Uf,Ug,Ui,Ul,Um,Uq,Uu,Uy,Uz,U0,U1,U2,U3,U4,UB,UZ,Ta,Tb,Tc,Td,Te,Tf,Tg,Tm,Tn,Tp,Tq,Ts,Tt,Tv,Tx,T0,T1,S4,S5,S6,S8,S9,SA,a1,hx,e,e2];all_goals tactic=>exact rfl))
theorem aMH (v:Va) (hF:1≤v.F∧v.F≤16):IntKind.i64.wrap (1*2^min v.F.toNat IntKind.i64.bits)=2^v.F.toNat∧IntKind.i64.wrap (2^v.F.toNat-1)=v.A∧0<v.A∧v.A<65536:=by
 obtain⟨f,hf⟩:∃ f:Nat,v.F=f:=⟨v.F.toNat,by omega⟩
 unfold Va.A
 rw[hf]at hF ⊢
 simp only[Int.toNat_natCast]
 have h1:=fS bH (i:=f) (by omega)
 have h2:(2:Nat)^f≤2^16:=Nat.pow_le_pow_right (by omega) (by omega)
 have h3:(2:Nat)^1≤2^f:=Nat.pow_le_pow_right (by omega) (by omega)
 have e:(2:Int)^f=((2^f:Nat):Int):=by norm_cast
 rw[h1,e]
 exact⟨rfl,aD (by omega) (by omega),by omega,by omega⟩
theorem aAX (v:Va):(btw 0 v.sick v.A=false∧sE v=2)∨(btw 0 v.sick v.A=true∧btw 0 v.nur v.A=false∧sE v=2)∨(btw 0 v.sick v.A=true∧btw 0 v.nur v.A=true∧btw 0 v.fix v.A=false∧sE v=2) ∨
 (btw 0 v.sick v.A=true∧btw 0 v.nur v.A=true∧btw 0 v.fix v.A=true∧sE v=0):=by
 unfold sE
 cases btw 0 v.sick v.A<;>cases btw 0 v.nur v.A<;>cases btw 0 v.fix v.A<;>simp
abbrev bx3 (v:Va):XH:=[some (.blk true (.cells true v.c)),some (.blk true (.cells true [I v.sick,I v.nur,I v.fix]))]
theorem aGt (v:Va) (hF:1≤v.F∧v.F≤16) {i:Nat} {s:Int} (hs:(i=0∧s=v.sick)∨(i=1∧s=v.nur)∨(i=2∧s=v.fix)) (h0:btw 0 s v.A=true) :
 aW 0 [1,69,70,71] (execW aA 23 0 none (match vG with | .loop _ a=>a|c=>c) (aV [1,69,70,71] [.pt 0 0,.sl 1 0 1 3,I 3,I (i:Nat)]) (bx3 v))=some ([.pt 0 0,.sl 1 0 1 3,I 3,I (i+1:Nat)],bx3 v):=by
 obtain⟨u1,u2,_,_⟩:=aMH v hF
 have e:=w45 0 s v.A
 have n0:(v.F<0)=False:=eq_false (by omega)
 rw[h0]at e
 rcases hs with ⟨rfl,rfl⟩|⟨rfl,rfl⟩|⟨rfl,rfl⟩
 all_goals
  unfold vG
  dsimp only
  (sym=>(simp[Za,Zb,Zf,Zg,Zh,Zj,Zl,Zm,Zv,Z3,Z4,Z7,Z9,ZG,ZO,ZP,ZT,ZU,ZX,Ya,Ye,Yi,Yj,Yo,Ys,Yz,Y0,Y1,Y8,Y9,YA,YB,YC,YD,YF,YU,Xa,Xb,Xp,Xq,Xu,Xv,X0,Wc,Wx,Wy,Wz,W6,W8,W9,WA,WC,WE,WG,WH,WI,WJ,WK,WL,WM,WN,WO,WP,WQ,WR,WU,WV,Vb,Ve,Vf,Vg,Vr,Vt,Vu,Vv,VM,VN,VO,VP,VQ,VR,VV,VW,VX,VY,VZ,Ub,Uc,Ud,Ug,Ul,Uq,Ut,Uu,Uy,Uz,U0,U1,U2,UZ,Ta,Te,Tm,Tn,Tq,Ts,Tt,Tw,Tz,T0,T1,TE,Sl,S4,S5,S7,S8,S9,SA,u1,u2,e,n0];all_goals tactic=>exact rfl))
theorem aJg (v:Va) (hF:1≤v.F∧v.F≤16) {i:Nat} {s:Int} (hs:(i=0∧s=v.sick)∨(i=1∧s=v.nur)∨(i=2∧s=v.fix)) (h0:btw 0 s v.A=false):∃ e h,
 execW aA 23 0 none (match vG with | .loop _ a=>a|c=>c) (aV [1,69,70,71] [.pt 0 0,.sl 1 0 1 3,I 3,I (i:Nat)]) (bx3 v)=some (.ret,e,h)∧bU none x23.res x23.ownR 0 (some (.ret,e,h))=some (I 2,[]):=by
 obtain⟨u1,u2,_,_⟩:=aMH v hF
 have e:=w45 0 s v.A
 have n0:(v.F<0)=False:=eq_false (by omega)
 rw[h0]at e
 rcases hs with ⟨rfl,rfl⟩|⟨rfl,rfl⟩|⟨rfl,rfl⟩
 all_goals
  refine dR ?_ ?_
  ·unfold vG
   dsimp only
   (sym=>(simp[Za,Zb,Zf,Zg,Zh,Zj,Zl,Zm,Zv,Z3,Z4,Z7,Z9,ZG,ZO,ZP,ZT,ZU,ZX,Ya,Ye,Yj,Yo,Ys,Y8,Y9,YA,YB,YC,YD,YF,YU,Xp,Xq,X0,Wc,Wx,Wy,Wz,W6,W8,WG,WJ,WL,WQ,WR,Ve,Vf,Vg,Vr,Vt,Vu,Vv,VM,VP,VQ,VT,VV,VW,VY,VZ,Uc,Ud,Um,Uq,Uu,Uy,Uz,U0,U1,U2,UZ,Ta,Te,Tm,Tn,Tp,Tq,Ts,Tt,Tv,Tx,T0,T1,Sl,S4,S5,S7,S8,S9,SA,u1,u2,e,n0];all_goals tactic=>exact rfl))
  ·unfold vG
   dsimp only
   (sym=>(simp[Za,Zb,Zf,Zg,Zh,Zj,Zl,Zm,Zv,Z3,Z4,Z7,Z9,ZG,ZO,ZP,ZT,ZU,ZX,Ya,Ye,Yj,Yo,Ys,Y8,Y9,YA,YB,YC,YD,YF,YU,Xp,Xq,X0,Wc,Wx,Wy,Wz,W6,W8,WG,WJ,WL,WQ,WR,Ve,Vf,Vg,Vr,Vt,Vu,Vv,V5,VB,VM,VP,VQ,VV,VW,VY,VZ,Uc,Ud,Um,Uq,Uu,Uy,Uz,U0,U1,U2,UZ,Ta,Te,Tm,Tn,Tp,Tq,Ts,Tt,Tv,Tx,T0,T1,Sl,S4,S5,S7,S8,S9,SA,u1,u2,e,n0];all_goals tactic=>exact rfl))
theorem w23 (v:Va) (hb:v.bs.length<1000000000) (hp:v.ps.length<1000000000):runW aA 23 [.agg v.c] []=some (I (vE v),[]):=by
 have e0:=w45 1 v.F 16
 rw[r23 (by simp)];unfold x23;dsimp only
 unfold vE
 cases hF:btw 1 v.F 16
 ·rw[hF]at e0
  rw[if_neg (by simp)]
  (sym=>(simp[Za,Zb,Zf,Zg,Zh,Zj,Zl,Zm,Zo,Zv,Zz,Z4,Z7,ZG,ZO,ZP,ZT,ZU,ZX,Ya,YU,Xg,Xi,Xj,Xp,Xq,X0,Wc,We,Wg,Wq,Wx,Wy,Wz,W6,W7,W8,WG,WJ,WK,WL,WM,WN,WO,WQ,WR,Ve,Vf,Vg,Vr,Vt,Vu,Vw,Vx,Vz,V5,V6,V8,V9,VA,VB,VC,VF,VG,VH,VI,VK,VP,VQ,VU,VV,VW,VY,VZ,Ub,Uc,Ud,Ui,Um,Uy,Uz,U0,U1,U2,U3,U4,U9,UA,UK,UL,UZ,Ta,Te,Th,Tn,Tp,Ts,Tt,Tv,Tx,T0,T1,Sl,S4,S5,S6,S8,S9,SA,e0];all_goals tactic=>exact rfl))
 ·rw[hF]at e0
  rw[if_pos rfl]
  have hF':=mG.1 hF
  unfold bsE
  by_cases h60:60<v.bs.length
  ·rw[if_pos h60,if_neg (by decide)]
   have c60:((60:Int)<(v.bs.length:Int))=True:=eq_true (by omega)
   (sym=>(simp[Za,Zb,Zf,Zg,Zh,Zj,Zl,Zm,Zo,Zv,Zz,Z3,Z4,Z7,ZF,ZG,ZO,ZP,ZT,ZU,ZX,Ya,Yb,Yu,YU,Xg,Xi,Xj,Xp,Xq,X0,Wc,We,Wg,Wq,Wx,Wy,Wz,W6,W7,W8,WG,WJ,WK,WL,WM,WN,WO,WQ,WR,Ve,Vf,Vg,Vr,Vt,Vu,Vw,Vx,Vz,V5,V6,V8,V9,VA,VB,VC,VF,VG,VH,VI,VK,VP,VQ,VR,VV,VW,VY,VZ,Ub,Uc,Ud,Ue,Ui,Ul,Uu,Uy,Uz,U0,U1,U2,U3,U4,U9,UA,UK,UL,UZ,Ta,Te,Th,Tm,Tn,Tp,Ts,Tt,Tv,Tx,T0,T1,Sl,S4,S5,S6,S8,S9,SA,e0,c60];all_goals tactic=>exact rfl))
  ·rw[if_neg h60]
   have g60:((60:Int)<(v.bs.length:Int))=False:=eq_false (by omega)
   have z:=UY (n:=(v.bs.length:Int))
   obtain⟨m,m1,m2,m3⟩:=dJ (bE v) v.bs.length
   rcases m3 with ⟨rfl,e⟩|⟨m3,m4,e⟩
   ·rw[e, if_pos rfl]
    unfold psE
    by_cases h20:20<v.ps.length
    ·rw[if_pos h20,if_neg (by decide)]
     have c20:((20:Int)<(v.ps.length:Int))=True:=eq_true (by omega)
     sym =>
      simp[Za,Zb,Zf,Zg,Zh,Zj,Zl,Zm,Zo,Zv,Zz,Z3,Z4,Z7,ZF,ZG,ZO,ZP,ZT,ZU,ZX,Ya,Yb,Yu,YU,Xg,Xi,Xj,Xp,Xq,Wc,We,Wg,Wq,Wx,Wy,Wz,W6,W7,W8,WG,WJ,WL,WQ,WR,Ve,Vf,Vg,Vr,Vt,Vu,Vw,Vx,Vz,VK,VP,VR,VV,VW,VY,VZ,Uc,Ud,Ue,Ui,Ul,Uv,Uy,Uz,U0,U1,U2,U3,U4,U9,UA,UK,UL,UZ,Ta,Te,Th,Tm,Tn,Tq,Ts,Tt,Tw,T0,T1,S4,S5,S6,S8,S9,SA,e0,g60]
      tactic =>
       unfold qG
       rw[aE v.bs.length (fun i=>[.pt 0 0,rB v.bs,I v.bs.length,I (i:Nat)]) (fun _=>bx v)]
       ·(sym=>(simp[Za,Zb,Zf,Zh,Zl,Zm,Zv,Z3,Z7,ZF,ZG,Ya,Yb,Ys,Yu,YU,Xp,X0,Wc,Wx,Wy,Wz,W8,WG,WK,WM,WN,WO,Vr,V5,V6,V8,V9,VA,VB,VC,VF,VG,VH,VI,VM,VP,VQ,VR,VW,VZ,Ub,Ue,Uu,Uv,Uz,U0,UY,UZ,Ta,Te,Tm,Tn,Tp,Tr,Tt,Tu,Tv,Ty,T0,T1,Sl,z,c20];all_goals tactic=>exact rfl))
       ·(sym=>(simp[Za,Y9,YU,YZ,Xb,Xp,Xt,Xv,Wx,W9,WC,WE,WG,WH,WI,WK,WM,WN,WO,WP,WU,WV,Vb,VN,VO,VV,VW,VY,VZ,Ub,Ug,Ut,Uz,U0,U1,U2,Tz,TE];all_goals tactic=>exact rfl))
       ·exact fun i hi=>vT v hF' hb hi (m2 i hi)
       ·(sym=>(simp[Za,Zb,Zf,Zh,Zl,Zm,Z3,Ys,VM,VP,VR,VS,Uv,UY,Tm,Tn,Tr,Tt,Tu,T0,z];all_goals tactic=>exact rfl))
    ·rw[if_neg h20]
     have g20:((20:Int)<(v.ps.length:Int))=False:=eq_false (by omega)
     have z2:=UY (n:=(v.ps.length:Int))
     obtain⟨k,k1,k2,k3⟩:=dJ (pE v) v.ps.length
     sym =>
      simp[Za,Zb,Zf,Zg,Zh,Zj,Zl,Zm,Zo,Zv,Zz,Z3,Z4,Z7,ZF,ZG,ZO,ZP,ZT,ZU,ZX,Ya,Yb,Yu,YU,Xg,Xi,Xj,Xp,Xq,Wc,We,Wg,Wq,Wx,Wy,Wz,W6,W7,W8,WG,WJ,WL,WQ,WR,Ve,Vf,Vg,Vr,Vt,Vu,Vw,Vx,Vz,VK,VP,VR,VU,VV,VW,VY,VZ,Uc,Ud,Ue,Ui,Ul,Uv,Uy,Uz,U0,U1,U2,U3,U4,U9,UA,UK,UL,UZ,Ta,Te,Th,Tm,Tn,Tq,Ts,Tt,Tw,T0,T1,S4,S5,S6,S8,S9,SA,e0,g60]
      tactic =>
       unfold qG
       rw[aE v.bs.length (fun i=>[.pt 0 0,rB v.bs,I v.bs.length,I (i:Nat)]) (fun _=>bx v)]
       ·sym =>
        simp[Za,Zb,Zf,Zh,Zl,Zm,Zv,Z3,Z7,ZF,ZG,Ya,Yb,Ys,Yu,Wx,Wy,Wz,W8,VM,VP,VR,Ue,Uv,UY,UZ,Ta,Te,Tm,Tn,Tq,Tr,Ts,Tt,Tu,Ty,T0,T1,z,g20]
        tactic =>
         rcases k3 with ⟨rfl,e3⟩|⟨k3,k4,e3⟩
         ·rw[e3, if_pos rfl]
          unfold oU
          rw[aE v.ps.length (fun i=>[.pt 0 0,rP v.ps,I v.ps.length,I (i:Nat)]) (fun _=>bx v)]
          ·sym =>
           simp[Za,Zb,Zd,Ze,Zf,Zg,Zh,Zj,Zl,Zm,Zo,Zv,Z1,Z3,Z7,ZF,ZG,Ya,Yc,Ys,YF,Xg,Wo,Wx,Wy,Wz,W3,W5,W6,W8,Vr,Vt,Vu,Vw,Vx,Vz,VM,VP,VR,VV,VW,VX,VY,VZ,Uc,Ud,Ui,Uq,Uv,Uw,Ux,U3,U4,UB,UC,UD,UE,UM,UN,UO,UP,UY,UZ,Ta,Te,Th,Tm,Tn,Tr,Ts,Tt,Tu,Ty,T0,T1,TM,S4,S5,S6,S8,S9,SA,z2]
           tactic =>
            have lf:=fun i s hs h0=>aJg v hF' (i:=i) (s:=s) hs h0
            have rd:=fun i s hs h0=>aGt v hF' (i:=i) (s:=s) hs h0
            unfold vG at lf rd ⊢
            dsimp only at lf rd
            rcases aAX v with ⟨h1,h⟩|⟨h1,h2,h⟩|⟨h1,h2,h3,h⟩|⟨h1,h2,h3,h⟩
            ·rw[h]
             obtain⟨eo,ho,q1,q2⟩:=lf 0 v.sick (by simp) h1
             rw[aE 0 (fun i=>[.pt 0 0,.sl 1 0 1 3,I 3,I (i:Nat)]) (fun _=>bx3 v)]
             ·rw[q1];exact q2
             ·(sym=>(simp[Za,Y9,YU,Xa,Xb,Xp,Xu,Xv,Wx,W9,WA,WC,WE,WG,WH,WI,WK,WM,WN,WO,WP,WU,WV,Vb,VM,VN,VO,VV,VW,VX,VY,VZ,Ub,Ug,Ut,Uz,U0,U1,U2,Tz,TE];all_goals tactic=>exact rfl))
             ·intro i hi;omega
             ·rw[q1];rfl
            ·rw[h]
             obtain⟨eo,ho,q1,q2⟩:=lf 1 v.nur (by simp) h2
             rw[aE 1 (fun i=>[.pt 0 0,.sl 1 0 1 3,I 3,I (i:Nat)]) (fun _=>bx3 v)]
             ·rw[q1];exact q2
             ·(sym=>(simp[Za,Y9,YU,Xa,Xb,Xp,Xu,Xv,Wx,W9,WA,WC,WE,WG,WH,WI,WK,WM,WN,WO,WP,WU,WV,Vb,VM,VN,VO,VV,VW,VX,VY,VZ,Ub,Ug,Ut,Uz,U0,U1,U2,Tz,TE];all_goals tactic=>exact rfl))
             ·intro i hi
              obtain rfl:i=0:=by omega
              exact rd 0 v.sick (by simp) h1
             ·rw[q1];rfl
            ·rw[h]
             obtain⟨eo,ho,q1,q2⟩:=lf 2 v.fix (by simp) h3
             rw[aE 2 (fun i=>[.pt 0 0,.sl 1 0 1 3,I 3,I (i:Nat)]) (fun _=>bx3 v)]
             ·rw[q1];exact q2
             ·(sym=>(simp[Za,Y9,YU,Xa,Xb,Xp,Xu,Xv,Wx,W9,WA,WC,WE,WG,WH,WI,WK,WM,WN,WO,WP,WU,WV,Vb,VM,VN,VO,VV,VW,VX,VY,VZ,Ub,Ug,Ut,Uz,U0,U1,U2,Tz,TE];all_goals tactic=>exact rfl))
             ·intro i hi
              have:i=0∨i=1:=by omega
              rcases this with rfl|rfl
              ·exact rd 0 v.sick (by simp) h1
              ·exact rd 1 v.nur (by simp) h2
             ·rw[q1];rfl
            ·rw[h]
             rw[aE 3 (fun i=>[.pt 0 0,.sl 1 0 1 3,I 3,I (i:Nat)]) (fun _=>bx3 v)]
             ·(sym=>(simp[Za,Zb,Zf,Zh,Zl,Zm,Zv,Z3,Ys,YF,YU,Xp,X0,Wc,WG,WK,WM,WN,WO,Vr,V5,V6,V8,V9,VA,VB,VC,VF,VG,VH,VI,VM,VP,VR,VW,VZ,Ub,Uv,Uz,U0,Tm,Tn,Tp,Tr,Tt,Tu,Ty,T0,T1,Sl];all_goals tactic=>exact rfl))
             ·(sym=>(simp[Za,Y9,YU,Xa,Xb,Xp,Xu,Xv,Wx,W9,WA,WC,WE,WG,WH,WI,WK,WM,WN,WO,WP,WU,WV,Vb,VM,VN,VO,VV,VW,VX,VY,VZ,Ub,Ug,Ut,Uz,U0,U1,U2,Tz,TE];all_goals tactic=>exact rfl))
             ·intro i hi
              have:i=0∨i=1∨i=2:=by omega
              rcases this with rfl|rfl|rfl
              ·exact rd 0 v.sick (by simp) h1
              ·exact rd 1 v.nur (by simp) h2
              ·exact rd 2 v.fix (by simp) h3
             ·(sym=>(simp[Za,Zb,Zf,Zh,Zl,Zm,Z3,Ys,YF,VM,VP,VR,VS,Uv,Tm,Tn,Tr,Tt,Tu,T0];all_goals tactic=>exact rfl))
          ·(sym=>(simp[Za,Y9,YU,YZ,Xb,Xp,Xt,Xv,Wx,W9,WC,WE,WG,WH,WI,WK,WM,WN,WO,WP,WU,WV,Vb,VM,VN,VO,VV,VW,VY,VZ,Ub,Ug,Ut,Uz,U0,U1,U2,Tz,TE];all_goals tactic=>exact rfl))
          ·exact fun i hi=>aBk v hF' hp hi (k2 i hi)
          ·(sym=>(simp[Za,Zb,Zf,Zh,Zl,Zm,Z3,Ys,VM,VP,VR,VS,Uv,UY,Tm,Tn,Tr,Tt,Tu,T0,z2];all_goals tactic=>exact rfl))
         ·rw[e3,if_neg k4]
          obtain⟨eo,ho,q1,q2⟩:=aJh v hF' k3 k4
          unfold oU at q1 ⊢
          rw[aE k (fun i=>[.pt 0 0,rP v.ps,I v.ps.length,I (i:Nat)]) (fun _=>bx v)]
          ·dsimp only at q1;rw[q1];exact q2
          ·(sym=>(simp[Za,Y9,YU,YZ,Xb,Xp,Xt,Xv,Wx,W9,WC,WE,WG,WH,WI,WK,WM,WN,WO,WP,WU,WV,Vb,VM,VN,VO,VV,VW,VY,VZ,Ub,Ug,Ut,Uz,U0,U1,U2,Tz,TE];all_goals tactic=>exact rfl))
          ·exact fun i hi=>aBk v hF' hp (by omega) (k2 i hi)
          ·dsimp only at q1;rw[q1];rfl
       ·(sym=>(simp[Za,Y9,YU,YZ,Xb,Xp,Xt,Xv,Wx,W9,WC,WE,WG,WH,WI,WK,WM,WN,WO,WP,WU,WV,Vb,VN,VO,VV,VW,VY,VZ,Ub,Ug,Ut,Uz,U0,U1,U2,Tz,TE];all_goals tactic=>exact rfl))
       ·exact fun i hi=>vT v hF' hb hi (m2 i hi)
       ·(sym=>(simp[Za,Zb,Zf,Zh,Zl,Zm,Z3,Ys,VM,VP,VR,VS,Uv,UY,Tm,Tn,Tr,Tt,Tu,T0,z];all_goals tactic=>exact rfl))
   ·rw[e,if_neg m4]
    obtain⟨eo,ho,q1,q2⟩:=aJi v hF' m3 m4
    sym =>
     simp[Za,Zb,Zf,Zg,Zh,Zj,Zl,Zm,Zo,Zv,Zz,Z3,Z4,Z7,ZF,ZG,ZO,ZP,ZT,ZU,ZX,Ya,Yb,Yu,YU,Xg,Xi,Xj,Xp,Xq,Wc,We,Wg,Wq,Wx,Wy,Wz,W6,W7,W8,WG,WJ,WL,WQ,WR,Ve,Vf,Vg,Vr,Vt,Vu,Vw,Vx,Vz,VK,VP,VR,VU,VV,VW,VY,VZ,Uc,Ud,Ue,Ui,Ul,Uv,Uy,Uz,U0,U1,U2,U3,U4,U9,UA,UK,UL,UZ,Ta,Te,Th,Tm,Tn,Tq,Ts,Tt,Tw,T0,T1,S4,S5,S6,S8,S9,SA,e0,g60]
     tactic =>
      unfold qG at q1 ⊢
      rw[aE m (fun i=>[.pt 0 0,rB v.bs,I v.bs.length,I (i:Nat)]) (fun _=>bx v)]
      ·dsimp only at q1;rw[q1];exact q2
      ·(sym=>(simp[Za,Y9,YU,YZ,Xb,Xp,Xt,Xv,Wx,W9,WC,WE,WG,WH,WI,WK,WM,WN,WO,WP,WU,WV,Vb,VN,VO,VV,VW,VY,VZ,Ub,Ug,Ut,Uz,U0,U1,U2,Tz,TE];all_goals tactic=>exact rfl))
      ·exact fun i hi=>vT v hF' hb (by omega) (m2 i hi)
      ·dsimp only at q1;rw[q1];rfl
structure Vn where
 F:Nat
 bs:List (Nat×Nat)
 ps:List (Nat×Nat×Nat)
 sick:Nat
 nur:Nat
 fix:Nat
abbrev bI (b:Nat×Nat):Int×Int:=(b.1,b.2)
abbrev pI (p:Nat×Nat×Nat):Int×Int×Int:=(p.1,p.2.1,p.2.2)
def Vn.v (x:Vn):Va:=⟨x.F,x.bs.map bI,x.ps.map pI,x.sick,x.nur,x.fix⟩
structure Vn.Ok (x:Vn):Prop where
 F1:1≤x.F
 F16:x.F≤16
 nb:x.bs.length≤60
 np:x.ps.length≤20
 b:∀ p∈x.bs,p.1<x.F∧p.2<x.F∧p.1≠p.2
 p:∀ p∈x.ps,p.1≤100∧p.2.1<x.F∧p.2.2<x.F∧p.2.1≠p.2.2
 s:x.sick<2^x.F
 n:x.nur<2^x.F
 f:x.fix<2^x.F
theorem uO {F a b:Int}:gR F a b=0↔(0≤a∧a<F)∧(0≤b∧b<F)∧a≠b:=by
 rcases tR F a b with ⟨h1,h⟩|⟨h1,h2,h⟩|⟨h1,h2,h3,h⟩|⟨h1,h2,h3,h⟩
 ·rw[h];simp[btw]at h1;constructor
  ·intro h;simp at h
  ·intro h;have:=h1 h.1.1;omega
 ·rw[h];simp[btw]at h2;constructor
  ·intro h;simp at h
  ·intro h;have:=h2 h.2.1.1;omega
 ·rw[h];constructor
  ·intro h;simp at h
  ·intro h;exact absurd (of_eq_true h3) h.2.2
 ·rw[h]
  have g1:=mG.1 h1
  have g2:=mG.1 h2
  have g3:=of_eq_false h3
  simp only[true_iff]
  exact⟨by omega,by omega,g3⟩
theorem uY {α β:Type} (f:α→β) (P:β→Prop) (hf:∀ b,P b→∃ a,f a=b):∀ l:List β,(∀ x∈l,P x)→∃ k:List α,k.map f=l
 | [],_=>⟨[],rfl⟩
 | x::l,h=>by
   obtain⟨a,ha⟩:=hf x (h x (by simp))
   obtain⟨k,hk⟩:=uY f P hf l fun y hy=>h y (by simp[hy])
   exact⟨a::k,by simp[ha,hk]⟩
theorem aNe {v:Va} (h:vE v=0):∃ x:Vn,x.Ok∧v=x.v:=by
 unfold vE at h
 cases hF:btw 1 v.F 16
 ·rw[hF]at h;simp at h
 rw[hF,if_pos rfl]at h
 have hF':=mG.1 hF
 by_cases hb:bsE v=0
 ·rw[if_pos hb]at h
  by_cases hp:psE v=0
  ·rw[if_pos hp]at h
   unfold bsE at hb
   unfold psE at hp
   by_cases h60:60<v.bs.length
   ·rw[if_pos h60]at hb;simp at hb
   rw[if_neg h60]at hb
   by_cases h20:20<v.ps.length
   ·rw[if_pos h20]at hp;simp at hp
   rw[if_neg h20]at hp
   have hb':∀ b∈v.bs,(0≤b.1∧b.1<v.F)∧(0≤b.2∧b.2<v.F)∧b.1≠b.2:=fun b hm=>by
    obtain⟨i,hi⟩:=List.getElem?_of_mem hm
    have:=eE hb i (fJ hi)
    unfold bE at this
    rw[aR hi]at this
    exact uO.1 this
   have hp':∀ p∈v.ps,(0≤p.1∧p.1≤100)∧(0≤p.2.1∧p.2.1<v.F)∧(0≤p.2.2∧p.2.2<v.F)∧p.2.1≠p.2.2:=fun p hm=>by
    obtain⟨i,hi⟩:=List.getElem?_of_mem hm
    have:=eE hp i (fJ hi)
    rcases qV v hi with ⟨g1,g2⟩|⟨g1,g2,_⟩|⟨g1,g2,g3⟩
    ·exact absurd (g2.symm.trans this) g1
    ·exact⟨mG.1 g2,uO.1 g1⟩
    ·rw[g3]at this;simp at this
   obtain⟨bs,hbs⟩:=uY bI (fun b=>0≤b.1∧0≤b.2) (fun b hh=>⟨(b.1.toNat,b.2.toNat),by
    obtain⟨b1,b2⟩:=b
    simp only[bI,Prod.mk.injEq]at hh ⊢
    omega⟩) v.bs fun b hm=>⟨(hb' b hm).1.1,(hb' b hm).2.1.1⟩
   obtain⟨ps,hps⟩:=uY pI (fun p=>0≤p.1∧0≤p.2.1∧0≤p.2.2) (fun p hh=>⟨(p.1.toNat,p.2.1.toNat,p.2.2.toNat),by
    obtain⟨p1,p2,p3⟩:=p
    simp only[pI,Prod.mk.injEq]at hh ⊢
    omega⟩) v.ps fun p hm=>⟨(hp' p hm).1.1,(hp' p hm).2.1.1,(hp' p hm).2.2.1.1⟩
   obtain⟨f,hf⟩:∃ f:Nat,v.F=f:=⟨v.F.toNat,by omega⟩
   have hA:v.A=((2^f-1:Nat):Int):=by
    unfold Va.A
    rw[hf]
    simp only[Int.toNat_natCast]
    have e:(2:Int)^f=((2^f:Nat):Int):=by norm_cast
    have:=Nat.two_pow_pos f
    rw[e];omega
   rcases aAX v with ⟨h1,hs⟩|⟨h1,h2,hs⟩|⟨h1,h2,h3,hs⟩|⟨h1,h2,h3,hs⟩
   ·rw[hs]at h;simp at h
   ·rw[hs]at h;simp at h
   ·rw[hs]at h;simp at h
   have g1:=mG.1 h1
   have g2:=mG.1 h2
   have g3:=mG.1 h3
   rw[hA]at g1 g2 g3
   have:=Nat.two_pow_pos f
   refine⟨⟨f,bs,ps,v.sick.toNat,v.nur.toNat,v.fix.toNat⟩,⟨by show 1≤f;omega,by show f≤16;omega,?_,?_,?_,?_,by show v.sick.toNat<2^f;omega,by show v.nur.toNat<2^f;omega,by show v.fix.toNat<2^f;omega⟩,?_⟩
   ·have:=congrArg List.length hbs
    simp only[List.length_map]at this
    show bs.length≤60
    omega
   ·have:=congrArg List.length hps
    simp only[List.length_map]at this
    show ps.length≤20
    omega
   ·intro b hm
    have:=hb' (bI b) (by rw[←hbs];exact List.mem_map_of_mem hm)
    rw[hf]at this
    simp only[bI]at this
    show b.1<f∧b.2<f∧b.1≠b.2
    omega
   ·intro p hm
    have:=hp' (pI p) (by rw[←hps];exact List.mem_map_of_mem hm)
    rw[hf]at this
    simp only[pI]at this
    show p.1≤100∧p.2.1<f∧p.2.2<f∧p.2.1≠p.2.2
    omega
   ·obtain⟨F,vb,vp,s,n,x⟩:=v
    simp only[Vn.v]at *
    rw[hbs,hps,hf]
    simp only[Va.mk.injEq,true_and]
    omega
  ·rw[if_neg hp]at h;exact absurd h hp
 ·rw[if_neg hb]at h;exact absurd h hb
abbrev Vn.c (x:Vn):List AV:=[I x.F,rB (x.bs.map bI),rP (x.ps.map pI),I x.sick,I x.nur,I x.fix]
def orB (s:Nat) (c:Bool) (k:Nat):Nat:=if c then s|||2^k else s
def brd (ill o:Nat) (b:Nat×Nat):Nat:=orB (orB o (ill.testBit b.1) b.2) (ill.testBit b.2) b.1
def plt (cl:Nat) (n:Int) (o:Nat) (p:Nat×Nat×Nat):Nat:=orB o (decide ((p.1:Int)=n)&&(o.testBit p.2.1 && !cl.testBit p.2.2)) p.2.2
def bor (x:Vn) (ill:Nat):Nat:=x.bs.foldl (brd ill) ill
def aIl (x:Vn) (ill cl:Nat) (n:Int):Nat:=x.ps.foldl (plt cl n) (gE (bor x ill) cl)
theorem aCw {s k n:Nat} {c:Bool} (hs:s<2^n) (hk:k<n):orB s c k<2^n:=by
 unfold orB
 split
 ·exact tS hs hk
 ·exact hs
theorem aLt {ill o n:Nat} {b:Nat×Nat} (ho:o<2^n) (h1:b.1<n) (h2:b.2<n):brd ill o b<2^n:=aCw (aCw ho h2) h1
theorem rG {α:Type} {f:Nat→α→Nat} {n:Nat}:∀ {l:List α} {o:Nat},(∀ x∈l,∀ o,o<2^n→f o x<2^n)→o<2^n→l.foldl f o<2^n
 | [],_,_,h=>h
 | x::l,o,hf,h=>rG (l:=l) (o:=f o x) (fun y hy=>hf y (by simp[hy])) (hf x (by simp) o h)
theorem iV {α β:Type} {f:β→α→β} {l:List α} {i:Nat} {x:α} (h:l[i]?=some x) (o:β):(l.take (i+1)).foldl f o=f ((l.take i).foldl f o) x:=by
 rw[List.take_add_one,h];simp
theorem aT {n:Nat} (h:n≤16):2^n≤65536:=Nat.pow_le_pow_right (n:=2) (by omega) h
section
variable {x:Vn} (ok:x.Ok) {ill cl:Nat} {n:Int}
abbrev uH (x:Vn):XH:=[some (.blk true (.cells true x.c))]
def bF (x:Vn) (ill i:Nat):Nat:=(x.bs.take i).foldl (brd ill) ill
include ok in
theorem aHN (hi:ill<2^x.F) (i:Nat):bF x ill i<2^x.F:=rG (fun b hb o ho=>by
 have:=ok.b b (List.mem_of_mem_take hb)
 exact aLt ho this.1 this.2.1) hi
include ok in
def pF (x:Vn) (cl:Nat) (n:Int) (o i:Nat):Nat:=(x.ps.take i).foldl (plt cl n) o
include ok in
theorem aJV {o:Nat} (ho:o<2^x.F) (i:Nat):pF x cl n o i<2^x.F:=rG (fun p hp o ho=>by
 have:=ok.p p (List.mem_of_mem_take hp)
 exact aCw ho this.2.2.1) ho
include ok in
end
def zH (a i:Nat):List Nat:=(List.range i).filter (a.testBit ·)
theorem aHq (a i:Nat):zH a (i+1)=if a.testBit i then zH a i++[i] else zH a i:=by
 unfold zH
 rw[List.range_succ,List.filter_append]
 cases h:a.testBit i<;>simp[h]
theorem aJv (a i:Nat):(zH a i).length≤i:=by
 have:=List.length_filter_le (fun k=>a.testBit k) (List.range i)
 simpa [zH]using this
theorem aAr (ks:List Nat) (k:Nat):cZ (ks++[k])=cZ ks++[(k:Int)]:=by simp[cZ]
def cB (x:Vn) (cl:Nat):Nat→Nat
 | 0=>gE x.sick cl
 | n+1=>aIl x (cB x cl n) cl (n:Int)
theorem sZ {a b n:Nat} (h:a<2^n):gE a b<2^n:=Nat.lt_of_le_of_lt (iC a b) h
theorem aIk {x:Vn} (ok:x.Ok) {ill cl:Nat} {n:Int} (h:ill<2^x.F):aIl x ill cl n<2^x.F:=by
 have h1:=aHN ok h x.bs.length
 have e1:bF x ill x.bs.length=bor x ill:=by unfold bF bor;rw[List.take_length]
 rw[e1]at h1
 have h2:=aJV (cl:=cl) (n:=n) ok (sZ (b:=cl) h1) x.ps.length
 unfold pF at h2
 rw[List.take_length]at h2
 exact h2
theorem jN {x:Vn} (ok:x.Ok) (cl:Nat):∀ n,cB x cl n<2^x.F
 | 0=>sZ ok.s
 | n+1=>aIk ok (jN ok cl n)
def prC (c:List Int):Nat→Int
 | 0 => -1
 | i+1=>c.getD i 0
def uG (x:Vn) (c:List Int) (i:Nat):Int:=if btw 0 (c.getD i 0) ((x.F:Int)-1) then (if c.getD i 0≤prC c i then 7 else if x.fix.testBit (c.getD i 0).toNat then 23 else 0) else 5
def jV (c:List Int) (i:Nat):Nat:=(c.take i).foldl (fun s f=>s|||2^f.toNat) 0
theorem aDD {c:List Int} {i:Nat} {f:Int} (h:c[i]?=some f):jV c (i+1)=jV c i|||2^f.toNat:=iV h 0
theorem pW (x:Vn) {c:List Int} {i:Nat} {f:Int} (h:c[i]?=some f):(btw 0 f ((x.F:Int)-1)=false∧uG x c i=5)∨(btw 0 f ((x.F:Int)-1)=true∧(f≤prC c i)=True∧uG x c i=7) ∨
 (btw 0 f ((x.F:Int)-1)=true∧(f≤prC c i)=False∧x.fix.testBit f.toNat=true∧uG x c i=23)∨(btw 0 f ((x.F:Int)-1)=true∧(f≤prC c i)=False∧x.fix.testBit f.toNat=false∧uG x c i=0):=by
 unfold uG
 rw[aR h]
 cases btw 0 f ((x.F:Int)-1)
 ·simp
 by_cases h2:f≤prC c i
 ·simp[h2]
 cases x.fix.testBit f.toNat<;>simp[h2]
theorem aKA {c:List Int} {i:Nat} {f:Int} (h:c[i]?=some f):prC c (i+1)=f:=aR h
theorem aAi {x:Vn} {c:List Int}:∀ i,(∀ j,j<i→uG x c j=0)→i≤c.length→jV c i<2^x.F
 | 0,_,_=>Nat.two_pow_pos _
 | i+1,h,hl=>by
   obtain⟨f,hf⟩:=bM (l:=c) (i:=i) (by omega)
   have ih:=aAi i (fun j hj=>h j (by omega)) (by omega)
   have h0:=h i (by omega)
   rw[aDD hf]
   rcases pW x hf with ⟨_,e⟩|⟨_,_,e⟩|⟨_,_,_,e⟩|⟨h1,_,_,_⟩
   ·rw[e]at h0;simp at h0
   ·rw[e]at h0;simp at h0
   ·rw[e]at h0;simp at h0
   ·have:=mG.1 h1
    exact tS ih (by omega)
section
variable {x:Vn} (ok:x.Ok) {c:List Int} (hc:c.length<1000000000)
include ok hc in
theorem aDJ {i:Nat} (hi:i<c.length) (h0:∀ j,j≤i→uG x c j=0) :
 aW 0 [2,7,8,16,17,18] (execW aA 54 0 none (match mI with | .loop _ a=>a|c=>c) (aV [2,7,8,16,17,18] [.pt 0 0,I (jV c i:Nat),I (prC c i),nL c,I c.length,I (i:Nat)]) (uH x))=some ([.pt 0 0,I (jV c (i+1):Nat),I (prC c (i+1)),nL c,I c.length,I (i+1:Nat)],uH x):=by
 obtain⟨f,hf⟩:=bM hi
 have a1:=dH hi
 have a2:=dN hi (by omega)
 have hF:=ok.F16
 have hF1:=ok.F1
 have hp:=aT hF
 have u:IntKind.i64.wrap ((x.F:Int)-1)=(x.F:Int)-1:=aD (by omega) (by omega)
 have e1:=w45 0 f ((x.F:Int)-1)
 have sl:=aAi (x:=x) i (fun j hj=>h0 j (by omega)) (by omega)
 rcases pW x hf with ⟨_,e⟩|⟨_,_,e⟩|⟨_,_,_,e⟩|⟨h1,h2,h3,_⟩
 ·rw[h0 i (by omega)]at e;simp at e
 ·rw[h0 i (by omega)]at e;simp at e
 ·rw[h0 i (by omega)]at e;simp at e
 rw[h1]at e1
 have hb:=mG.1 h1
 rw[aDD hf,aKA hf]
 obtain⟨k,rfl⟩:∃ k:Nat,f=k:=⟨f.toNat,by omega⟩
 simp only[Int.toNat_natCast]at h3 ⊢
 have e2:=oO (a:=x.fix) (j:=k) (by have:=ok.f;omega) (by omega)
 rw[h3]at e2
 have e3:=w62 (j:=k) (by omega)
 have p1:(2:Nat)^k≤2^16:=Nat.pow_le_pow_right (by omega) (by omega)
 have o1:=cT bH (a:=jV c i) (b:=2^k) (by omega) (by omega)
 generalize jV c i=q at *
 generalize 2^k=q1 at *
 generalize prC c i=pr at *
 unfold mI
 dsimp only
 (sym=>(simp[Za,Zb,Zf,Zg,Zh,Zj,Zl,Zm,Zv,Z3,Z4,Z7,Z9,ZG,ZO,ZP,ZT,ZU,ZX,Ya,Yf,Yg,Yi,Yj,Ym,Ys,Yt,Yw,Yx,YU,YZ,Xb,Xp,Xq,Xt,Xv,Wx,Wy,Wz,W6,W8,W9,WC,WE,WG,WH,WI,WJ,WK,WL,WM,WN,WO,WP,WQ,WR,WU,WV,Vb,Ve,Vf,Vg,Vr,Vt,Vu,Vw,Vx,Vz,VM,VN,VO,VP,VQ,VR,VV,VW,VY,VZ,Ub,Uc,Ud,Ue,Uf,Ug,Ul,Uq,Ut,Uu,Uv,Uy,Uz,U0,U1,U2,UZ,Ta,Tb,Tc,Te,Tm,Tn,Tq,Ts,Tt,Tw,Tz,T0,T1,TE,S4,S5,S6,S8,S9,SA,a1,a2,hf,u,e1,e2,e3,h2,o1];all_goals tactic=>exact rfl))
include ok in
theorem aKQ {i:Nat} (hi:i<c.length) (h0:uG x c i≠0) (q:Nat):∃ e h,
 execW aA 54 0 none (match mI with | .loop _ a=>a|c=>c) (aV [2,7,8,16,17,18] [.pt 0 0,I q,I (prC c i),nL c,I c.length,I (i:Nat)]) (uH x)=some (.ret,e,h)∧bU none x54.res x54.ownR 0 (some (.ret,e,h))=some (.tup [I 0,I (uG x c i)],[]):=by
 obtain⟨f,hf⟩:=bM hi
 have a1:=dH hi
 have hF:=ok.F16
 have hF1:=ok.F1
 have hp:=aT hF
 have u:IntKind.i64.wrap ((x.F:Int)-1)=(x.F:Int)-1:=aD (by omega) (by omega)
 have e1:=w45 0 f ((x.F:Int)-1)
 rcases pW x hf with ⟨h1,e⟩|⟨h1,h2,e⟩|⟨h1,h2,h3,e⟩|⟨h1,h2,h3,e⟩
 ·rw[e];rw[h1]at e1
  refine dR ?_ ?_
  ·unfold mI;dsimp only; (sym=>(simp[Za,Zb,Zf,Zh,Zl,Zm,Zv,Z3,Z4,Z7,Z9,ZG,ZO,ZP,ZT,ZU,ZX,Ya,Yf,Yg,Yj,Ys,Yw,Yx,YU,Xp,Xq,Wx,Wy,Wz,W6,W8,WG,WJ,WL,WQ,WR,Ve,Vf,Vg,VM,VP,VQ,VT,VV,VW,VY,VZ,Uc,Ud,Ue,Uf,Ug,Um,Uq,Uu,Uy,Uz,U0,U1,U2,UZ,Ta,Tb,Tc,Te,Tm,Tn,Tp,Tq,Ts,Tt,Tv,Tx,T0,T1,a1,hf,u,e1];all_goals tactic=>exact rfl))
  ·unfold mI;dsimp only; (sym=>(simp[Za,Zb,Zf,Zh,Zl,Zm,Zv,Z3,Z4,Z7,Z9,ZG,ZO,ZP,ZT,ZU,ZX,Ya,Yf,Yg,Yj,Ys,Yw,Yx,YU,Xp,Xq,Wx,Wy,Wz,W6,W8,WG,WJ,WL,WQ,WR,Ve,Vf,Vg,V5,VB,VM,VP,VQ,VV,VW,VY,VZ,Uc,Ud,Ue,Uf,Ug,Um,Uq,Uu,Uy,Uz,U0,U1,U2,UZ,Ta,Tb,Tc,Te,Tm,Tn,Tp,Tq,Ts,Tt,Tv,Tx,T0,T1,a1,hf,u,e1];all_goals tactic=>exact rfl))
 ·rw[e];rw[h1]at e1
  generalize prC c i=pr at *
  refine dR ?_ ?_
  ·unfold mI;dsimp only; (sym=>(simp[Za,Zb,Zf,Zh,Zl,Zm,Zv,Z3,Z4,Z7,Z9,ZG,ZO,ZP,ZT,ZU,ZX,Ya,Yf,Yg,Yj,Ys,Yt,Yw,Yx,YU,Xp,Xq,Wx,Wy,Wz,W6,W8,WG,WJ,WL,WQ,WR,Ve,Vf,Vg,VM,VP,VQ,VR,VT,VV,VW,VY,VZ,Uc,Ud,Ue,Uf,Ug,Ul,Uq,Uu,Uy,Uz,U0,U1,U2,UZ,Ta,Tb,Tc,Te,Tm,Tn,Tp,Tq,Ts,Tt,Tv,Tx,T0,T1,a1,hf,u,e1,h2];all_goals tactic=>exact rfl))
  ·unfold mI;dsimp only; (sym=>(simp[Za,Zb,Zf,Zh,Zl,Zm,Zv,Z3,Z4,Z7,Z9,ZG,ZO,ZP,ZT,ZU,ZX,Ya,Yf,Yg,Yj,Ys,Yt,Yw,Yx,YU,Xp,Xq,Wx,Wy,Wz,W6,W8,WG,WJ,WL,WQ,WR,Ve,Vf,Vg,V5,VB,VM,VP,VQ,VR,VV,VW,VY,VZ,Uc,Ud,Ue,Uf,Ug,Ul,Uq,Uu,Uy,Uz,U0,U1,U2,UZ,Ta,Tb,Tc,Te,Tm,Tn,Tp,Tq,Ts,Tt,Tv,Tx,T0,T1,a1,hf,u,e1,h2];all_goals tactic=>exact rfl))
 ·rw[e];rw[h1]at e1
  have hb:=mG.1 h1
  obtain⟨k,rfl⟩:∃ k:Nat,f=k:=⟨f.toNat,by omega⟩
  simp only[Int.toNat_natCast]at h3
  have e2:=oO (a:=x.fix) (j:=k) (by have:=ok.f;omega) (by omega)
  rw[h3]at e2
  generalize prC c i=pr at *
  refine dR ?_ ?_
  ·unfold mI;dsimp only; (sym=>(simp[Za,Zb,Zf,Zg,Zh,Zj,Zl,Zm,Zv,Z3,Z4,Z7,Z9,ZG,ZO,ZP,ZT,ZU,ZX,Ya,Yf,Yg,Yj,Ys,Yt,Yw,Yx,YU,Xp,Xq,Wx,Wy,Wz,W6,W8,WG,WJ,WL,WQ,WR,Ve,Vf,Vg,Vr,Vt,Vu,Vw,Vx,Vz,VM,VP,VQ,VR,VT,VV,VW,VY,VZ,Uc,Ud,Ue,Uf,Ug,Ul,Uq,Uu,Uv,Uy,Uz,U0,U1,U2,UZ,Ta,Tb,Tc,Te,Tm,Tn,Tp,Tq,Ts,Tt,Tv,Tx,T0,T1,S4,S5,S6,S8,S9,SA,a1,hf,u,e1,h2,e2];all_goals tactic=>exact rfl))
  ·unfold mI;dsimp only; (sym=>(simp[Za,Zb,Zf,Zg,Zh,Zj,Zl,Zm,Zv,Z3,Z4,Z7,Z9,ZG,ZO,ZP,ZT,ZU,ZX,Ya,Yf,Yg,Yj,Ys,Yt,Yw,Yx,YU,Xp,Xq,Wx,Wy,Wz,W6,W8,WG,WJ,WL,WQ,WR,Ve,Vf,Vg,Vr,Vt,Vu,Vw,Vx,Vz,V5,VB,VM,VP,VQ,VR,VV,VW,VY,VZ,Uc,Ud,Ue,Uf,Ug,Ul,Uq,Uu,Uv,Uy,Uz,U0,U1,U2,UZ,Ta,Tb,Tc,Te,Tm,Tn,Tp,Tq,Ts,Tt,Tv,Tx,T0,T1,S4,S5,S6,S8,S9,SA,a1,hf,u,e1,h2,e2];all_goals tactic=>exact rfl))
 ·exact absurd e h0
end
abbrev aBM (x:Vn) (c:List Int):Int:=cG (uG x c) c.length
theorem aMX {x:Vn} (ok:x.Ok) {c:List Int} (hc:c.length<1000000000) (h23:runW aA 23 [.agg x.c] []=some (I 0,[])) :
 runW aA 54 [.agg x.c,nL c] []=some (.tup (if aBM x c=0 then [I (jV c c.length:Nat),I 0] else [I 0,I (aBM x c)]),[]):=by
 have z:=UY (n:=(c.length:Int))
 have p0:prC c 0 = -1:=rfl
 have s0:jV c 0=0:=rfl
 obtain⟨m,m1,m2,m3⟩:=dJ (uG x c) c.length
 rw[r54 (by simp)];unfold x54;dsimp only
 sym =>
  simp[Za,Zb,Zf,Zg,Zh,Zj,Zl,Zm,Zo,Zv,Zz,Z3,ZF,ZG,ZO,ZP,ZT,ZU,Yb,Yr,YU,YX,YZ,Xg,Xi,Xj,Xp,Xr,Xt,Wc,We,Wg,Wq,Wx,Wy,Wz,W3,W4,W5,W6,W7,WG,WJ,WL,WQ,WR,Ve,Vf,Vg,Vr,Vt,Vu,Vw,Vx,Vz,VK,VP,VR,VU,VV,VW,VY,VZ,Uc,Ud,Ue,Ui,Ul,Uu,Uy,Uz,U0,U1,U2,U3,U4,U9,UA,UK,UL,UZ,Ta,Td,Th,Tm,Tn,Tq,Ts,Tt,T0,T1,S4,S5,S6,S8,S9,SA,h23]
  tactic =>
   rcases m3 with ⟨rfl,e⟩|⟨m3,m4,e⟩
   ·rw[if_pos e]
    unfold mI
    rw[aE c.length (fun i=>[.pt 0 0,I (jV c i:Nat),I (prC c i),nL c,I c.length,I (i:Nat)]) (fun _=>uH x)]
    ·generalize jV c c.length=q at *
     generalize prC c c.length=pr at *
     (sym=>(simp[Za,Zb,Zf,Zh,Zl,Zm,Zv,Z3,Ys,YU,YY,Xp,Xs,X0,XK,Wc,Wf,WG,WK,WM,WN,WO,Vr,V5,V6,V8,V9,VA,VB,VE,VF,VG,VH,VI,VM,VP,VR,VW,VZ,Ub,Uv,Uz,U0,U1,U2,U5,U6,U9,UA,UY,Tm,Tn,Tp,Tr,Tt,Tu,Ty,T0,T1,Sl,z];all_goals tactic=>exact rfl))
    ·rw[p0,s0]; (sym=>(simp[Za,Y9,YU,YZ,Xb,Xp,Xt,Xv,Wx,W9,WC,WE,WG,WH,WI,WK,WM,WN,WO,WP,WU,WV,Vb,VN,VO,VV,VW,VY,VZ,Ub,Ug,Ut,Uz,U0,U1,U2,Tz,TE];all_goals tactic=>exact rfl))
    ·exact fun i hi=>aDJ ok hc hi fun j hj=>m2 j (by omega)
    ·generalize jV c c.length=q at *
     generalize prC c c.length=pr at *
     (sym=>(simp[Za,Zb,Zf,Zh,Zl,Zm,Z3,Ys,VM,VP,VR,VS,Uv,UY,Tm,Tn,Tr,Tt,Tu,T0,z];all_goals tactic=>exact rfl))
   ·rw[if_neg (by rw[e];exact m4),e]
    obtain⟨eo,ho,q1,q2⟩:=aKQ ok m3 m4 (jV c m)
    unfold mI at q1 ⊢
    rw[aE m (fun i=>[.pt 0 0,I (jV c i:Nat),I (prC c i),nL c,I c.length,I (i:Nat)]) (fun _=>uH x)]
    ·dsimp only at q1;rw[q1];exact q2
    ·rw[p0,s0]; (sym=>(simp[Za,Y9,YU,YZ,Xb,Xp,Xt,Xv,Wx,W9,WC,WE,WG,WH,WI,WK,WM,WN,WO,WP,WU,WV,Vb,VN,VO,VV,VW,VY,VZ,Ub,Ug,Ut,Uz,U0,U1,U2,Tz,TE];all_goals tactic=>exact rfl))
    ·exact fun i hi=>aDJ ok hc (by omega) fun j hj=>m2 j (by omega)
    ·dsimp only at q1;rw[q1];rfl
section
variable {x:Vn} (ok:x.Ok) {c:List Int} (hc:c.length<1000000000)
include ok hc in
end
abbrev aCo (L:List (Nat×Nat)):List (AV×AV):=L.map fun p=>(.nilifc,.agg [I p.1,I p.2])
abbrev chO (L:List (Nat×Nat)):Option XB:=some (.blk true (.map true ((.agg [.agg []],.fp [] 16 0)::aCo L)))
abbrev gS (L:List (Nat×Nat)):XH:=[some (.loop 77 0 [.pt 1 0] .ready),some (.blk false (.cells true [.ch 2])),chO L]
theorem aMp (L:List (Nat×Nat)):aFh 3 (gS L):=by
 refine⟨fun _=>rfl,fun _ _=>rfl,fun _=>rfl,?_,?_⟩
 ·intro a e h0 h1
  (sym=>(simp[Xb,Xf,Xv,Xz,W9,WE,WG,WI,WK,WL,WM,WN,WO,WU,WV,WW,WX,WZ,Vb,Vc,Vd,VN,VO,VV,VW,VX,VY,VZ,Ua,Ub,Ut,Uy,Uz,U0,U1,U2,Tz,SY,Ra,h0,h1];all_goals tactic=>exact rfl))
 ·intro a
  (sym=>(simp[Za,YY,Xb,Xs,Xv,XK,Wf,W9,WE,WG,WI,WK,WL,WM,WN,WO,WU,WV,WW,WX,WZ,Vb,Vc,Vd,Vr,V8,V9,VA,VV,VW,VX,VY,VZ,Ua,Ub,Ut,Uy,Uz,U0,U1,U2,U5,U9,Sl,SY,Ra];all_goals tactic=>exact rfl))
theorem yS (v:Nat) (L:List (Nat×Nat)) (hl:L.length<16):Yd (gS L) (gS (L++[(v,0)])) v true:=by
 have b1:(L.length<16)=True:=eq_true hl
 have y:runYW aA (.fn (.yield 0) [] []) [I (v:Nat)] (gS L)=some (.bool true,gS (L++[(v,0)])):=by
  rw[jW (K:=77) (d:=x77) (site:=0) (vs:=[.pt 1 0]) rfl rfl (by rfl) rfl]
  (sym=>(simp[Za,Zb,Zc,Zd,Ze,Zf,Zh,Zl,Zm,Zv,Z0,ZG,ZK,Y9,YQ,YV,Xb,Xg,Xi,Xq,Xv,Wo,Wx,Wy,Wz,W0,W3,W5,W6,W8,W9,WE,WG,WI,WK,WL,WM,WN,WO,WU,WV,WW,WX,WZ,Vb,Vc,Vd,V7,VA,VM,VV,VW,VX,VY,VZ,Ua,Ub,Uc,Ud,Ue,Ui,Uq,Ut,Uy,Uz,U0,U1,U2,U3,U4,UB,UC,UD,UE,UI,UJ,UZ,Ta,Te,Ts,Tw,T0,T1,TA,TT,TU,TV,TW,Se,Sf,Sg,Si,SE,SK,SL,SY,Ra,b1];all_goals tactic=>exact rfl))
 intro a
 (sym=>(simp[Zd,Ze,Y9,YU,Xb,Xf,Xp,Xq,Xv,Xz,Wx,W0,W5,W6,W8,W9,WA,WB,WC,WF,WG,WH,WI,WJ,WL,WM,WQ,WR,WS,WU,WV,WW,WX,Vb,Vc,Vd,Ve,Vf,Vg,Vh,VV,VW,VX,VY,VZ,Uc,Ud,Ug,Ut,Uy,Uz,U0,U1,U2,TA,Sd,SY,Ra,y];all_goals tactic=>exact rfl))
theorem aMi {D:Nat→Option XFn} {K k:Nat} {rd:Option Nat} {L:List Nat} {a:XCode} {e:aH} {h:XH}:execW D K k rd (.loop L a) e h=oX (execW D K k rd a (aV L (aAE k L e h)) (nT k L e h)) (execW D K k rd (.loop L a)):=iR
section
variable {x:Vn} (ok:x.Ok) {ill cl:Nat} {L:List (Nat×Nat)} {sn n:Int}
abbrev h77 (x:Vn) (L:List (Nat×Nat)) (n:Int):XH:=[chO L,some (.blk true (.cells true x.c)),some (.blk false (.cells true [.ch 0])),some (.blk true (.cells true [I n]))]
include ok in
theorem aFZ (hill:ill<2^x.F) {i:Nat} (hi:i<x.bs.length) :
 aW 1 [1,4,7,8,10,11,30,31,36,37,38] (execW aA 77 1 none (match aDi with | .loop _ a=>a|c=>c) (aV [1,4,7,8,10,11,30,31,36,37,38] [I cl,.pt 1 0,.pt 2 0,I (bF x ill i:Nat),.pt 3 0,I ill,I sn,I n,rB (x.bs.map bI),I x.bs.length,I (i:Nat)]) (h77 x L n)) =
  some ([I cl,.pt 1 0,.pt 2 0,I (bF x ill (i+1):Nat),.pt 3 0,I ill,I sn,I n,rB (x.bs.map bI),I x.bs.length,I (i+1:Nat)],h77 x L n):=by
 obtain⟨b,hx⟩:=bM hi
 have hb:=ok.b b (List.mem_of_getElem? hx)
 have hF:=ok.F16
 have hp:=aT hF
 have a1:=dH hi
 have a2:=dN hi (by have:=ok.nb;omega)
 have l0:=aHN ok hill i
 have up:bF x ill (i+1)=brd ill (bF x ill i) b:=iV hx ill
 rw[up]
 generalize bF x ill i=o at *
 have e1:=oO (a:=ill) (j:=b.1) (by omega) (by omega)
 have e2:=oO (a:=ill) (j:=b.2) (by omega) (by omega)
 have s1:=w62 (j:=b.1) (by omega)
 have s2:=w62 (j:=b.2) (by omega)
 have p1:(2:Nat)^b.1≤2^16:=Nat.pow_le_pow_right (by omega) (by omega)
 have p2:(2:Nat)^b.2≤2^16:=Nat.pow_le_pow_right (by omega) (by omega)
 have o1:=cT bH (a:=o) (b:=2^b.2) (by omega) (by omega)
 have o1':=tS (a:=o) (i:=b.2) (n:=x.F) (by omega) hb.2.1
 have o2:=cT bH (a:=o|||2^b.2) (b:=2^b.1) (by omega) (by omega)
 have o3:=cT bH (a:=o) (b:=2^b.1) (by omega) (by omega)
 unfold brd orB
 generalize 2^b.1=q1 at *
 generalize 2^b.2=q2 at *
 cases h1:ill.testBit b.1<;>cases h2:ill.testBit b.2
 all_goals
  rw[h1]at e1
  rw[h2]at e2
  unfold aDi aJQ
  dsimp only
  (sym=>(simp[Za,Zb,Zc,Zd,Ze,Zf,Zg,Zh,Zj,Zl,Zm,Zv,Zw,Z3,Z8,Z9,ZA,ZG,ZK,ZL,ZO,ZP,ZT,ZU,Yf,Yg,Yi,Yj,Ym,Ys,Yw,Yx,Yy,Yz,Y0,Y8,YA,YD,YO,YR,YU,YX,YZ,Xb,Xg,Xp,Xq,Xr,Xt,Xv,X0,Wc,Wq,Wx,Wy,Wz,W0,W3,W4,W5,W6,W8,W9,WA,WC,WE,WG,WH,WI,WJ,WK,WL,WM,WN,WO,WP,WQ,WR,WU,WV,WW,WZ,Vb,Vc,Ve,Vf,Vg,Vr,Vt,Vu,Vv,VM,VN,VO,VP,VQ,VR,VU,VV,VW,VX,VY,VZ,Ua,Ub,Uc,Ud,Ue,Uf,Ug,Ui,Uq,Ut,Uu,Uv,Uy,Uz,U0,U1,U2,U3,U4,UB,UZ,Ta,Tb,Tc,Td,Te,Tf,Tg,Tm,Tn,Tq,Tr,Ts,Tt,Tu,Tw,Ty,Tz,T0,T1,Sl,S4,S5,S7,S8,S9,SA,SY,Ra,a1,a2,hx,e1,e2,s1,s2,o1,o2,o3,aMi];all_goals tactic=>exact rfl))
end
theorem aJw {k cl:Nat} (hk:k<16) (hc:cl<65536):gE (2^k) cl=if cl.testBit k then 0 else 2^k:=by
 apply Nat.eq_of_testBit_eq
 intro i
 rw[bX (by omega),Nat.testBit_two_pow]
 by_cases hi:k=i
 ·subst hi
  cases h:cl.testBit k
  ·simp[Nat.testBit_two_pow];omega
  ·simp
 ·cases h:cl.testBit k
  ·simp[Nat.testBit_two_pow,hi]
  ·simp[hi]
section
variable {x:Vn} (ok:x.Ok) {ill cl:Nat} {L:List (Nat×Nat)} {sn n:Int}
include ok in
theorem aFY {o0:Nat} (ho:o0<2^x.F) (hcl:cl<2^x.F) {i:Nat} (hi:i<x.ps.length) :
 aW 1 [1,4,7,8,10,11,30,31,63,64,65] (execW aA 77 1 none (match yE with | .loop _ a=>a|c=>c) (aV [1,4,7,8,10,11,30,31,63,64,65] [I cl,.pt 1 0,.pt 2 0,I (pF x cl n o0 i:Nat),.pt 3 0,I ill,I sn,I n,rP (x.ps.map pI),I x.ps.length,I (i:Nat)]) (h77 x L n)) =
  some ([I cl,.pt 1 0,.pt 2 0,I (pF x cl n o0 (i+1):Nat),.pt 3 0,I ill,I sn,I n,rP (x.ps.map pI),I x.ps.length,I (i+1:Nat)],h77 x L n):=by
 obtain⟨p,hx⟩:=bM hi
 have hb:=ok.p p (List.mem_of_getElem? hx)
 have hF:=ok.F16
 have hp:=aT hF
 have a1:=dH hi
 have a2:=dN hi (by have:=ok.np;omega)
 have l0:=aJV (cl:=cl) (n:=n) ok ho i
 have up:pF x cl n o0 (i+1)=plt cl n (pF x cl n o0 i) p:=iV hx o0
 rw[up]
 generalize pF x cl n o0 i=o at *
 have e1:=oO (a:=o) (j:=p.2.1) (by omega) (by omega)
 have s1:=w62 (j:=p.2.2) (by omega)
 have p1:(2:Nat)^p.2.2≤2^16:=Nat.pow_le_pow_right (by omega) (by omega)
 have d0:=aJw (k:=p.2.2) (cl:=cl) (by omega) (by omega)
 have d1:=jD bH (a:=2^p.2.2) (b:=cl) (by omega) (by omega)
 rw[d0]at d1
 have o1:=cT bH (a:=o) (b:=2^p.2.2) (by omega) (by omega)
 have o2:=cT bH (a:=o) (b:=0) (by omega) (by omega)
 rw[Nat.or_zero]at o2
 have o2:cA .or .i64 (o:Int) 0=(o:Int):=o2
 unfold plt orB
 generalize 2^p.2.2=q1 at *
 by_cases hn:(p.1:Int)=n
 ·have c1:((p.1:Int)=n)=True:=eq_true hn
  have g1:decide ((p.1:Int)=n)=true:=decide_eq_true hn
  rw[g1]
  cases h1:o.testBit p.2.1
  ·rw[h1]at e1
   unfold yE
   dsimp only
   (sym=>(simp[Za,Zb,Zc,Zd,Ze,Zf,Zg,Zh,Zj,Zl,Zm,Zp,Zq,Zv,Zw,Zy,Z3,Z7,Z9,ZG,ZK,ZL,ZO,ZP,ZT,ZU,ZV,Ya,Yf,Yg,Yi,Yq,Ys,Yw,Yx,YU,YZ,Xb,Xg,Xp,Xq,Xt,Xv,Wq,Wx,Wy,Wz,W0,W3,W4,W5,W6,W8,W9,WA,WC,WE,WG,WH,WI,WJ,WK,WL,WM,WN,WO,WP,WQ,WR,WU,WV,WW,WZ,Vb,Vc,Ve,Vf,Vg,Vr,Vt,Vu,Vw,Vx,Vz,VM,VN,VO,VP,VQ,VR,VU,VV,VW,VX,VY,VZ,Ua,Ub,Uc,Ud,Ue,Uf,Ug,Ui,Uj,Uk,Uq,Ut,Uu,Uy,Uz,U0,U1,U2,U3,U4,UB,UZ,Ta,Tb,Tc,Td,Te,Tf,Tg,Tm,Tn,Tq,Ts,Tt,Tw,Tz,T0,T1,S4,S5,S6,S8,S9,SA,SY,Ra,a1,a2,hx,e1,c1];all_goals tactic=>exact rfl))
  ·rw[h1]at e1
   cases h2:cl.testBit p.2.2
   all_goals
    rw[h2]at d1
    unfold yE
    dsimp only
    (sym=>(simp[Za,Zb,Zc,Zd,Ze,Zf,Zg,Zh,Zj,Zl,Zm,Zp,Zq,Zv,Zw,Zy,Z3,Z7,Z9,ZG,ZK,ZL,ZO,ZP,ZT,ZU,ZV,Ya,Yf,Yg,Yi,Ym,Yq,Ys,Yw,Yx,Y9,YU,YZ,Xb,Xg,Xp,Xq,Xt,Xv,Wq,Wx,Wy,Wz,W0,W3,W4,W5,W6,W8,W9,WA,WC,WE,WG,WH,WI,WJ,WK,WL,WM,WN,WO,WP,WQ,WR,WU,WV,WW,WZ,Vb,Vc,Ve,Vf,Vg,Vr,Vt,Vu,Vw,Vx,Vz,VM,VN,VO,VP,VQ,VU,VV,VW,VX,VY,VZ,Ua,Ub,Uc,Ud,Ue,Uf,Ug,Ui,Uk,Ul,Um,Uq,Ut,Uu,Uy,Uz,U0,U1,U2,U3,U4,UB,UZ,Ta,Tb,Tc,Td,Te,Tf,Tg,Tm,Tn,Tq,Ts,Tt,Tw,Tz,T0,T1,S3,S4,S5,S6,S8,S9,SA,SY,Ra,a1,a2,hx,e1,c1,s1,d1,o1,o2];all_goals tactic=>exact rfl))
 ·have c1:((p.1:Int)=n)=False:=eq_false hn
  have g1:decide ((p.1:Int)=n)=false:=decide_eq_false hn
  rw[g1]
  unfold yE
  dsimp only
  (sym=>(simp[Za,Zb,Zc,Zd,Ze,Zf,Zg,Zh,Zj,Zl,Zm,Zp,Zs,Zv,Zw,Zy,Z3,Z7,Z9,ZG,ZK,ZL,ZW,Ya,Yf,Yg,Yi,Yq,Ys,Yw,Yx,YU,YZ,Xb,Xg,Xp,Xt,Xv,Wq,Wx,Wy,Wz,W0,W3,W4,W5,W6,W8,W9,WA,WC,WE,WG,WH,WI,WK,WM,WN,WO,WP,WU,WV,WW,WZ,Vb,Vc,Vr,Vt,Vu,Vw,Vx,Vz,VM,VN,VO,VP,VQ,VR,VU,VV,VW,VX,VY,VZ,Ua,Ub,Uc,Ud,Ue,Uf,Ug,Ui,Uj,Uq,Ut,Uu,Uv,Uz,U0,U1,U2,U3,U4,UB,UZ,Ta,Tb,Tc,Td,Te,Tf,Tg,Tm,Tn,Tq,Ts,Tt,Tw,Tz,T0,T1,S4,S5,S6,S8,S9,SA,SY,Ra,a1,a2,hx,c1];all_goals tactic=>exact rfl))
end
abbrev gT (n:Nat) (L:List (Nat×Nat)):XH:=[some (.loop 77 1 [.pt 1 0,.pt 3 0] .ready),some (.blk false (.cells true [.ch 2])),chO L,some (.blk true (.cells true [I n]))]
theorem aMo (n:Nat) (L:List (Nat×Nat)):aFh 4 (gT n L):=by
 refine⟨fun _=>rfl,fun _ _=>rfl,fun _=>rfl,?_,?_⟩
 ·intro a e h0 h1
  (sym=>(simp[Xb,Xf,Xv,Xz,W9,WE,WG,WI,WK,WL,WM,WN,WO,WU,WV,WW,WX,WZ,Vb,Vc,Vd,VN,VO,VV,VW,VX,VY,VZ,Ua,Ub,Ut,Uy,Uz,U0,U1,U2,Tz,SY,Ra,h0,h1];all_goals tactic=>exact rfl))
 ·intro a
  (sym=>(simp[Za,YY,Xb,Xs,Xv,XK,Wf,W9,WE,WG,WI,WK,WL,WM,WN,WO,WU,WV,WW,WX,WZ,Vb,Vc,Vd,Vr,V8,V9,VA,VV,VW,VX,VY,VZ,Ua,Ub,Ut,Uy,Uz,U0,U1,U2,U5,U9,Sl,SY,Ra];all_goals tactic=>exact rfl))
theorem yT (v n:Nat) (L:List (Nat×Nat)) (hl:L.length<16) (hn:n≤1000):Yd (gT n L) (gT n (L++[(v,n+1)])) v true:=by
 have b1:(L.length<16)=True:=eq_true hl
 have a2:IntKind.i64.wrap ((n:Int)+1)=(n:Int)+1:=aD (by omega) (by omega)
 have y:runYW aA (.fn (.yield 0) [] []) [I (v:Nat)] (gT n L)=some (.bool true,gT n (L++[(v,n+1)])):=by
  rw[jW (K:=77) (d:=x77) (site:=1) (vs:=[.pt 1 0,.pt 3 0]) rfl rfl (by rfl) rfl]
  (sym=>(simp[Za,Zb,Zc,Zd,Ze,Zf,Zh,Zl,Zm,Zv,Z0,Z3,ZG,ZK,Yi,YQ,YV,Xb,Xg,Xi,Xq,Xv,Wo,Wx,Wy,Wz,W0,W3,W5,W6,W8,W9,WE,WG,WI,WK,WL,WM,WN,WO,WU,WV,WW,WX,WZ,Vb,Vc,Vd,V7,VA,VM,VV,VW,VX,VY,VZ,Ua,Ub,Uc,Ud,Ue,Ui,Uq,Ut,Uy,Uz,U0,U1,U2,U3,U4,UB,UC,UD,UE,UI,UJ,UZ,Ta,Te,Tm,Ts,Tw,T0,T1,TA,TT,TU,TV,TW,Se,Sf,Sg,Si,SE,SK,SL,SY,Ra,b1,a2];all_goals tactic=>exact rfl))
 intro a
 (sym=>(simp[Zd,Ze,YU,Xb,Xf,Xp,Xq,Xv,Xz,Wx,W0,W5,W6,W8,W9,WA,WB,WC,WF,WG,WH,WI,WJ,WL,WM,WQ,WR,WS,WU,WV,WW,WX,Vb,Vc,Vd,Ve,Vf,Vg,Vh,VV,VW,VX,VY,VZ,Uc,Ud,Ug,Ut,Uy,Uz,U0,U1,U2,TA,Sd,SY,Ra,y];all_goals tactic=>exact rfl))
theorem sV {p q:Nat→Bool} (h:∀ k,p k=true→q k=false):∀ l:List Nat,(l.filter fun k=>p k||q k).length=(l.filter p).length+(l.filter q).length
 | []=>rfl
 | k::l=>by
   have ih:=sV h l
   simp only[List.filter_cons]
   cases hp:p k
   ·cases hq:q k
    ·simpa using ih
    ·simp only[Bool.false_or,if_true,Bool.false_eq_true,if_false,List.length_cons];omega
   ·have hq:=h k hp
    rw[hq]
    simp only[Bool.true_or,if_true,Bool.false_eq_true,if_false,List.length_cons];omega
def mN (x:Vn) (cl:Nat):Nat→List (Nat×Nat)
 | 0=>(el (cB x cl 0)).map fun k=>(k,0)
 | n+1=>mN x cl n++(el (gE (cB x cl (n+1)) (cB x cl n))).map fun k=>(k,n+1)
theorem uP (s k i:Nat) (c:Bool):(orB s c k).testBit i=(s.testBit i||(c&&decide (k=i))):=by
 unfold orB
 cases c
 ·simp
 ·rw[if_pos rfl,eK];simp
theorem wT {α:Type} {f:Nat→α→Nat} (hf:∀ o x i,o.testBit i=true→(f o x).testBit i=true):∀ (l:List α) (o i:Nat),o.testBit i=true→(l.foldl f o).testBit i=true
 | [],_,_,h=>h
 | x::l,o,i,h=>wT hf l (f o x) i (hf o x i h)
theorem aJG {ill:Nat} (o:Nat) (b:Nat×Nat) (i:Nat) (h:o.testBit i=true):(brd ill o b).testBit i=true:=by
 unfold brd
 rw[uP,uP,h];simp
theorem aIM {cl:Nat} {n:Int} (o:Nat) (p:Nat×Nat×Nat) (i:Nat) (h:o.testBit i=true):(plt cl n o p).testBit i=true:=by
 unfold plt
 rw[uP,h];simp
theorem aBz {x:Vn} (ok:x.Ok) {cl:Nat} (hcl:cl<2^x.F):∀ n i,(cB x cl n).testBit i=true→(cB x cl (n+1)).testBit i=true:=by
 have hp:=aT ok.F16
 have dj:∀ n i,(cB x cl n).testBit i=true→cl.testBit i=false:=by
  intro n
  induction n with
  | zero =>
    intro i hi
    unfold cB at hi
    rw[bX (by omega)]at hi
    simp only[Bool.and_eq_true,Bool.not_eq_true']at hi
    exact hi.2.2
  | succ n ih =>
    intro i hi
    rw[cB,aIl]at hi
    have main:∀ (l:List (Nat×Nat×Nat)) (o:Nat),(∀ i,o.testBit i=true→cl.testBit i=false)→∀ i,(l.foldl (plt cl (n:Int)) o).testBit i=true→cl.testBit i=false:=by
     intro l
     induction l with
     | nil=>exact fun o h=>h
     | cons p l ihl =>
       intro o h
       refine ihl (plt cl n o p) fun i hi=>?_
       unfold plt at hi
       rw[uP,Bool.or_eq_true]at hi
       rcases hi with hi|hi
       ·exact h i hi
       ·simp only[Bool.and_eq_true,Bool.not_eq_true',decide_eq_true_eq]at hi
        rw[←hi.2];exact hi.1.2.2
    refine main x.ps _ (fun i hi=>?_) i hi
    rw[bX (by omega)]at hi
    simp only[Bool.and_eq_true,Bool.not_eq_true']at hi
    exact hi.2.2
 intro n i hi
 rw[cB,aIl]
 refine wT aIM _ _ _ ?_
 have hlt:=tG (jN ok cl n) (i:=i)
 have hi64:i<64:=by
  by_cases h:i<64
  ·exact h
  ·rw[hlt (by have:=ok.F16;omega)]at hi;simp at hi
 rw[bX (by omega),dj n i hi]
 have:(bor x (cB x cl n)).testBit i=true:=wT aJG _ _ _ hi
 simp[this,hi64]
theorem aEa {x:Vn} (ok:x.Ok) {cl:Nat} (hcl:cl<2^x.F):∀ n,(mN x cl n).length=(el (cB x cl n)).length
 | 0=>by simp[mN]
 | n+1=>by
   have hp:=aT ok.F16
   have hl:=jN ok cl n
   rw[mN,List.length_append,List.length_map,aEa ok hcl n]
   have e:el (cB x cl (n+1))=(List.range 16).filter fun k=>(cB x cl n).testBit k||(gE (cB x cl (n+1)) (cB x cl n)).testBit k:=by
    unfold el
    refine List.filter_congr fun k hk=>?_
    rw[List.mem_range]at hk
    rw[bX (by omega)]
    cases h:(cB x cl n).testBit k
    ·cases (cB x cl (n+1)).testBit k<;>simp;omega
    ·rw[aBz ok hcl n k h];rfl
   rw[e,sV]
   ·rfl
   ·intro k hk
    rw[bX (by omega),hk];simp
theorem aLb {x:Vn} (ok:x.Ok) {cl:Nat} (hcl:cl<2^x.F) (n:Nat):(mN x cl n).length≤16:=by
 rw[aEa ok hcl];exact sY _
theorem aMu {a n:Nat} {L:List (Nat×Nat)} (ha:a<65536) (hn:n≤1000) (hl:L.length+(el a).length≤16) :
 runW aA 86 [.fn (.yield 0) [] [],.pt 4 0] (gT n L++[cI a])=some (.tup [],gT n (L++(el a).map fun k=>(k,n+1))++[cI 0]):=by
 have e:=rH (n:=4) (G:=fun i=>gT n (L++((el a).take i).map fun k=>(k,n+1))) ha (fun i _=>aMo n _) (by
  intro i v hv
  have h1:=yT v n (L++((el a).take i).map fun k=>(k,n+1)) (by have:=fJ hv;simp;omega) hn
  have e1:(L++((el a).take i).map fun k=>(k,n+1))++[(v,n+1)]=L++((el a).take (i+1)).map fun k=>(k,n+1):=by
   rw[List.take_add_one,hv];simp
  rw[e1]at h1
  exact h1)
 rw[List.take_length]at e
 simpa using e
theorem aMv {a:Nat} (ha:a<65536):runW aA 86 [.fn (.yield 0) [] [],.pt 3 0] (gS []++[cI a])=some (.tup [],gS ((el a).map fun k=>(k,0))++[cI 0]):=by
 have hl:=sY a
 have e:=rH (n:=3) (G:=fun i=>gS (((el a).take i).map fun k=>(k,0))) ha (fun i _=>aMp _) (by
  intro i v hv
  have h1:=yS v (((el a).take i).map fun k=>(k,0)) (by have:=fJ hv;simp;omega)
  have e1:(((el a).take i).map fun k=>(k,0))++[(v,0)]=((el a).take (i+1)).map fun k=>(k,0):=by
   rw[List.take_add_one,hv];simp
  rw[e1]at h1
  exact h1)
 rw[List.take_length]at e
 simpa using e
abbrev g77 (x:Vn) (L:List (Nat×Nat)):XH:=[chO L,some (.blk true (.cells true x.c)),some (.blk false (.cells true [.ch 0]))]
theorem aIr {x:Vn} (ok:x.Ok) {cl:Nat} (hcl:cl<2^x.F) {sn:Int} {n:Nat} (hn:n≤1000) (hs:(n:Int)<sn) :
 aW 1 [1,4,7,8,30,31] (execW aA 77 1 none (match aDh with | .loop _ a=>a|c=>c) (aV [1,4,7,8,30,31] [I cl,.pt 1 0,.pt 2 0,I (cB x cl n:Nat),I sn,I (n:Nat)]) (g77 x (mN x cl n))) =
  some ([I cl,.pt 1 0,.pt 2 0,I (cB x cl (n+1):Nat),I sn,I (n+1:Nat)],g77 x (mN x cl (n+1))):=by
 have hp:=aT ok.F16
 have hi:=jN ok cl n
 have hi2:=jN ok cl (n+1)
 have c1:((n:Int)<sn)=True:=eq_true hs
 have a2:IntKind.i64.wrap ((n:Int)+1)=(n:Int)+1:=aD (by omega) (by omega)
 have lb:=aHN ok hi x.bs.length
 have eb:bF x (cB x cl n) x.bs.length=bor x (cB x cl n):=by unfold bF bor;rw[List.take_length]
 rw[eb]at lb
 have d1:=jD bH (a:=bor x (cB x cl n)) (b:=cl) (by omega) (by omega)
 have dl:=iC (bor x (cB x cl n)) cl
 have ep:pF x cl (n:Int) (gE (bor x (cB x cl n)) cl) x.ps.length=cB x cl (n+1):=by unfold pF;rw[List.take_length];rfl
 have z:=UY (n:=(x.bs.length:Int))
 have z2:=UY (n:=(x.ps.length:Int))
 have d2:=jD bH (a:=cB x cl (n+1)) (b:=cB x cl n) (by omega) (by omega)
 have dl2:=iC (cB x cl (n+1)) (cB x cl n)
 have w8:=w80 (a:=gE (cB x cl (n+1)) (cB x cl n))
 have e86:=aMu (a:=gE (cB x cl (n+1)) (cB x cl n)) (n:=n) (L:=mN x cl n) (by omega) hn (by
  have:=aLb ok hcl (n+1)
  rw[mN,List.length_append,List.length_map]at this
  exact this)
 rw[show mN x cl n++(el (gE (cB x cl (n+1)) (cB x cl n))).map (fun k=>(k,n+1))=mN x cl (n+1) from rfl]at e86
 have e86:runW aA 86 [.fn (.yield 0) [] [],.pt 4 0] [some (.loop 77 1 [.pt 1 0,.pt 3 0] .ready),some (.blk false (.cells true [.ch 2])),chO (mN x cl n),some (.blk true (.cells true [I n])),cI (gE (cB x cl (n+1)) (cB x cl n))] =
  some (.tup [],[some (.loop 77 1 [.pt 1 0,.pt 3 0] .ready),some (.blk false (.cells true [.ch 2])),chO (mN x cl (n+1)),some (.blk true (.cells true [I n])),some (.blk true (.cells true [.int .i64 0]))]):=e86
 have rb:=fun i hh=>aFY (L:=mN x cl n) (ill:=cB x cl n) (sn:=sn) (n:=(n:Int)) ok (o0:=gE (bor x (cB x cl n)) cl) (by omega) hcl (i:=i) hh
 have ra:=fun i hh=>aFZ (L:=mN x cl n) (cl:=cl) (sn:=sn) (n:=(n:Int)) ok hi (i:=i) hh
 unfold aDh
 dsimp only
 sym =>
  simp[Za,Zb,Zc,Zf,Zh,Zl,Zm,Zv,Zw,Z3,Z7,ZF,ZG,ZK,ZL,Ya,Yb,Ys,Xg,Wo,Wx,Wy,Wz,W0,W3,W5,W6,W8,VM,VP,VQ,VX,VY,VZ,Uc,Ud,Ue,Ui,Uq,Uu,U3,U4,UB,UZ,Ta,Te,Tf,Tg,Tm,Tn,Tq,Ts,Tt,T0,T1,c1]
  tactic =>
   unfold aDi
   rw[aE x.bs.length (fun i=>[I cl,.pt 1 0,.pt 2 0,I (bF x (cB x cl n) i:Nat),.pt 3 0,I (cB x cl n:Nat),I sn,I (n:Nat),rB (x.bs.map bI),I x.bs.length,I (i:Nat)]) (fun _=>h77 x (mN x cl n) n)]
   ·rw[eb]
    sym =>
     simp[Za,Zb,Zf,Zh,Zl,Zm,Zv,Z3,Z7,ZF,ZG,Ya,Yb,Ys,Wx,Wy,Wz,W8,VM,VP,VR,Ue,Uv,UY,UZ,Ta,Te,Tm,Tn,Tr,Ts,Tt,Tu,Ty,T0,T1,S3,z,d1]
     tactic =>
      unfold yE
      rw[aE x.ps.length (fun i=>[I cl,.pt 1 0,.pt 2 0,I (pF x cl (n:Int) (gE (bor x (cB x cl n)) cl) i:Nat),.pt 3 0,I (cB x cl n:Nat),I sn,I (n:Nat),rP (x.ps.map pI),I x.ps.length,I (i:Nat)]) (fun _=>h77 x (mN x cl n) n)]
      ·rw[ep]
       generalize gE (cB x cl (n+1)) (cB x cl n)=df at *
       generalize cB x cl (n+1)=q1 at *
       generalize mN x cl (n+1)=L2 at *
       generalize cB x cl n=q0 at *
       generalize mN x cl n=L1 at *
       (sym=>(simp[Za,Zb,Zf,Zh,Zl,Zm,Zv,Z3,ZO,ZP,ZT,ZU,Yi,Ys,YU,Xb,Xf,Xp,Xs,Xv,Xy,Xz,Wx,W0,W5,W6,W8,W9,WA,WB,WC,WE,WF,WG,WH,WI,WJ,WK,WL,WM,WN,WO,WP,WQ,WR,WS,WU,WV,WW,WX,WZ,Vb,Vc,Vd,Ve,Vf,Vg,Vh,VM,VN,VO,VP,VR,VV,VW,VX,VY,VZ,Ua,Ub,Uc,Ud,Ug,Ui,Ut,Uv,Uy,Uz,U0,U1,U2,UY,Tm,Tn,Tr,Ts,Tt,Tu,Tw,Ty,Tz,T0,T1,TT,TU,TX,TY,TZ,Sa,Sb,Sc,S3,SY,Ra,z2,d2,w8,e86,a2];all_goals tactic=>exact rfl))
      ·(sym=>(simp[Za,Y9,YU,YZ,Xb,Xp,Xt,Xv,Wx,W9,WA,WC,WE,WG,WH,WI,WK,WM,WN,WO,WP,WU,WV,WW,WZ,Vb,Vc,VM,VN,VO,VV,VW,VX,VY,VZ,Ua,Ub,Ug,Ut,Uz,U0,U1,U2,Tz,SY,Ra];all_goals tactic=>exact rfl))
      ·exact rb
      ·rw[ep]
       generalize cB x cl (n+1)=q1 at *
       (sym=>(simp[Za,Zb,Zf,Zh,Zl,Zm,Z3,Ys,VM,VP,VR,VS,Uv,UY,Tm,Tn,Tr,Tt,Tu,T0,z2];all_goals tactic=>exact rfl))
   ·(sym=>(simp[Za,Y9,YU,YZ,Xb,Xp,Xt,Xv,Wx,W9,WA,WC,WE,WG,WH,WI,WK,WM,WN,WO,WP,WU,WV,WW,WZ,Vb,Vc,VM,VN,VO,VV,VW,VX,VY,VZ,Ua,Ub,Ug,Ut,Uz,U0,U1,U2,Tz,SY,Ra];all_goals tactic=>exact rfl))
   ·exact ra
   ·(sym=>(simp[Za,Zb,Zf,Zh,Zl,Zm,Z3,Ys,VM,VP,VR,VS,Uv,UY,Tm,Tn,Tr,Tt,Tu,T0,z];all_goals tactic=>exact rfl))
theorem aHR {run:fY} {runY:iF} {l:List DOper} {e:aH} {h:XH}:eO run runY l e h=xo none run runY l e h:=rfl
abbrev chC (L:List (Nat×Nat)):Option XB:=some (.blk true (.map true ((.agg [.agg []],.fp [] 16 1)::aCo L)))
theorem w77 {x:Vn} (ok:x.Ok) {cl:Nat} (hcl:cl<2^x.F) {sn:Nat} (hs:sn≤1000):runW aA 77 [.agg x.c,I cl,I sn,.ch 0] [chO []]=some (.tup [],[chC (mN x cl sn)]):=by
 have hp:=aT ok.F16
 have hi:=jN ok cl 0
 have hk:=ok.s
 have d1:=jD bH (a:=x.sick) (b:=cl) (by omega) (by omega)
 rw[show gE x.sick cl=cB x cl 0 from rfl]at d1
 have w8:=w80 (a:=cB x cl 0)
 have e86:runW aA 86 [.fn (.yield 0) [] [],.pt 3 0] [some (.loop 77 0 [.pt 1 0] .ready),some (.blk false (.cells true [.ch 2])),some (.blk true (.map true [(.agg [.agg []],.fp [] 16 0)])),cI (cB x cl 0)] =
  some (.tup [],[some (.loop 77 0 [.pt 1 0] .ready),some (.blk false (.cells true [.ch 2])),chO (mN x cl 0),some (.blk true (.cells true [.int .i64 0]))]):=aMv (a:=cB x cl 0) (by omega)
 have z:=UY (n:=(sn:Int))
 rw[r77 (by simp)]
 unfold x77
 dsimp only
 rw[aHR]
 have rd:=fun i (hh:i<sn)=>aIr (x:=x) ok hcl (sn:=(sn:Int)) (n:=i) (by omega) (by omega)
 generalize hf0:mN x cl 0=L0 at e86
 generalize hi0:cB x cl 0=q0 at e86 w8 d1
 sym =>
  simp[Za,Zb,Zf,Zh,Zl,Zm,Zo,Zv,Zz,Z3,Z7,ZG,ZO,ZP,ZT,ZU,Ya,YU,Xb,Xf,Xg,Xi,Xj,Xp,Xs,Xv,Xy,Xz,Wc,We,Wg,Wq,Wx,Wy,Wz,W0,W5,W6,W7,W8,W9,WA,WB,WC,WF,WG,WH,WI,WJ,WL,WM,WQ,WR,WS,WU,WV,WW,WX,Vb,Vc,Vd,Ve,Vf,Vg,Vh,VK,VU,VV,VW,VX,VY,VZ,Uc,Ud,Ug,Ui,Ut,Uy,Uz,U0,U1,U2,U3,U4,U9,UA,UK,UL,UZ,Ta,Te,Th,Tm,Tn,Ts,Tt,Tw,T0,T1,TT,TU,TX,TY,TZ,Sa,Sb,Sc,S3,SU,SV,SY,SZ,Ra,Rc,Rd,d1,w8,e86]
  tactic =>
   unfold aDh
   rw[aE sn (fun i=>[I cl,.pt 1 0,.pt 2 0,I (cB x cl i:Nat),I sn,I (i:Nat)]) (fun i=>g77 x (mN x cl i))]
   ·generalize cB x cl sn=q at *
    generalize mN x cl sn=L at *
    (sym=>(simp[Za,Zb,Zf,Zh,Zl,Zm,Z3,Ys,YY,Xs,XK,Wf,Wx,W0,WG,WK,WM,WN,WO,WU,WV,WZ,Vb,Vr,V6,V8,V9,VA,VB,VD,VF,VM,VP,VR,VV,VW,VZ,Ua,Ub,Uv,Uz,U0,U1,U5,U9,UY,Tm,Tn,Tr,Tt,Tu,Ty,T0,Sl,SQ,SS,SW,SX,z];all_goals tactic=>exact rfl))
   ·rw[hf0,hi0]; (sym=>(simp[Za,Y9,YU,Xb,Xp,Xv,Wx,W7,W9,WA,WC,WE,WG,WH,WI,WK,WM,WN,WO,WP,WU,WV,WW,WZ,Vb,Vc,VK,VN,VO,VV,VW,VX,VY,VZ,Ua,Ub,Ug,Ut,Uz,U0,U1,U2,Tz,SY,Ra];all_goals tactic=>exact rfl))
   ·exact rd
   ·generalize cB x cl sn=q at *
    generalize mN x cl sn=L at *
    (sym=>(simp[Za,Zb,Zf,Zh,Zl,Zm,Z3,Ys,VM,VP,VR,VS,Uv,UY,Tm,Tn,Tr,Tt,Tu,T0,z];all_goals tactic=>exact rfl))
abbrev nev:Int:=1125899906842624
theorem w50:∀ F,F<16→runW aA 50 [.sl 0 0 1 1,I ((F+1:Nat):Int)] [some (.blk true (.cells true [I nev]))]=some (.sl 1 0 1 (F+1),[some (.blk true (.cells true [I nev])),some (.blk true (.cells true ((List.replicate (F+1) nev).map I)))])
 | 0,_=>aX.2 ⟨400,by kernel_rfl⟩
 | 1,_=>aX.2 ⟨400,by kernel_rfl⟩
 | 2,_=>aX.2 ⟨400,by kernel_rfl⟩
 | 3,_=>aX.2 ⟨400,by kernel_rfl⟩
 | 4,_=>aX.2 ⟨400,by kernel_rfl⟩
 | 5,_=>aX.2 ⟨400,by kernel_rfl⟩
 | 6,_=>aX.2 ⟨400,by kernel_rfl⟩
 | 7,_=>aX.2 ⟨400,by kernel_rfl⟩
 | 8,_=>aX.2 ⟨400,by kernel_rfl⟩
 | 9,_=>aX.2 ⟨400,by kernel_rfl⟩
 | 10,_=>aX.2 ⟨400,by kernel_rfl⟩
 | 11,_=>aX.2 ⟨400,by kernel_rfl⟩
 | 12,_=>aX.2 ⟨400,by kernel_rfl⟩
 | 13,_=>aX.2 ⟨400,by kernel_rfl⟩
 | 14,_=>aX.2 ⟨400,by kernel_rfl⟩
 | 15,_=>aX.2 ⟨400,by kernel_rfl⟩
 | _+16,h=>absurd h (by omega)

abbrev gW (x:Vn) (cl sn:Nat) (l:List Int) (c:Option XB):XH:=[some (.loop 20 0 [.pt 1 0] .ready),some (.blk false (.cells true [.sl 2 0 1 l.length])),some (.blk true (.cells true (l.map I))),some (.blk true (.cells true x.c)),some (.blk true (.cells true [I cl])),some (.blk true (.cells true [I sn])),c]
theorem y20 {l:List Int} {v n:Nat} (hv:v<l.length) (hl:l.length≤16):runYW aA (.fn (.yield 0) [] []) [.agg [I (v:Nat),I (n:Nat)]] [some (.loop 20 0 [.pt 1 0] .ready),some (.blk false (.cells true [.sl 2 0 1 l.length])),some (.blk true (.cells true (l.map I)))]=some (.bool true,[some (.loop 20 0 [.pt 1 0] .ready),some (.blk false (.cells true [.sl 2 0 1 l.length])),some (.blk true (.cells true ((l.set v n).map I)))]):=by
 have e0:((0:Int)≤(v:Int))=True:=eq_true (by omega)
 have e1:((v:Int)<((l.length:Nat):Int))=True:=eq_true (by omega)
 have e6:(v+1≤l.length)=True:=eq_true (by omega)
 rw[←aFM hv]
 generalize hk:l.length=k at *
 rw[jW (K:=20) (d:=x20) (site:=0) (vs:=[.pt 1 0]) rfl rfl (by rfl) rfl]
 (sym=>(simp[Za,Zb,Zc,Zf,Zh,Zl,Zm,Zw,Z7,Z9,ZG,ZK,ZL,Ya,Ye,Yw,Yx,YV,Xa,Xb,Xg,Xq,Xu,Xv,Wo,Wq,Wx,Wy,Wz,W0,W3,W5,W6,W8,W9,WE,WG,WI,WK,WM,WN,WO,WU,WV,WW,WX,WZ,Vb,Vc,Vd,V7,VA,VM,VV,VW,VX,VY,VZ,Ua,Ub,Uc,Ud,Ue,Ui,Uq,Ut,Uz,U0,U1,U2,U3,U4,UB,UI,UJ,UZ,Ta,Te,Tf,Tg,Ts,Tw,T0,TC,TD,TH,TT,TU,TV,TW,Se,Sf,Sg,Si,e0,e1,e6,hk];all_goals tactic=>exact rfl))
theorem aGa {x:Vn} {cl sn k:Nat} {l:List Int} {p:Nat×Nat} {L:List (Nat×Nat)} (hl:l.length=k) (hk:k≤16) (hv:p.1<k) :
 aW 6 [0,13] (execW aA 76 6 none (match aDj with | .loop _ a=>a|c=>c) (aV [0,13] [.fn (.yield 0) [] [],.ch 6]) (gW x cl sn l (chC (p::L))))=some ([.fn (.yield 0) [] [],.ch 6],gW x cl sn (l.set p.1 p.2) (chC L)):=by
 have y:=y20 (n:=p.2) (l:=l) (v:=p.1) (by omega) (by omega)
 rw[gW,gW,List.length_set,hl]at *
 unfold aDj
 dsimp only
 have e1:chC (p::L)=some (.blk true (.map true ((.agg [.agg []],.fp [] 16 1)::(.nilifc,.agg [I p.1,I p.2])::aCo L))):=rfl
 rw[e1,show chC L=some (.blk true (.map true ((.agg [.agg []],.fp [] 16 1)::aCo L))) from rfl]
 generalize aCo L=sl
 generalize l.set p.1 (p.2:Int)=l2 at *
 (sym=>(simp[Za,Zb,Zc,Zf,Zg,Zh,Zj,Zl,Zm,Zv,Zw,Z4,ZE,ZG,ZK,ZL,ZO,ZP,ZX,Yh,YU,YX,Xa,Xb,Xf,Xg,Xp,Xq,Xr,Xu,Xv,Xz,Wq,Wx,Wy,Wz,W0,W3,W4,W5,W6,W8,W9,WA,WB,WC,WE,WF,WG,WH,WI,WJ,WK,WL,WM,WN,WO,WP,WQ,WR,WS,WU,WV,WW,WX,WZ,Vb,Vc,Vd,Ve,Vf,Vg,Vh,Vr,Vt,Vu,Vw,Vx,Vz,VM,VN,VO,VP,VQ,VR,VV,VW,VX,VY,VZ,Ua,Ub,Uc,Ud,Ug,Ui,Ul,Uq,Ut,Uy,Uz,U0,U1,U2,U3,U4,UB,UZ,Ta,Td,Tf,Tg,Tn,Tq,Ts,Tt,Tw,Tz,T0,Sd,S4,S5,S6,S8,S9,SA,SF,SM,SN,SP,SY,Ra,y];all_goals tactic=>exact rfl))
def whL (F:Nat) (L:List (Nat×Nat)):List Int:=L.foldl (fun o p=>o.set p.1 (p.2:Int)) (List.replicate F nev)
theorem uI {F:Nat} {L:List (Nat×Nat)}:(whL F L).length=F:=by
 have:∀ (M:List (Nat×Nat)) (o:List Int),(M.foldl (fun o p=>o.set p.1 (p.2:Int)) o).length=o.length:=by
  intro M
  induction M with
  | nil=>intro o;rfl
  | cons p M ih=>intro o;rw[List.foldl_cons,ih,List.length_set]
 rw[whL,this,List.length_replicate]
theorem aFq {F:Nat} {L:List (Nat×Nat)} {i:Nat} {p:Nat×Nat} (h:L[i]?=some p):whL F (L.take (i+1))=(whL F (L.take i)).set p.1 (p.2:Int):=by
 rw[whL,List.take_add_one,h,List.foldl_append];rfl
theorem aMU {x:Vn} (ok:x.Ok) {cl sn:Nat} (hcl:cl<2^x.F) (hs:sn≤1000) (hm:∀ p∈mN x cl sn,p.1<x.F) :
 runW aA 76 [.fn (.yield 0) [] [],.pt 3 0,.pt 4 0,.pt 5 0] [some (.loop 20 0 [.pt 1 0] .ready),some (.blk false (.cells true [.sl 2 0 1 x.F])),some (.blk true (.cells true ((List.replicate x.F nev).map I))),some (.blk true (.cells true x.c)),some (.blk true (.cells true [I cl])),some (.blk true (.cells true [I sn]))] =
  some (.tup [],[some (.loop 20 0 [.pt 1 0] .ready),some (.blk false (.cells true [.sl 2 0 1 x.F])),some (.blk true (.cells true ((whL x.F (mN x cl sn)).map I))),some (.blk true (.cells true x.c)),some (.blk true (.cells true [I cl])),some (.blk true (.cells true [I sn]))]):=by
 have w:=w77 ok hcl hs
 have hF:=ok.F16
 generalize hL:mN x cl sn=L at *
 have rd:=fun(i:Nat) (hi:i<L.length)=>aGa (x:=x) (cl:=cl) (sn:=sn) (L:=L.drop (i+1)) (p:=L[i]) (uI (F:=x.F) (L:=L.take i)) hF (hm _ (List.getElem_mem hi))
 have z:(whL x.F (L.take 0))=List.replicate x.F nev:=rfl
 generalize hr:(List.replicate x.F nev)=rp at *
 have zl:rp.length=x.F:=by rw[←hr,List.length_replicate]
 have zw:(whL x.F L).length=x.F:=uI
 rw[r76 (by simp)];unfold x76;dsimp only
 have w:runW aA 77 [.agg x.c,I cl,I sn,.ch 0] [some (.blk true (.map true [(.agg [.agg []],.fp [] 16 0)]))]=some (.tup [],[some (.blk true (.map true ((.agg [.agg []],.fp [] 16 1)::aCo L)))]):=w
 generalize hs0:aCo L=sl at *
 generalize hwl:whL x.F L=wl at *
 sym =>
  simp[Za,Zb,Zf,Zg,Zh,Zj,Zl,Zm,Zv,ZG,ZO,ZP,ZT,ZU,YU,YX,YZ,Xp,Xr,Xs,Xt,Wi,Wn,Wx,Wy,Wz,W0,W3,W4,W5,W6,W7,W8,W9,WB,WC,WG,WH,WI,WJ,WL,WM,WQ,WR,WS,WU,WV,Vb,Ve,Vf,Vg,Vh,Vr,Vt,Vu,Vv,Vw,Vx,Vz,VK,VU,VV,VW,VX,VY,VZ,Uc,Ud,Ut,Uy,Uz,U0,U1,U2,U9,UA,UZ,Ta,Td,Te,Tn,Ts,Tt,T0,T1,Sl,S4,S5,S6,S7,S8,S9,SA,SG,SY,Ra,Rb,Rc,w]
  tactic =>
   unfold aDj
   rw[aE L.length (fun _=>[.fn (.yield 0) [] [],.ch 6]) (fun i=>gW x cl sn (whL x.F (L.take i)) (chC (L.drop i)))]
   ·rw[show whL x.F (L.take L.length)=wl from by rw[List.take_length];exact hwl,show chC (L.drop L.length)=some (.blk true (.map true [(.agg [.agg []],.fp [] 16 1)])) from by rw[List.drop_length];rfl,gW,zw]; (sym=>(simp[Za,Zb,Zf,Zh,Zl,Zm,ZE,ZO,Yh,YY,Xa,Xb,Xs,Xu,Xv,XK,Wf,Wx,W0,W8,W9,WE,WG,WI,WK,WM,WN,WO,WU,WV,WW,WX,WZ,Vb,Vc,Vd,Vr,V4,V6,V8,V9,VA,VB,VD,VF,VM,VP,VR,VV,VW,VX,VY,VZ,Ua,Ub,Ut,Uz,U0,U1,U2,U5,U9,Tn,Tr,Tt,Tu,Ty,T0,Sl,SF,SM,SO,SP];all_goals tactic=>exact rfl))
   ·rw[z,show chC (L.drop 0)=some (.blk true (.map true ((.agg [.agg []],.fp [] 16 1)::sl))) from by rw[←hs0];rfl,gW,zl]; (sym=>(simp[Za,Xa,Xb,Xf,Xu,Xv,Xz,Wx,W7,W9,WA,WC,WE,WG,WH,WI,WK,WM,WN,WO,WP,WU,WV,WW,WX,WZ,Vb,Vc,Vd,VK,VN,VO,VV,VW,VX,VY,VZ,Ua,Ub,Ug,Ut,Uz,U0,U1,U2,Tz,S5,S7,SY,Ra];all_goals tactic=>exact rfl))
   ·intro i hi
    have h:=rd i hi
    rw[←aFq (List.getElem?_eq_getElem hi),List.getElem_cons_drop]at h
    exact h
   ·rw[show whL x.F (L.take L.length)=wl from by rw[List.take_length];exact hwl,show chC (L.drop L.length)=some (.blk true (.map true [(.agg [.agg []],.fp [] 16 1)])) from by rw[List.drop_length];rfl,gW,zw]; (sym=>(simp[Za,Zb,Zf,Zh,Zl,Zm,ZE,ZO,Yh,Wx,W0,W8,VM,VP,VR,VS,Tn,Tr,Tt,Tu,T0,SF,SM,SO,SP];all_goals tactic=>exact rfl))
end Go.Proofs.YtiabjdfdkiijmaaDoor
namespace Go.Proofs.YtiabjdfdkiijmaaDoor
open Go Go.DL

theorem aEJ {x:Vn} (ok:x.Ok) {cl:Nat} (hcl:cl<2^x.F) {i:Nat} {m n:Nat} (h:m≤n) (hi:(cB x cl m).testBit i=true):(cB x cl n).testBit i=true:=by
 induction n with
 | zero=>rw[show m=0 by omega]at hi;exact hi
 | succ n ih =>
   by_cases e:m=n+1
   ·rw[←e];exact hi
   ·exact aBz ok hcl n i (ih (by omega))
theorem eI {a F i:Nat} (h:a<2^F) (hi:a.testBit i=true):i<F:=by
 by_cases e:i<F
 ·exact e
 ·rw[tG h (by omega)]at hi;simp at hi
theorem aKa {x:Vn} (ok:x.Ok) {cl:Nat}:∀ n,∀ p∈mN x cl n,p.1<x.F
 | 0=>by
   intro p hp
   simp only[mN,List.mem_map,fM]at hp
   obtain⟨k,hk,rfl⟩:=hp
   exact eI (jN ok cl 0) hk.2
 | n+1=>by
   intro p hp
   rw[mN,List.mem_append]at hp
   rcases hp with hp|hp
   ·exact aKa ok n p hp
   ·simp only[List.mem_map,fM]at hp
    obtain⟨k,hk,rfl⟩:=hp
    exact eI (sZ (jN ok cl (n+1))) hk.2
def whO (x:Vn) (cl n f:Nat):Int:=match (List.range (n+1)).find? (fun m=>(cB x cl m).testBit f)with
 | some m=>(m:Int)
 | none=>nev
theorem aAf {c:Int} (f:Nat):∀ (ks:List Nat) (l:List Int),((ks.map fun k=>(k,c)).foldl (fun o p=>o.set p.1 p.2) l)[f]?=if f∈ks∧f<l.length then some c else l[f]?
 | [],l=>by simp
 | k::ks,l=>by
   rw[List.map_cons,List.foldl_cons,aAf f ks,List.length_set,List.getElem?_set]
   by_cases h1:f∈ks
   ·by_cases h2:f<l.length
    ·simp[h1,h2]
    ·have:l[f]?=none:=List.getElem?_eq_none (by omega)
     simp only[h1,h2,and_false,if_false,List.mem_cons,or_true,this]
     split
     ·next h=>rw[if_neg (by omega)]
     ·rfl
   ·by_cases hk:k=f
    ·subst hk
     simp only[h1,false_and,if_false,if_true,List.mem_cons,true_or,true_and]
     split
     ·rfl
     ·rw[List.getElem?_eq_none (by omega)]
    ·have:¬f∈k::ks:=by simp[h1];omega
     simp[h1,hk];intro h;omega
theorem aFp {x:Vn} (ok:x.Ok) {cl:Nat} (hcl:cl<2^x.F) (n f:Nat):whO x cl (n+1) f=if (cB x cl (n+1)).testBit f && !(cB x cl n).testBit f then ((n+1:Nat):Int) else whO x cl n f:=by
 unfold whO
 rw[List.range_succ,List.find?_append]
 by_cases h1:(cB x cl n).testBit f=true
 ·rw[h1]
  have:∃ m,(List.range (n+1)).find? (fun m=>(cB x cl m).testBit f)=some m:=by
   cases h:(List.range (n+1)).find? (fun m=>(cB x cl m).testBit f)with
   | some m=>exact⟨m,rfl⟩
   | none =>
     rw[List.find?_eq_none]at h
     exact absurd h1 (h n (List.mem_range.2 (by omega)))
  obtain⟨m,hm⟩:=this
  rw[hm];simp
 ·have:(List.range (n+1)).find? (fun m=>(cB x cl m).testBit f)=none:=by
   rw[List.find?_eq_none]
   intro m hm h
   rw[List.mem_range]at hm
   exact h1 (aEJ ok hcl (by omega) h)
  rw[this]
  simp only[Bool.not_eq_true]at h1
  rw[h1,List.find?_singleton]
  cases (cB x cl (n+1)).testBit f<;>simp
theorem aHS {x:Vn} (ok:x.Ok) {cl:Nat} (hcl:cl<2^x.F):∀ n,whL x.F (mN x cl n)=(List.range x.F).map (whO x cl n):=by
 have hF:=ok.F16
 have hp:=aT hF
 intro n
 apply List.ext_getElem?
 intro f
 rw[List.getElem?_map]
 by_cases hf:f<x.F
 ·rw[List.getElem?_range hf]
  show _=some (whO x cl n f)
  induction n with
  | zero =>
    rw[whL,mN]
    have:=aAf (c:=0) f (el (cB x cl 0)) (List.replicate x.F nev)
    rw[List.foldl_map]at this ⊢
    rw[show (fun(o:List Int) (k:Nat)=>o.set (k,0).1 ((k,0).2:Nat))=(fun(o:List Int) (k:Nat)=>o.set (k,(0:Int)).1 (k,(0:Int)).2) from rfl,this]
    rw[List.length_replicate,List.getElem?_replicate]
    simp only[fM]
    unfold whO
    rw[List.range_succ,List.range_zero,List.nil_append,List.find?_singleton]
    cases (cB x cl 0).testBit f
    ·simp[hf]
    ·have:f<16:=by omega
     simp[hf,this]
  | succ n ih =>
    have hl:=jN ok cl n
    rw[aFp ok hcl]
    have:=aAf (c:=((n+1:Nat):Int)) f (el (gE (cB x cl (n+1)) (cB x cl n))) (whL x.F (mN x cl n))
    rw[whL,mN,List.foldl_append]
    rw[List.foldl_map]at this ⊢
    rw[show (fun(o:List Int) (k:Nat)=>o.set (k,n+1).1 ((k,n+1).2:Nat))=(fun(o:List Int) (k:Nat)=>o.set (k,((n+1:Nat):Int)).1 (k,((n+1:Nat):Int)).2) from rfl]
    rw[show List.foldl (fun(o:List Int) (p:Nat×Nat)=>o.set p.1 (p.2:Int)) (List.replicate x.F nev) (mN x cl n)=whL x.F (mN x cl n) from rfl,this,ih,uI]
    simp only[fM,bX (show cB x cl n<2^64 by omega)]
    have h16:f<16:=by omega
    have h64:f<64:=by omega
    simp only[h16,h64,hf,true_and,and_true,decide_true,Bool.true_and]
    split<;>rfl
 ·rw[List.getElem?_eq_none (by rw[uI];omega),List.getElem?_eq_none (by rw[List.length_range];omega)];rfl
end Go.Proofs.YtiabjdfdkiijmaaDoor
namespace Go.Proofs.YtiabjdfdkiijmaaDoor
open Go Go.DL
set_option maxRecDepth 100000
set_option maxHeartbeats 4000000
theorem w51 (x:Vn) (cl sn:Nat):runW aA 51 [.agg x.c,I cl,I sn] []=some (.fn (.func 76) [] [.pt 0 0,.pt 1 0,.pt 2 0],[some (.blk true (.cells true x.c)),some (.blk true (.cells true [I cl])),some (.blk true (.cells true [I sn]))]):=by
 rw[r51 (by simp)];unfold x51;dsimp only
 (sym=>(simp[Za,Zb,Zf,Zh,Zl,Zo,Zv,Zx,Zz,Xb,Xe,Xg,Xi,Xj,Xv,Xy,XQ,Wc,We,Wg,Wm,Wo,Wq,Wx,W7,W9,WA,WC,WE,WG,WH,WI,WK,WM,WN,WO,WP,WU,WV,Vb,Vr,V5,V6,V8,V9,VA,VB,VC,VF,VG,VH,VI,VK,VU,VV,VW,VX,VY,VZ,Ub,Uc,Ud,Ug,Ui,Ut,Uz,U0,U1,U2,U3,U4,U9,UA,UK,UL,Th,Tn,Tp,Tt,T0,T1,TE,Sl];all_goals tactic=>exact rfl))
def aDu (x:Vn):List Int:=(List.range x.F).map (whO x 0 117)
theorem w20 (v:Va) (hb:v.bs.length<1000000000) (hp:v.ps.length<1000000000) :
 (vE v≠0∧runW aA 20 [.agg v.c] []=some (.tup [.fs [],I (vE v)],[]))∨(vE v=0∧∃ (x:Vn),x.Ok∧v=x.v∧runW aA 20 [.agg v.c] []=some (.tup [nL (aDu x),I 0],[])):=by
 have e0:=w23 v hb hp
 by_cases hv:vE v=0
 ·right
  refine⟨hv,?_⟩
  rw[hv]at e0
  obtain⟨x,ok,rfl⟩:=aNe hv
  refine⟨x,ok,rfl,?_⟩
  have e0:runW aA 23 [.agg x.c] []=some (I 0,[]):=e0
  have h0:0<2^x.F:=Nat.two_pow_pos _
  have e1:runW aA 51 [.agg x.c,I 0,I 117] []=some (.fn (.func 76) [] [.pt 0 0,.pt 1 0,.pt 2 0],[some (.blk true (.cells true x.c)),some (.blk true (.cells true [I 0])),some (.blk true (.cells true [I 117]))]):=w51 x 0 117
  have e2:=aMU ok h0 (sn:=117) (by omega) (fun p hp=>aKa ok 117 p hp)
  have e5:=w50 (x.F-1) (by have:=ok.F16;omega)
  rw[show x.F-1+1=x.F by have:=ok.F1;omega]at e5
  rw[aHS ok h0]at e2
  show runW aA 20 [.agg x.c] []=_
  rw[show nL (aDu x)=nL ((List.range x.F).map (whO x 0 117)) from rfl]
  have hz:((List.range x.F).map (whO x 0 117)).length=x.F:=by simp
  generalize (List.range x.F).map (whO x 0 117)=os at *
  generalize hr:List.replicate x.F nev=rp at *
  have e2:runW aA 76 [.fn (.yield 0) [] [],.pt 3 0,.pt 4 0,.pt 5 0] [some (.loop 20 0 [.pt 1 0] .ready),some (.blk false (.cells true [.sl 2 0 1 x.F])),some (.blk true (.cells true (rp.map I))),some (.blk true (.cells true x.c)),some (.blk true (.cells true [I 0])),some (.blk true (.cells true [I 117]))] =
   some (.tup [],[some (.loop 20 0 [.pt 1 0] .ready),some (.blk false (.cells true [.sl 2 0 1 x.F])),some (.blk true (.cells true (os.map I))),some (.blk true (.cells true x.c)),some (.blk true (.cells true [I 0])),some (.blk true (.cells true [I 117]))]):=e2
  have z1:(x.F≤os.length)=True:=eq_true (by omega)
  have z2:cE (os.map I) 0 1 x.F=os.map fun v=>[I v]:=by rw[←hz];exact TI
  rw[r20 (by simp)];unfold x20;dsimp only
  (sym=>(simp[Za,Zb,Zc,Zd,Ze,Zf,Zg,Zh,Zj,Zl,Zm,Zo,Zv,Zw,Zz,Z1,Z3,Z7,ZG,ZK,ZL,ZO,ZP,ZT,ZU,Ya,Yr,YU,YX,YY,YZ,Xa,Xb,Xf,Xg,Xi,Xj,Xk,Xm,Xp,Xr,Xs,Xt,Xu,Xv,Xy,Xz,X0,XK,XM,XV,XX,XZ,Wc,We,Wf,Wg,Wo,Wq,Ws,Wx,Wy,Wz,W0,W3,W4,W5,W6,W7,W8,W9,WA,WB,WC,WF,WG,WH,WI,WJ,WK,WL,WM,WN,WO,WQ,WR,WS,WU,WV,WW,WX,Vb,Vc,Vd,Ve,Vf,Vg,Vh,Vo,Vp,Vq,Vr,Vs,Vt,Vu,Vw,Vx,Vz,V0,V1,V2,V3,V5,V6,V8,V9,VA,VB,VE,VF,VG,VH,VI,VK,VP,VR,VU,VV,VW,VX,VY,VZ,Ub,Uc,Ud,Ue,Ug,Ui,Uk,Ul,Uq,Ut,Uu,Uw,Ux,Uy,Uz,U0,U1,U2,U3,U4,U5,U6,U7,U8,U9,UA,UB,UC,UD,UE,UK,UL,UM,UN,UO,UP,UZ,Ta,Td,Te,Tf,Tg,Th,Tm,Tn,Tp,Tq,Ts,Tt,Tw,T0,T1,TC,TD,TK,TT,TU,TX,TY,TZ,Sa,Sb,Sc,Sl,Sm,Sn,S4,S5,S6,S8,S9,SA,e0,e1,e2,e5,z1,z2];all_goals tactic=>exact rfl))
 ·left
  refine⟨hv,?_⟩
  have n0:=aIT hv
  generalize vE v=er at *
  rw[r20 (by simp)];unfold x20;dsimp only
  (sym=>(simp[Za,Zb,Zf,Zg,Zh,Zj,Zl,Zm,Zo,Zv,Zz,Z3,ZG,ZO,ZP,ZT,ZU,Yr,YU,YX,YY,YZ,Xg,Xi,Xj,Xp,Xr,Xs,Xt,X0,XK,XO,Wc,We,Wf,Wg,Wj,Wq,Wx,Wy,Wz,W3,W4,W5,W6,W7,WG,WJ,WK,WL,WM,WN,WO,WQ,WR,Ve,Vf,Vg,Vr,Vt,Vu,Vw,Vx,Vz,V5,V6,V8,V9,VA,VB,VE,VF,VG,VH,VI,VK,VP,VQ,VU,VV,VW,VY,VZ,Ub,Uc,Ud,Ui,Um,Uv,Uy,Uz,U0,U1,U2,U3,U4,U5,U6,U9,UA,UK,UL,UZ,Ta,Td,Th,Tm,Tn,Tp,Tt,Tv,T0,T1,Sl,S4,S5,S6,S8,S9,SA,e0,n0];all_goals tactic=>exact rfl))
abbrev gO (x:Vn):List Int→XH
 | []=>[some (.blk true (.cells true x.c))]
 | a::r=>[some (.blk true (.cells true x.c)),some (.blk true (.cells true (I a::r.map I)))]
theorem aJx {x:Vn} {c:List Int} (h:aBM x c=0):jV c c.length<2^x.F:=aAi _ (fun j hj=>eE h j hj) (Nat.le_refl _)
section
variable {x:Vn} (ok:x.Ok) {c:List Int} (hc:c.length<1000000000)
include ok hc
end
def eQ (x:Vn) (st:Nat→Nat):List AV:=x.c++(List.range 16).map fun k=>I (st k)
theorem eC (x:Vn) (st:Nat→Nat):(eQ x st).length=22:=by simp[eQ]
theorem iO {x:Vn} {st:Nat→Nat} {k:Nat} (h:k<16):(eQ x st)[6+k]?=some (I (st k)):=by
 rw[eQ,List.getElem?_append_right (by simp),show 6+k-x.c.length=k by simp,List.getElem?_map,List.getElem?_range h];rfl
theorem iI {l:List AV} {o:Nat} {v:AV} (h:o<l.length):bY l o [v]=l.set o v:=by
 rw[List.set_eq_take_append_cons_drop,if_pos h,bY];simp
def iX (st:Nat→Nat) (k v:Nat):Nat→Nat:=fun j=>if j=k then v else st j
theorem uR {x:Vn} {st:Nat→Nat} {k v:Nat} (h:k<16):bY (eQ x st) (6+k) [I v]=eQ x (iX st k v):=by
 rw[iI (by rw[eC];omega)]
 apply List.ext_getElem?
 intro j
 rw[List.getElem?_set,eC]
 by_cases hj:6+k=j
 ·subst hj
  rw[if_pos rfl,if_pos (by omega),iO h,iX,if_pos rfl]
 ·rw[if_neg hj]
  by_cases h6:j<6
  ·rw[eQ,eQ,List.getElem?_append_left (by simpa using h6),List.getElem?_append_left (by simpa using h6)]
  ·by_cases h22:j<22
   ·obtain⟨i,rfl⟩:∃ i,j=6+i:=⟨j-6,by omega⟩
    rw[iO (by omega),iO (by omega),iX,if_neg (by omega)]
   ·rw[List.getElem?_eq_none (by rw[eC];omega),List.getElem?_eq_none (by rw[eC];omega)]
def addS (st:Nat→Nat) (a b:Nat):Nat→Nat:=iX st a (st a|||2^b)
def vO (x:Vn) (i:Nat):Nat→Nat:=(x.bs.take i).foldl (fun st b=>addS (addS st b.1 b.2) b.2 b.1) fun _=>0
def vN (x:Vn) (i:Nat):Nat→Nat:=(x.ps.take i).foldl (fun st p=>addS st p.2.1 p.2.2) (vO x x.bs.length)
def cK (x:Vn):Nat→Nat:=vN x x.ps.length
theorem aAI {n:Nat} {st:Nat→Nat} {a b:Nat} (h:∀ k,st k<2^n) (hb:b<n):∀ k,addS st a b k<2^n:=by
 intro k
 unfold addS iX
 split
 ·exact tS (h a) hb
 ·exact h k
theorem aCk {x:Vn} (ok:x.Ok):∀ i k,vO x i k<2^x.F:=by
 intro i
 have:∀ (l:List (Nat×Nat)) (st:Nat→Nat),(∀ b∈l,b.1<x.F∧b.2<x.F)→(∀ k,st k<2^x.F)→∀ k,(l.foldl (fun st b=>addS (addS st b.1 b.2) b.2 b.1) st) k<2^x.F:=by
  intro l
  induction l with
  | nil=>intro st _ h;exact h
  | cons b l ih =>
    intro st hl h
    have hb:=hl b List.mem_cons_self
    exact ih _ (fun c hc=>hl c (List.mem_cons_of_mem _ hc)) (aAI (aAI h hb.2) hb.1)
 exact this _ _ (fun b hb=>by have:=ok.b b (List.mem_of_mem_take hb);exact⟨this.1,this.2.1⟩) (fun _=>Nat.two_pow_pos _)
theorem dK {x:Vn} (ok:x.Ok):∀ i k,vN x i k<2^x.F:=by
 intro i
 have:∀ (l:List (Nat×Nat×Nat)) (st:Nat→Nat),(∀ b∈l,b.2.2<x.F)→(∀ k,st k<2^x.F)→∀ k,(l.foldl (fun st p=>addS st p.2.1 p.2.2) st) k<2^x.F:=by
  intro l
  induction l with
  | nil=>intro st _ h;exact h
  | cons b l ih =>
    intro st hl h
    exact ih _ (fun c hc=>hl c (List.mem_cons_of_mem _ hc)) (aAI h (hl b List.mem_cons_self))
 exact this _ _ (fun b hb=>(ok.p b (List.mem_of_mem_take hb)).2.2.1) (aCk ok _)
abbrev gL (x:Vn) (st:Nat→Nat):XH:=[some (.blk true (.cells true x.c)),some (.blk true (.cells true (eQ x st)))]
theorem aGd {x:Vn} (ok:x.Ok) {i:Nat} (hi:i<x.bs.length) :
 aW 0 [1,5,19,20,21] (execW aA 56 0 none (match aDm with | .loop _ a=>a|c=>c) (aV [1,5,19,20,21] [.pt 0 0,.pt 1 0,rB (x.bs.map bI),I x.bs.length,I (i:Nat)]) (gL x (vO x i)))=some ([.pt 0 0,.pt 1 0,rB (x.bs.map bI),I x.bs.length,I (i+1:Nat)],gL x (vO x (i+1))):=by
 obtain⟨b,hx⟩:=bM hi
 have hb:=ok.b b (List.mem_of_getElem? hx)
 have hF:=ok.F16
 have hp:=aT hF
 have a1:=dH hi
 have a2:=dN hi (by have:=ok.nb;omega)
 have l0:=aCk ok i
 have up:vO x (i+1)=addS (addS (vO x i) b.1 b.2) b.2 b.1:=iV hx _
 rw[up]
 generalize vO x i=st at *
 have e1:=w62 (j:=b.1) (by omega)
 have e2:=w62 (j:=b.2) (by omega)
 have n1:((0:Int)≤b.1)=True:=eq_true (by omega)
 have n2:((0:Int)≤b.2)=True:=eq_true (by omega)
 have m1:((b.1:Int)<16)=True:=eq_true (by omega)
 have m2:((b.2:Int)<16)=True:=eq_true (by omega)
 have p1:(2:Nat)^b.1≤2^16:=Nat.pow_le_pow_right (by omega) (by omega)
 have p2:(2:Nat)^b.2≤2^16:=Nat.pow_le_pow_right (by omega) (by omega)
 have k1:=l0 b.1
 have k2:=l0 b.2
 have o1:=cT bH (a:=st b.1) (b:=2^b.2) (by omega) (by omega)
 have q1:=iO (x:=x) (st:=st) (k:=b.1) (by omega)
 have s1:=uR (x:=x) (st:=st) (k:=b.1) (v:=st b.1|||2^b.2) (by omega)
 have q2:=iO (x:=x) (st:=addS st b.1 b.2) (k:=b.2) (by omega)
 have r2:addS st b.1 b.2 b.2=st b.2:=by unfold addS iX;rw[if_neg (fun h=>hb.2.2 h.symm)]
 have o2:=cT bH (a:=st b.2) (b:=2^b.1) (by omega) (by omega)
 have s2:=uR (x:=x) (st:=addS st b.1 b.2) (k:=b.2) (v:=st b.2|||2^b.1) (by omega)
 rw[show iX st b.1 (st b.1|||2^b.2)=addS st b.1 b.2 from rfl]at s1
 rw[show iX (addS st b.1 b.2) b.2 (st b.2|||2^b.1)=addS (addS st b.1 b.2) b.2 b.1 by rw[addS.eq_def (addS st b.1 b.2),r2]]at s2
 rw[r2]at q2
 have z1:=eC x st
 have z2:=eC x (addS st b.1 b.2)
 have t1:(6+b.1+1≤22)=True:=eq_true (by omega)
 have t2:(6+b.2+1≤22)=True:=eq_true (by omega)
 generalize addS (addS st b.1 b.2) b.2 b.1=st2 at *
 generalize addS st b.1 b.2=st1 at *
 unfold aDm
 dsimp only
 (sym=>(simp[Za,Zb,Zc,Zd,Ze,Zf,Zh,Zi,Zl,Zm,Zv,Zw,Z2,Z3,Z7,Z8,Z9,ZG,ZH,ZJ,ZK,ZL,ZM,ZN,ZQ,ZR,ZT,ZU,Ya,Yf,Yg,Yi,Ym,Ys,Yw,Yx,Y8,YA,YD,YO,YT,YU,YZ,Xb,Xg,Xp,Xt,Xv,Wo,Wq,Ww,Wx,Wy,Wz,W0,W3,W4,W5,W6,W8,W9,WA,WC,WE,WG,WH,WI,WJ,WK,WL,WM,WN,WO,WP,WQ,WR,WU,WV,Vb,Ve,Vf,Vg,Vi,Vj,Vk,Vl,VM,VN,VO,VP,VQ,VV,VW,VX,VY,VZ,Ub,Uc,Ud,Ue,Uf,Ug,Ui,Um,Un,Uo,Uq,Ut,Uu,Uw,Ux,Uy,Uz,U0,U1,U2,U3,U4,UB,UZ,Ta,Tb,Tc,Td,Te,Tf,Tg,Tm,Tn,Tq,Ts,Tt,Tw,Tz,T0,T1,TC,TE,Sk,Sx,a1,a2,hx,e1,e2,n1,n2,m1,m2,o1,o2,q1,q2,s1,s2,z1,z2,t1,t2];all_goals tactic=>exact rfl))
abbrev gL1 (x:Vn) (st:Nat→Nat):XH:=[some (.blk true (.cells true (eQ x st)))]
theorem aGc {x:Vn} (ok:x.Ok) {i:Nat} (hi:i<x.ps.length) :
 aW 0 [5,55,56,57] (execW aA 56 0 none (match aDl with | .loop _ a=>a|c=>c) (aV [5,55,56,57] [.pt 0 0,rP (x.ps.map pI),I x.ps.length,I (i:Nat)]) (gL1 x (vN x i)))=some ([.pt 0 0,rP (x.ps.map pI),I x.ps.length,I (i+1:Nat)],gL1 x (vN x (i+1))):=by
 obtain⟨b,hx⟩:=bM hi
 have hb:=ok.p b (List.mem_of_getElem? hx)
 have hF:=ok.F16
 have hp:=aT hF
 have a1:=dH hi
 have a2:=dN hi (by have:=ok.np;omega)
 have l0:=dK ok i
 have up:vN x (i+1)=addS (vN x i) b.2.1 b.2.2:=iV hx _
 rw[up]
 generalize vN x i=st at *
 have e2:=w62 (j:=b.2.2) (by omega)
 have n1:((0:Int)≤b.2.1)=True:=eq_true (by omega)
 have m1:((b.2.1:Int)<16)=True:=eq_true (by omega)
 have p2:(2:Nat)^b.2.2≤2^16:=Nat.pow_le_pow_right (by omega) (by omega)
 have k1:=l0 b.2.1
 have o1:=cT bH (a:=st b.2.1) (b:=2^b.2.2) (by omega) (by omega)
 have q1:=iO (x:=x) (st:=st) (k:=b.2.1) (by omega)
 have s1:=uR (x:=x) (st:=st) (k:=b.2.1) (v:=st b.2.1|||2^b.2.2) (by omega)
 rw[show iX st b.2.1 (st b.2.1|||2^b.2.2)=addS st b.2.1 b.2.2 from rfl]at s1
 have z1:=eC x st
 have t1:(6+b.2.1+1≤22)=True:=eq_true (by omega)
 generalize addS st b.2.1 b.2.2=st1 at *
 unfold aDl
 dsimp only
 (sym=>(simp[Za,Zb,Zc,Zd,Ze,Zf,Zg,Zh,Zk,Zl,Zm,Zv,Zw,Z2,Z3,Z7,Z8,Z9,ZG,ZH,ZJ,ZK,ZL,ZM,ZN,ZQ,ZR,ZT,ZU,Ya,Yf,Yg,Yi,Ym,Ys,Yw,Yx,YO,YT,YU,YZ,Xb,Xg,Xp,Xt,Xv,Wo,Wq,Ww,Wx,Wy,Wz,W0,W3,W4,W5,W6,W8,W9,WC,WE,WG,WH,WI,WJ,WK,WL,WM,WN,WO,WP,WQ,WR,WU,WV,Vb,Ve,Vf,Vg,Vi,Vj,Vk,Vl,Vr,Vt,Vu,Vw,Vx,Vz,VM,VN,VO,VP,VQ,VV,VW,VX,VY,VZ,Ub,Uc,Ud,Ue,Uf,Ug,Ui,Um,Un,Uo,Uq,Ut,Uu,Uw,Ux,Uy,Uz,U0,U1,U2,U3,U4,UB,UZ,Ta,Tb,Tc,Td,Te,Tf,Tg,Tm,Tn,Tq,Ts,Tt,Tw,Tz,T0,T1,TC,TE,Sk,Sx,S4,S5,S6,S8,S9,SA,a1,a2,hx,e2,n1,m1,o1,q1,s1,z1,t1];all_goals tactic=>exact rfl))
theorem aMj (x:Vn):eQ x (fun _=>0)=[I x.F,rB (x.bs.map bI),rP (x.ps.map pI),I x.sick,I x.nur,I x.fix,I 0,I 0,I 0,I 0,I 0,I 0,I 0,I 0,I 0,I 0,I 0,I 0,I 0,I 0,I 0,I 0]:=rfl
theorem w56 {x:Vn} (ok:x.Ok) (h23:runW aA 23 [.agg x.c] []=some (I 0,[])) :
 runW aA 56 [.agg x.c] []=some (.tup [.pt 0 0,I 0],[some (.blk true (.cells true (eQ x (cK x))))]):=by
 have rd:=fun i (hi:i<x.bs.length)=>aGd ok hi
 have rd2:=fun i (hi:i<x.ps.length)=>aGc ok hi
 have z:=UY (n:=(x.bs.length:Int))
 have zp:=UY (n:=(x.ps.length:Int))
 have n1:(x.bs.map bI).length=x.bs.length:=List.length_map ..
 have n2:(x.ps.map pI).length=x.ps.length:=List.length_map ..
 rw[r56 (by simp)];unfold x56;dsimp only
 sym =>
  simp[Za,Zb,Zd,Ze,Zf,Zg,Zh,Zj,Zl,Zm,Zo,Zv,Zz,Z0,Z3,Z7,ZF,ZG,ZO,ZP,ZT,ZU,Ya,Yb,Yr,YQ,YU,YX,YZ,Xg,Xi,Xj,Xp,Xr,Xt,Wc,We,Wg,Wq,Wx,Wy,Wz,W3,W4,W5,W6,W7,W8,WG,WJ,WL,WQ,WR,Ve,Vf,Vg,Vr,Vt,Vu,Vw,Vx,Vz,VK,VP,VR,VU,VV,VW,VX,VY,VZ,Uc,Ud,Ue,Ui,Ul,Uq,Uu,Uy,Uz,U0,U1,U2,U3,U4,U9,UA,UB,UC,UD,UE,UK,UL,UZ,Ta,Td,Te,Th,Tm,Tn,Tq,Ts,Tt,T0,T1,S4,S5,S6,S8,S9,SA,h23]
  tactic =>
   unfold aDm
   rw[aE x.bs.length (fun i=>[.pt 0 0,.pt 1 0,rB (x.bs.map bI),I x.bs.length,I (i:Nat)]) (fun i=>gL x (vO x i))]
   ·rw[show vO x x.bs.length=vN x 0 from rfl]
    generalize hst:vN x 0=st
    sym =>
     simp[Za,Zb,Zf,Zh,Zl,Zm,Zv,Z3,Z7,ZF,ZG,Ya,Yb,Ys,Wx,Wy,Wz,W8,VM,VP,VR,Ue,Uv,UY,UZ,Ta,Te,Tm,Tn,Tr,Ts,Tt,Tu,Ty,T0,T1,z,zp]
     tactic =>
      unfold aDl
      rw[aE x.ps.length (fun i=>[.pt 0 0,rP (x.ps.map pI),I x.ps.length,I (i:Nat)]) (fun i=>gL1 x (vN x i))]
      ·rw[show vN x x.ps.length=cK x from rfl]
       generalize cK x=st2
       (sym=>(simp[Za,Zb,Zf,Zh,Zl,Zm,Zv,Z3,Ys,YU,YY,Xb,Xp,Xs,Xv,X0,XK,XN,Wc,Wf,Wi,Wx,W9,WC,WE,WG,WH,WI,WK,WM,WN,WO,WP,WU,WV,Vb,Vr,V5,V6,V8,V9,VA,VB,VE,VF,VG,VH,VI,VM,VP,VR,VW,VY,VZ,Ub,Ug,Ut,Uv,Uz,U0,U1,U2,U5,U6,U9,UA,UY,Tm,Tn,Tp,Tr,Tt,Tu,Ty,T0,T1,TE,Sl,zp];all_goals tactic=>exact rfl))
      ·rw[hst]
       (sym=>(simp[Za,Y9,YU,YZ,Xb,Xp,Xt,Xv,Wx,W9,WC,WE,WG,WH,WI,WK,WM,WN,WO,WP,WU,WV,Vb,VM,VN,VO,VV,VW,VY,VZ,Ub,Ug,Ut,Uz,U0,U1,U2,Tz,TE,zp];all_goals tactic=>exact rfl))
      ·exact rd2
      ·rw[show vN x x.ps.length=cK x from rfl]
       generalize cK x=st2
       (sym=>(simp[Za,Zb,Zf,Zh,Zl,Zm,Z3,Ys,VM,VP,VR,VS,Uv,UY,Tm,Tn,Tr,Tt,Tu,T0,zp];all_goals tactic=>exact rfl))
   ·rw[show vO x 0=(fun _=>0) from rfl,gL,aMj]
    (sym=>(simp[Za,Y9,YU,YZ,Xb,Xp,Xt,Xv,Wx,W9,WA,WC,WE,WG,WH,WI,WK,WM,WN,WO,WP,WU,WV,Vb,VN,VO,VV,VW,VX,VY,VZ,Ub,Ug,Ut,Uz,U0,U1,U2,Tz,TE,z];all_goals tactic=>exact rfl))
   ·exact rd
   ·generalize vO x x.bs.length=st
    (sym=>(simp[Za,Zb,Zf,Zh,Zl,Zm,Z3,Ys,VM,VP,VR,VS,Uv,UY,Tm,Tn,Tr,Tt,Tu,T0,z];all_goals tactic=>exact rfl))
end Go.Proofs.YtiabjdfdkiijmaaDoor
namespace Go.Proofs.YtiabjdfdkiijmaaDoor
open Go Go.DL

def aZ (a:Nat):Nat:=(el a).length
theorem oI {p q:Nat→Bool}:∀ l:List Nat,(∀ k∈l,p k=true→q k=true)→(l.filter p).length≤(l.filter q).length
 | [],_=>Nat.le_refl _
 | k::l,h=>by
   have ih:=oI l (fun j hj=>h j (List.mem_cons_of_mem _ hj))
   have hk:=h k List.mem_cons_self
   simp only[List.filter_cons]
   cases hp:p k
   ·cases hq:q k
    ·simpa using ih
    ·simp only[Bool.false_eq_true,if_false,if_true,List.length_cons];omega
   ·rw[hk hp];simpa using ih
theorem sW {p q:Nat→Bool} {i:Nat} (hp:p i=false) (hq:q i=true):∀ l:List Nat,i∈l→(∀ k∈l,p k=true→q k=true)→(l.filter p).length<(l.filter q).length
 | [],hi,_=>by simp at hi
 | k::l,hi,h=>by
   simp only[List.filter_cons]
   by_cases hk:k=i
   ·subst hk
    have:=oI l (fun j hj=>h j (List.mem_cons_of_mem _ hj))
    rw[hp,hq]
    simp only[Bool.false_eq_true,if_false,if_true,List.length_cons];omega
   ·have ih:=sW hp hq l (by rcases List.mem_cons.1 hi with rfl|h;exact absurd rfl hk;exact h) (fun j hj=>h j (List.mem_cons_of_mem _ hj))
    have hk:=h k List.mem_cons_self
    cases hp:p k
    ·cases hq:q k
     ·simpa using ih
     ·simp only[Bool.false_eq_true,if_false,if_true,List.length_cons];omega
    ·rw[hk hp];simpa using ih
def sub (a b:Nat):Prop:=∀ i,a.testBit i=true→b.testBit i=true
theorem dF (a:Nat):sub a a:=fun _ h=>h
theorem nY {a b c:Nat} (h:sub a b) (g:sub b c):sub a c:=fun i hi=>g i (h i hi)
theorem aKn (a k:Nat):sub a (a|||2^k):=fun i hi=>by rw[eK,hi];rfl
theorem jL {a b:Nat} (h:sub a b) (g:sub b a):a=b:=by
 apply Nat.eq_of_testBit_eq
 intro i
 rw[Bool.eq_iff_iff]
 exact⟨h i,g i⟩
theorem rO {a b:Nat} (h:sub a b):aZ a≤aZ b:=oI _ fun k _ hk=>h k hk
theorem aEf {a b i:Nat} (h:sub a b) (hi:i<16) (ha:a.testBit i=false) (hb:b.testBit i=true):aZ a<aZ b:=sW ha hb _ (List.mem_range.2 hi) fun k _ hk=>h k hk
theorem kQ (a:Nat):aZ a≤16:=sY a
theorem fO {a i:Nat} (ha:a<65536) (hi:a.testBit i=true):i<16:=eI (F:=16) ha hi
theorem aAD {a b:Nat} (h:sub a b) (hb:b<65536) (hc:aZ b≤aZ a):a=b:=by
 refine jL h fun i hi=>?_
 cases ha:a.testBit i
 ·have:=aEf h (fO hb hi) ha hi
  omega
 ·rfl
theorem aCZ {a F:Nat} (ha:a<2^F) (hF:F≤16):aZ a≤F:=by
 have e:el a=(List.range F).filter (a.testBit ·):=by
  unfold el
  rw[show (16:Nat)=F+(16-F) by omega,List.range_add,List.filter_append]
  rw[(List.filter_eq_nil_iff (l:=List.map (F + ·) (List.range (16-F)))).2,List.append_nil]
  intro k hk
  rw[List.mem_map]at hk
  obtain⟨j,_,rfl⟩:=hk
  rw[tG ha (by omega)];simp
 rw[aZ,e]
 have:=List.length_filter_le (fun k=>a.testBit k) (List.range F)
 simpa using this
theorem aDa:aZ 0=0:=rfl
theorem aHE {a i:Nat} (hi:i<16) (h:a.testBit i=true):0<aZ a:=by
 have:=aEf (a:=0) (b:=a) (fun _ h=>by simp at h) hi (by simp) h
 omega
theorem aAC {a b:Nat} (h:∀ i,a.testBit i=true→b.testBit i=false):aZ (a|||b)=aZ a+aZ b:=by
 unfold aZ el
 rw[←sV h]
 congr 2
 funext k
 rw[Nat.testBit_or]
theorem aBT {i:Nat} (hi:i<16):aZ (2^i)=1:=by
 match i,hi with
 | 0,_=>rfl
 | 1,_=>rfl
 | 2,_=>rfl
 | 3,_=>rfl
 | 4,_=>rfl
 | 5,_=>rfl
 | 6,_=>rfl
 | 7,_=>rfl
 | 8,_=>rfl
 | 9,_=>rfl
 | 10,_=>rfl
 | 11,_=>rfl
 | 12,_=>rfl
 | 13,_=>rfl
 | 14,_=>rfl
 | 15,_=>rfl
 | _+16,h=>exact absurd h (by omega)
theorem oC (i j:Nat):(2^i).testBit j=decide (i=j):=by rw[Nat.testBit_two_pow]
theorem mE {a i:Nat} (hi:i<16) (ha:a.testBit i=false):aZ (a|||2^i)=aZ a+1:=by
 rw[aAC,aBT hi]
 intro j hj
 rw[oC]
 have:i≠j:=fun h=>by rw[h,hj]at ha;simp at ha
 simp[this]
inductive Rch (st:Nat→Nat) (s cl:Nat):Nat→Prop
 | base {f:Nat}:s.testBit f=true→cl.testBit f=false→Rch st s cl f
 | step {a b:Nat}:Rch st s cl a→(st a).testBit b=true→cl.testBit b=false→Rch st s cl b
theorem Rch.free {st:Nat→Nat} {s cl f:Nat} (h:Rch st s cl f):cl.testBit f=false:=by cases h<;>assumption
theorem Rch.lt {st:Nat→Nat} {s cl f F:Nat} (hs:s<2^F) (hst:∀ k,st k<2^F) (h:Rch st s cl f):f<F:=by
 cases h with
 | base h _=>exact eI hs h
 | step _ h _=>exact eI (hst _) h
def Clo (st:Nat→Nat) (cl m:Nat):Prop:=∀ a b,m.testBit a=true→(st a).testBit b=true→cl.testBit b=false→m.testBit b=true
theorem Rch.sub {st:Nat→Nat} {s cl m f:Nat} (h0:∀ i,s.testBit i=true→cl.testBit i=false→m.testBit i=true) (hc:Clo st cl m) (h:Rch st s cl f):m.testBit f=true:=by
 induction h with
 | base h g=>exact h0 _ h g
 | step _ h g ih=>exact hc _ _ ih h g
theorem Rch.mono {st st':Nat→Nat} {s s' cl cl' f:Nat} (h0:Go.Proofs.YtiabjdfdkiijmaaDoor.sub s s') (h1:∀ k,Go.Proofs.YtiabjdfdkiijmaaDoor.sub (st k) (st' k)) (h2:Go.Proofs.YtiabjdfdkiijmaaDoor.sub cl' cl) (h:Rch st s cl f):Rch st' s' cl' f:=by
 have g:∀ i,cl.testBit i=false→cl'.testBit i=false:=fun i hi=>by
  cases h:cl'.testBit i
  ·rfl
  ·rw[h2 i h]at hi;simp at hi
 induction h with
 | base h q=>exact .base (h0 _ h) (g _ q)
 | step _ h q ih=>exact .step ih (h1 _ _ h) (g _ q)
theorem aJY {F:Nat} {M:Nat→Nat} {P:Nat→Prop} (hF:F≤16) (hl:∀ k,M k<2^F) (hm:∀ k,sub (M k) (M (k+1))) (hp:∀ k,M (k+1)=M k→P (M k)) (hk:∀ k,P (M k)→P (M (k+1))) (hfull:P (2^F-1)):P (M F):=by
 have up:∀ k,P (M k)∨k≤aZ (M k):=by
  intro k
  induction k with
  | zero=>exact .inr (Nat.zero_le _)
  | succ k ih =>
    rcases ih with ih|ih
    ·exact .inl (hk k ih)
    ·by_cases e:M (k+1)=M k
     ·exact .inl (hk k (hp k e))
     ·right
      have h16:M (k+1)<65536:=Nat.lt_of_lt_of_le (hl _) (aT hF)
      by_cases hc:aZ (M (k+1))≤aZ (M k)
      ·exact absurd (aAD (hm k) h16 hc).symm e
      ·omega
 rcases up F with h|h
 ·exact h
 ·have e:M F=2^F-1:=by
   refine aAD ?_ ?_ ?_
   ·intro i hi
    rw[Nat.testBit_two_pow_sub_one]
    simpa using eI (hl F) hi
   ·have:=aT hF
    have:=Nat.two_pow_pos F
    omega
   ·have:=aCZ (a:=2^F-1) (F:=F) (by have:=Nat.two_pow_pos F;omega) hF
    omega
  rw[e];exact hfull
end Go.Proofs.YtiabjdfdkiijmaaDoor
namespace Go.Proofs.YtiabjdfdkiijmaaDoor
open Go Go.DL
set_option maxRecDepth 100000
set_option maxHeartbeats 4000000
theorem aFO {σ:Type} (n:Nat) (Inv:Nat→σ→Prop) (St:Nat→σ→σ→Prop) (s0:σ) (h0:Inv 0 s0) (hs:∀ i s,i<n→Inv i s→∃ s',Inv (i+1) s'∧St i s s'):∃ F:Nat→σ,F 0=s0∧(∀ i,i≤n→Inv i (F i))∧∀ i,i<n→St i (F i) (F (i+1)):=by
 induction n with
 | zero=>exact⟨fun _=>s0,rfl,fun i hi=>by obtain rfl:i=0:=(by omega);exact h0,fun i hi=>by omega⟩
 | succ n ih =>
   obtain⟨F,h1,h2,h3⟩:=ih fun i s hi=>hs i s (by omega)
   obtain⟨s',h4,h5⟩:=hs n (F n) (by omega) (h2 n (Nat.le_refl _))
   refine⟨fun i=>if i≤n then F i else s',(if_pos (Nat.zero_le n)).trans h1,fun i hi=>?_,fun i hi=>?_⟩
   ·dsimp only
    by_cases h:i≤n
    ·rw[if_pos h];exact h2 i h
    ·obtain rfl:i=n+1:=by omega
     rw[if_neg h];exact h4
   ·dsimp only
    by_cases h:i+1≤n
    ·rw[if_pos h,if_pos (by omega)];exact h3 i (by omega)
    ·obtain rfl:i=n:=by omega
     rw[if_neg h,if_pos (Nat.le_refl _)];exact h5
abbrev gV (M:Nat) (ci:Int) (l:List AV):XH:=[cI M,some (.blk true (.cells true [I ci])),some (.blk false (.cells true [.pt 3 0])),some (.blk true (.cells true l)),some (.blk false (.cells true [.fn (.func 84) [] [.pt 0 0,.pt 1 0,.pt 2 0,.pt 4 0]]))]
abbrev gX (K:Nat) (M:Nat) (ci:Int) (l:List AV):XH:=[some (.loop K 0 [.pt 1 0] .ready),some (.blk false (.cells true [.fn (.func 84) [] [.pt 2 0,.pt 3 0,.pt 4 0,.pt 1 0]])),cI M,some (.blk true (.cells true [I ci])),some (.blk false (.cells true [.pt 5 0])),some (.blk true (.cells true l))]
theorem aJX (K M:Nat) (ci:Int) (l:List AV):aFh 6 (gX K M ci l):=by
 refine⟨fun _=>rfl,fun _ _=>rfl,fun _=>rfl,?_,?_⟩
 ·intro a e h0 h1
  (sym=>(simp[Xb,Xe,Xf,Xv,Xy,Xz,W9,WE,WG,WI,WK,WL,WM,WN,WO,WU,WV,WW,WX,WZ,Vb,Vc,Vd,VN,VO,VV,VW,VX,VY,VZ,Ua,Ub,Ut,Uy,Uz,U0,U1,U2,Tz,h0,h1];all_goals tactic=>exact rfl))
 ·intro a
  (sym=>(simp[Za,YY,Xb,Xe,Xs,Xv,Xy,XK,Wf,W9,WE,WG,WI,WK,WL,WM,WN,WO,WU,WV,WW,WX,WZ,Vb,Vc,Vd,Vr,V8,V9,VA,VV,VW,VX,VY,VZ,Ua,Ub,Ut,Uy,Uz,U0,U1,U2,U5,U9,Sl];all_goals tactic=>exact rfl))
structure aMF (st:Nat→Nat) (cl M M' f:Nat):Prop where
 sub:sub M M'
 lt:M'<65536
 has:cl.testBit f=true∨M'.testBit f=true
 new:∀ a,M'.testBit a=true→M.testBit a=false→Rch st (2^f) cl a∧∀ b,(st a).testBit b=true→cl.testBit b=false→M'.testBit b=true
def Clr (ci:Int) (cl:Nat):Prop:=∀ f:Nat,f<16→runW aA 60 [I ci,I f] []=some (.bool (cl.testBit f),[])
theorem aJE {cl:Nat} (h:cl<65536):Clr (cl:Int) cl:=fun f hf=>oO (by omega) (by omega)
def xN (l:List AV) (ci:Int) (M M' f:Nat):Prop:=runW aA 84 [I (f:Nat),.pt 0 0,.pt 1 0,.pt 2 0,.pt 4 0] (gV M ci l)=some (.tup [],gV M' ci l)
theorem aMI {l:List AV} {ci:Int} {M M' v:Nat} (h:xN l ci M M' v):Yd (gX 84 M ci l) (gX 84 M' ci l) v true:=by
 unfold xN at h
 have y:runYW aA (.fn (.yield 0) [] []) [I (v:Nat)] (gX 84 M ci l)=some (.bool true,gX 84 M' ci l):=by
  rw[jW (K:=84) (d:=x84) (site:=0) (vs:=[.pt 1 0]) rfl rfl (by rfl) rfl]
  (sym=>(simp[Za,Zb,Zf,Zg,Zh,Zj,Zl,Zm,Zv,ZG,ZO,ZP,ZT,ZU,YU,YV,Xb,Xe,Xp,Xq,Xs,Xv,Xy,X0,Wc,Wx,Wy,Wz,W0,W5,W6,W8,W9,WA,WB,WC,WE,WF,WG,WH,WI,WJ,WK,WL,WM,WN,WO,WQ,WR,WS,WU,WV,WW,WX,WZ,Vb,Vc,Vd,Ve,Vf,Vg,Vh,Vr,Vt,Vu,Vv,V7,VA,VM,VV,VW,VX,VY,VZ,Ua,Ub,Uc,Ud,Ug,Us,Ut,Uy,Uz,U0,U1,U2,UI,UJ,UZ,Ta,Te,Ts,Tw,T0,TT,TU,TV,TW,Se,Sf,Sg,Si,Sl,S4,S5,S7,S8,S9,SA,h];all_goals tactic=>exact rfl))
 intro a
 (sym=>(simp[YU,Xb,Xe,Xf,Xp,Xq,Xv,Xy,Xz,Wx,W0,W5,W6,W8,W9,WA,WB,WC,WF,WG,WH,WI,WJ,WL,WM,WQ,WR,WS,WU,WV,WW,WX,Vb,Vc,Vd,Ve,Vf,Vg,Vh,VV,VW,VX,VY,VZ,Uc,Ud,Ug,Us,Ut,Uy,Uz,U0,U1,U2,Sd,y];all_goals tactic=>exact rfl))
theorem aFt {st:Nat→Nat} {l:List AV} {ci:Int} {cl:Nat} {M0:Nat} (h0:M0<65536) (a:Nat) (hv:∀ M v,M<65536→sub M0 M→v∈el a→∃ M',aMF st cl M M' v∧xN l ci M M' v) :
 ∃ F:Nat→Nat,F 0=M0∧(∀ i v,(el a)[i]?=some v→xN l ci (F i) (F (i+1)) v)∧sub M0 (F (el a).length)∧F (el a).length<65536∧(∀ v∈el a,cl.testBit v=true∨(F (el a).length).testBit v=true) ∧
   (∀ b,(F (el a).length).testBit b=true→M0.testBit b=false→(∃ v∈el a,Rch st (2^v) cl b)∧∀ c,(st b).testBit c=true→cl.testBit c=false→(F (el a).length).testBit c=true):=by
 obtain⟨F,f0,f1,f2⟩:=aFO (el a).length
  (fun i M=>sub M0 M∧M<65536∧(∀ j v,j<i→(el a)[j]?=some v→cl.testBit v=true∨M.testBit v=true) ∧
   (∀ b,M.testBit b=true→M0.testBit b=false→(∃ v∈el a,Rch st (2^v) cl b)∧∀ c,(st b).testBit c=true→cl.testBit c=false→M.testBit c=true))
  (fun i M M'=>∀ v,(el a)[i]?=some v→xN l ci M M' v) M0
  ⟨dF _,h0,fun j v hj=>absurd hj (by omega),fun b h1 h2=>by rw[h1]at h2;simp at h2⟩
  (by
   rintro i M hi ⟨g1,g2,g3,g4⟩
   obtain⟨v,hx⟩:=bM hi
   have hm:=List.mem_of_getElem? hx
   obtain⟨M',p,k⟩:=hv M v g2 g1 hm
   refine⟨M',⟨nY g1 p.sub,p.lt,?_,?_⟩,fun w hw=>by rw[hx]at hw;rw[←Option.some.inj hw];exact k⟩
   ·intro j w hj hw
    by_cases e:j=i
    ·subst e
     rw[hx]at hw
     rw[←Option.some.inj hw];exact p.has
    ·rcases g3 j w (by omega) hw with h|h
     ·exact .inl h
     ·exact .inr (p.sub _ h)
   ·intro b h1 h2
    cases hb:M.testBit b
    ·have:=p.new b h1 hb
     exact⟨⟨v,hm,this.1⟩,this.2⟩
    ·obtain⟨q1,q2⟩:=g4 b hb h2
     exact⟨q1,fun c hc hd=>p.sub _ (q2 c hc hd)⟩)
 obtain⟨e1,e2,e3,e4⟩:=f1 _ (Nat.le_refl _)
 refine⟨F,f0,fun i v hx=>f2 i (fJ hx) v hx,e1,e2,?_,e4⟩
 intro v hm
 obtain⟨j,hj⟩:=List.getElem?_of_mem hm
 exact e3 j v (fJ hj) hj
theorem aII {st:Nat→Nat} {cl f v b:Nat} (hf:cl.testBit f=false) (hv:(st f).testBit v=true) (h:Rch st (2^v) cl b):Rch st (2^f) cl b:=by
 induction h with
 | base h g =>
   rw[oC]at h
   obtain rfl:=of_decide_eq_true h
   exact .step (.base (by rw[oC];simp) hf) hv g
 | step _ h g ih=>exact .step ih h g
theorem w84 {l:List AV} {st:Nat→Nat} {ci:Int} {cl:Nat} (hl:∀ k,k<16→l[6+k]?=some (I (st k))) (hst:∀ k,st k<65536) (hc:Clr ci cl) :
 ∀ n M f,M<65536→f<16→16≤aZ M+n→∃ M',aMF st cl M M' f∧xN l ci M M' f:=by
 intro n
 induction n with
 | zero =>
   intro M f hM hf hn
   have e1:=oO (a:=M) (j:=f) (by omega) (by omega)
   cases h:M.testBit f
   ·have:=mE hf h
    have:=kQ (M|||2^f)
    omega
   ·refine⟨M,⟨dF _,hM,.inr h,fun a h1 h2=>by rw[h1]at h2;simp at h2⟩,?_⟩
    rw[h]at e1
    unfold xN
    rw[r84 (by simp)];unfold x84;dsimp only
    (sym=>(simp[Za,Zb,Zf,Zg,Zj,Zl,Zm,Zp,Zt,Zv,Zy,ZG,ZO,ZP,ZT,ZU,ZV,YU,YY,Xb,Xe,Xp,Xq,Xs,Xv,Xy,XK,Wc,Wf,Wi,Wx,Wy,Wz,W6,W7,W8,W9,WE,WG,WI,WJ,WK,WL,WM,WN,WO,WQ,WR,WU,WV,WW,WZ,Vb,Vc,Ve,Vf,Vg,Vr,Vt,Vu,Vw,Vx,Vz,V5,V6,V8,V9,VA,VB,VD,VF,VK,VP,VQ,VU,VV,VW,VX,VY,VZ,Ua,Ub,Uc,Ud,Ut,Uy,Uz,U0,U1,U2,U5,U9,UA,UZ,Ta,Te,Tn,Tp,Tt,Tv,T0,T1,Sl,S4,S5,S6,S8,S9,SA,e1];all_goals tactic=>exact rfl))
 | succ n ih =>
   intro M f hM hf hn
   have e1:=oO (a:=M) (j:=f) (by omega) (by omega)
   have e2:=hc f hf
   cases h:M.testBit f
   ·cases h2:cl.testBit f
    ·rw[h]at e1
     rw[h2]at e2
     have e3:=w62 (j:=f) (by omega)
     have hp:2^f<65536:=Nat.pow_lt_pow_of_lt (a:=2) (n:=f) (m:=16) (by omega) hf
     have o1:=cT bH (a:=M) (b:=2^f) (by omega) (Nat.lt_trans hp (by omega))
     have hM1:M|||2^f<65536:=Nat.or_lt_two_pow (n:=16) hM hp
     have hcu:=mE hf h
     obtain⟨F,f0,f1,f2,f3,f4,f5⟩:=aFt (st:=st) (l:=l) (ci:=ci) (cl:=cl) hM1 (st f) (fun M' v h1 h2 h3=>ih M' v h1 (fM.1 h3).1 (by have:=rO h2;omega))
     have ea:=rH (n:=6) (G:=fun i=>gX 84 (F i) ci l) (hst f) (fun i _=>aJX 84 _ _ _) (fun i v hx=>aMI (f1 i v hx))
     rw[f0]at ea
     have w8:=w80 (a:=st f)
     have k1:=hl f hf
     have n1:((0:Int)≤f)=True:=eq_true (by omega)
     have m1:((f:Int)<16)=True:=eq_true (by omega)
     refine⟨F (el (st f)).length,⟨nY (aKn M f) f2,f3,.inr (f2 f (by rw[eK];simp)),?_⟩,?_⟩
     ·intro a h3 h4
      by_cases ha:f=a
      ·subst ha
       refine⟨.base (by rw[oC];simp) h2,fun b hb hd=>?_⟩
       rcases f4 b (fM.2 ⟨fO (hst f) hb,hb⟩)with q|q
       ·rw[hd]at q;simp at q
       ·exact q
      ·obtain⟨⟨v,hv,q1⟩,q2⟩:=f5 a h3 (by rw[eK,h4];simp[ha])
       exact⟨aII h2 (fM.1 hv).2 q1,q2⟩
     ·unfold xN
      generalize M|||2^f=M1 at *
      generalize F (el (st f)).length=M2 at *
      have ea:runW aA 86 [.fn (.yield 0) [] [],.pt 6 0] [some (.loop 84 0 [.pt 1 0] .ready),some (.blk false (.cells true [.fn (.func 84) [] [.pt 2 0,.pt 3 0,.pt 4 0,.pt 1 0]])),cI M1,some (.blk true (.cells true [I ci])),some (.blk false (.cells true [.pt 5 0])),some (.blk true (.cells true l)),cI (st f)] =
       some (.tup [],[some (.loop 84 0 [.pt 1 0] .ready),some (.blk false (.cells true [.fn (.func 84) [] [.pt 2 0,.pt 3 0,.pt 4 0,.pt 1 0]])),cI M2,some (.blk true (.cells true [I ci])),some (.blk false (.cells true [.pt 5 0])),some (.blk true (.cells true l)),some (.blk true (.cells true [.int .i64 0]))]):=ea
      rw[r84 (by simp)];unfold x84;dsimp only
      (sym=>(simp[Za,Zb,Zc,Ze,Zf,Zg,Zh,Zi,Zj,Zl,Zm,Zp,Zr,Zv,Zy,Z2,Z3,Z7,Z8,ZG,ZH,ZJ,ZK,ZM,ZN,ZO,ZP,ZQ,ZR,ZT,ZU,ZW,Ya,Ym,Yw,Yx,YO,YT,YU,YY,Xb,Xe,Xf,Xg,Xp,Xq,Xs,Xv,Xy,Xz,XK,Wc,Wf,Wi,Wo,Ww,Wx,Wy,Wz,W0,W3,W5,W6,W7,W8,W9,WA,WB,WC,WE,WF,WG,WH,WI,WJ,WK,WL,WM,WN,WO,WQ,WR,WS,WU,WV,WW,WX,WZ,Vb,Vc,Vd,Ve,Vf,Vg,Vh,Vi,Vj,Vk,Vl,Vr,Vt,Vu,Vw,Vx,Vz,V4,V6,V8,V9,VA,VB,VD,VF,VK,VP,VR,VU,VV,VW,VX,VY,VZ,Ua,Ub,Uc,Ud,Ug,Ui,Um,Un,Uo,Uq,Us,Ut,Uw,Ux,Uy,Uz,U0,U1,U2,U3,U4,U5,U9,UA,UB,UZ,Ta,Te,Tf,Tg,Tm,Tn,Tq,Ts,Tt,Tw,T0,T1,TC,TT,TU,TX,TY,TZ,Sa,Sb,Sc,Sk,Sl,Sx,S4,S5,S6,S8,S9,SA,e1,e2,e3,o1,w8,k1,n1,m1,ea];all_goals tactic=>exact rfl))
    ·refine⟨M,⟨dF _,hM,.inl h2,fun a h1 h2=>by rw[h1]at h2;simp at h2⟩,?_⟩
     rw[h]at e1
     rw[h2]at e2
     unfold xN
     rw[r84 (by simp)];unfold x84;dsimp only
     (sym=>(simp[Za,Zb,Zf,Zg,Zj,Zl,Zm,Zp,Zr,Zv,Zy,ZG,ZO,ZP,ZT,ZU,ZW,YU,YY,Xb,Xe,Xp,Xq,Xs,Xv,Xy,XK,Wc,Wf,Wi,Wx,Wy,Wz,W6,W7,W8,W9,WE,WG,WI,WJ,WK,WL,WM,WN,WO,WQ,WR,WU,WV,WW,WZ,Vb,Vc,Ve,Vf,Vg,Vr,Vt,Vu,Vw,Vx,Vz,V5,V6,V8,V9,VA,VB,VD,VF,VK,VP,VQ,VU,VV,VW,VX,VY,VZ,Ua,Ub,Uc,Ud,Ut,Uy,Uz,U0,U1,U2,U5,U9,UA,UZ,Ta,Te,Tn,Tp,Tt,Tv,T0,T1,Sl,S4,S5,S6,S8,S9,SA,e1,e2];all_goals tactic=>exact rfl))
   ·refine⟨M,⟨dF _,hM,.inr h,fun a h1 h2=>by rw[h1]at h2;simp at h2⟩,?_⟩
    rw[h]at e1
    unfold xN
    rw[r84 (by simp)];unfold x84;dsimp only
    (sym=>(simp[Za,Zb,Zf,Zg,Zj,Zl,Zm,Zp,Zt,Zv,Zy,ZG,ZO,ZP,ZT,ZU,ZV,YU,YY,Xb,Xe,Xp,Xq,Xs,Xv,Xy,XK,Wc,Wf,Wi,Wx,Wy,Wz,W6,W7,W8,W9,WE,WG,WI,WJ,WK,WL,WM,WN,WO,WQ,WR,WU,WV,WW,WZ,Vb,Vc,Ve,Vf,Vg,Vr,Vt,Vu,Vw,Vx,Vz,V5,V6,V8,V9,VA,VB,VD,VF,VK,VP,VQ,VU,VV,VW,VX,VY,VZ,Ua,Ub,Uc,Ud,Ut,Uy,Uz,U0,U1,U2,U5,U9,UA,UZ,Ta,Te,Tn,Tp,Tt,Tv,T0,T1,Sl,S4,S5,S6,S8,S9,SA,e1];all_goals tactic=>exact rfl))
def jY (st:Nat→Nat) (cl:Nat) (m a:Nat):Nat:=if m.testBit a then m|||gE (st a) cl else m
def aMf (st:Nat→Nat) (cl:Nat) (m:Nat):Nat:=(List.range 16).foldl (jY st cl) m
def qT (st:Nat→Nat) (s cl:Nat):Nat→Nat
 | 0=>gE s cl
 | n+1=>aMf st cl (qT st s cl n)
def eJ (st:Nat→Nat) (s cl:Nat):Nat:=qT st s cl 16
section
variable {st:Nat→Nat} {s cl:Nat} (hst:∀ k,st k<65536) (hs:s<65536) (hcl:cl<65536)
theorem wD (m a:Nat):sub m (jY st cl m a):=fun i hi=>by
 unfold jY
 split
 ·rw[Nat.testBit_or,hi];rfl
 ·exact hi
include hst in
theorem aIJ {m:Nat} (a:Nat) (h:m<65536):jY st cl m a<65536:=by
 unfold jY
 split
 ·exact Nat.or_lt_two_pow (n:=16) h (Nat.lt_of_le_of_lt (iC _ _) (hst a))
 ·exact h
theorem oH (l:List Nat) (m:Nat):sub m (l.foldl (jY st cl) m):=by
 induction l generalizing m with
 | nil=>exact dF _
 | cons a l ih=>exact nY (wD m a) (ih _)
include hst in
theorem aHg (l:List Nat) {m:Nat} (h:m<65536):l.foldl (jY st cl) m<65536:=by
 induction l generalizing m with
 | nil=>exact h
 | cons a l ih=>exact ih (aIJ hst a h)
include hst hs in
theorem uM:∀ n,qT st s cl n<2^16
 | 0=>Nat.lt_of_le_of_lt (iC _ _) hs
 | n+1=>aHg hst _ (uM n)
include hcl in
theorem aGI:∀ n i,(qT st s cl n).testBit i=true→Rch st s cl i:=by
 have main:∀ (l:List Nat) (m:Nat),(∀ i,m.testBit i=true→Rch st s cl i)→∀ i,(l.foldl (jY st cl) m).testBit i=true→Rch st s cl i:=by
  intro l
  induction l with
  | nil=>intro m h;exact h
  | cons a l ih =>
    intro m h
    refine ih _ fun i hi=>?_
    unfold jY at hi
    split at hi
    ·next ha =>
     rw[Nat.testBit_or,Bool.or_eq_true]at hi
     rcases hi with hi|hi
     ·exact h i hi
     ·rw[bX (by omega)]at hi
      simp only[Bool.and_eq_true,Bool.not_eq_true']at hi
      exact .step (h a ha) hi.1 hi.2.2
    ·exact h i hi
 intro n
 induction n with
 | zero =>
   intro i hi
   rw[qT,bX (by omega)]at hi
   simp only[Bool.and_eq_true,Bool.not_eq_true']at hi
   exact .base hi.1 hi.2.2
 | succ n ih=>exact main _ _ ih
include hst hcl in
theorem aEF {m:Nat} (hm:m<65536) (h:aMf st cl m=m):Clo st cl m:=by
 intro a b ha hb hc
 have h16:=fO hm ha
 have main:∀ (l:List Nat) (m:Nat),m.testBit a=true→a∈l→(l.foldl (jY st cl) m).testBit b=true:=by
  intro l
  induction l with
  | nil=>intro m _ h;simp at h
  | cons k l ih =>
    intro m hm hk
    by_cases e:a=k
    ·subst e
     refine oH l _ b ?_
     unfold jY
     rw[if_pos hm,Nat.testBit_or,bX (by omega),hb,hc]
     have:=fO (hst a) hb
     simp;omega
    ·exact ih _ (wD m k a hm) (by rcases List.mem_cons.1 hk with h|h;exact absurd h e;exact h)
 have:=main (List.range 16) m ha (List.mem_range.2 h16)
 rw[show (List.range 16).foldl (jY st cl) m=m from h]at this
 exact this
include hst hs hcl in
theorem jX (i:Nat):(eJ st s cl).testBit i=true↔Rch st s cl i:=by
 constructor
 ·exact aGI hcl 16 i
 ·intro h
  refine h.sub (m:=eJ st s cl) (fun j hj hc=>?_) ?_
  ·have:∀ n,(qT st s cl n).testBit j=true:=by
    intro n
    induction n with
    | zero =>
      rw[qT,bX (by omega),hj,hc]
      have:=fO hs hj
      simp;omega
    | succ n ih=>exact oH _ _ j ih
   exact this 16
  ·refine aJY (F:=16) (M:=qT st s cl) (P:=Clo st cl) (by omega) (uM hst hs) (fun k=>oH _ _) (fun k hk=>aEF hst hcl (uM hst hs k) hk) (fun k hk=>?_) ?_
   ·have e:qT st s cl (k+1)=qT st s cl k:=by
     have hin:∀ (l:List Nat),l.foldl (jY st cl) (qT st s cl k)=qT st s cl k:=by
      intro l
      induction l with
      | nil=>rfl
      | cons a l ih =>
        have:jY st cl (qT st s cl k) a=qT st s cl k:=by
         unfold jY
         split
         ·next ha =>
          refine jL (fun i hi=>?_) (fun i hi=>by rw[Nat.testBit_or,hi];rfl)
          rw[Nat.testBit_or,Bool.or_eq_true]at hi
          rcases hi with hi|hi
          ·exact hi
          ·rw[bX (by omega)]at hi
           simp only[Bool.and_eq_true,Bool.not_eq_true']at hi
           exact hk a i ha hi.1 hi.2.2
         ·rfl
        rw[List.foldl_cons,this,ih]
     exact hin _
    rw[e];exact hk
   ·intro a b _ hb _
    rw[Nat.testBit_two_pow_sub_one]
    simpa using fO (hst a) hb
include hst hs in
theorem aEE:eJ st s cl<65536:=uM hst hs 16
end
theorem w78 {l:List AV} {st:Nat→Nat} {ci:Int} {s cl:Nat} (hl:∀ k,k<16→l[6+k]?=some (I (st k))) (h3:l[3]?=some (I s)) (hst:∀ k,st k<65536) (hs:s<65536) (hcl:cl<65536) (hc:Clr ci cl) :
 runW aA 78 [.pt 0 0,I ci] [some (.blk true (.cells true l))]=some (I (eJ st s cl:Nat),[some (.blk true (.cells true l))]):=by
 obtain⟨F,f0,f1,f2,f3,f4,f5⟩:=aFt (st:=st) (l:=l) (ci:=ci) (cl:=cl) (M0:=0) (by omega) s (fun M' v h1 h2 h3=>w84 hl hst hc 16 M' v h1 (fM.1 h3).1 (by omega))
 have er:F (el s).length=eJ st s cl:=by
  apply Nat.eq_of_testBit_eq
  intro i
  rw[Bool.eq_iff_iff,jX hst hs hcl]
  constructor
  ·intro h
   obtain⟨⟨v,hv,q⟩,_⟩:=f5 i h (by simp)
   refine q.mono (fun j hj=>?_) (fun _=>dF _) (dF _)
   rw[oC]at hj
   rw[←of_decide_eq_true hj];exact(fM.1 hv).2
  ·intro h
   refine h.sub (fun j hj hd=>?_) (fun a b ha hb hd=>(f5 a ha (by simp)).2 b hb hd)
   rcases f4 j (fM.2 ⟨fO hs hj,hj⟩)with q|q
   ·rw[hd]at q;simp at q
   ·exact q
 have ea:=rH (n:=6) (G:=fun i=>gX 78 (F i) ci l) hs (fun i _=>aJX 78 _ _ _) (fun i v hx=>by
  have h:=f1 i v hx
  generalize F i=M at *
  generalize F (i+1)=M' at *
  unfold xN at h
  have y:runYW aA (.fn (.yield 0) [] []) [I (v:Nat)] (gX 78 M ci l)=some (.bool true,gX 78 M' ci l):=by
   rw[jW (K:=78) (d:=x78) (site:=0) (vs:=[.pt 1 0]) rfl rfl (by rfl) rfl]
   (sym=>(simp[Za,Zb,Zf,Zg,Zh,Zj,Zl,Zm,Zv,ZG,ZO,ZP,ZT,ZU,YU,YV,Xb,Xe,Xp,Xq,Xs,Xv,Xy,X0,Wc,Wx,Wy,Wz,W0,W5,W6,W8,W9,WA,WB,WC,WE,WF,WG,WH,WI,WJ,WK,WL,WM,WN,WO,WQ,WR,WS,WU,WV,WW,WX,WZ,Vb,Vc,Vd,Ve,Vf,Vg,Vh,Vr,Vt,Vu,Vv,V7,VA,VM,VV,VW,VX,VY,VZ,Ua,Ub,Uc,Ud,Ug,Us,Ut,Uy,Uz,U0,U1,U2,UI,UJ,UZ,Ta,Te,Ts,Tw,T0,TT,TU,TV,TW,Se,Sf,Sg,Si,Sl,S4,S5,S7,S8,S9,SA,h];all_goals tactic=>exact rfl))
  intro a
  (sym=>(simp[YU,Xb,Xe,Xf,Xp,Xq,Xv,Xy,Xz,Wx,W0,W5,W6,W8,W9,WA,WB,WC,WF,WG,WH,WI,WJ,WL,WM,WQ,WR,WS,WU,WV,WW,WX,Vb,Vc,Vd,Ve,Vf,Vg,Vh,VV,VW,VX,VY,VZ,Uc,Ud,Ug,Us,Ut,Uy,Uz,U0,U1,U2,Sd,y];all_goals tactic=>exact rfl)))
 rw[f0]at ea
 have w8:=w80 (a:=s)
 rw[er]at ea
 generalize eJ st s cl=M2 at *
 have ea:runW aA 86 [.fn (.yield 0) [] [],.pt 6 0] [some (.loop 78 0 [.pt 1 0] .ready),some (.blk false (.cells true [.fn (.func 84) [] [.pt 2 0,.pt 3 0,.pt 4 0,.pt 1 0]])),some (.blk true (.cells true [.int .i64 0])),some (.blk true (.cells true [I ci])),some (.blk false (.cells true [.pt 5 0])),some (.blk true (.cells true l)),cI s] =
  some (.tup [],[some (.loop 78 0 [.pt 1 0] .ready),some (.blk false (.cells true [.fn (.func 84) [] [.pt 2 0,.pt 3 0,.pt 4 0,.pt 1 0]])),cI M2,some (.blk true (.cells true [I ci])),some (.blk false (.cells true [.pt 5 0])),some (.blk true (.cells true l)),some (.blk true (.cells true [.int .i64 0]))]):=ea
 rw[r78 (by simp)];unfold x78;dsimp only
 (sym=>(simp[Za,Zb,Zc,Zf,Zh,Zl,Zm,Zo,Zv,Zw,Zx,Zz,Z2,Z7,ZG,ZK,ZL,ZO,ZP,ZT,ZU,Ya,YT,YU,Xb,Xe,Xf,Xg,Xl,Xn,Xo,Xp,Xs,Xv,Xy,Xz,X0,Wc,Wi,Wo,Wt,Wv,Wx,Wy,Wz,W0,W3,W5,W6,W7,W8,W9,WA,WB,WC,WF,WG,WH,WI,WJ,WK,WL,WM,WN,WO,WQ,WR,WS,WU,WV,WW,WX,WZ,Vb,Vc,Vd,Ve,Vf,Vg,Vh,Vr,V5,V6,V8,V9,VA,VB,VC,VF,VG,VH,VI,VK,VU,VV,VW,VX,VY,VZ,Ua,Ub,Uc,Ud,Ug,Ui,Uk,Uq,Us,Ut,Uy,Uz,U0,U1,U2,U3,U4,U9,UA,UB,UK,UL,UZ,Ta,Te,Tf,Tg,Th,Tn,Tp,Ts,Tt,Tw,T0,T1,TT,TU,TX,TY,TZ,Sa,Sb,Sc,Sl,w8,h3,ea];all_goals tactic=>exact rfl))
def fL (st:Nat→Nat) (s nur cl:Nat):Bool:=decide (eJ st s cl&&&nur=0)
theorem yK:∀ l:List AV,(∀ e∈l,cN e e=true)→eM l l=true
 | [],_=>by simp[eM]
 | x::l,h=>by
   have:=yK l (fun e he=>h e (List.mem_cons_of_mem _ he))
   simp[eM,this,h x List.mem_cons_self]
theorem rX:∀ l:List (List AV),(∀ e∈l,eM e e=true)→qK l l=true
 | [],_=>by simp[qK]
 | x::l,h=>by
   have:=rX l (fun e he=>h e (List.mem_cons_of_mem _ he))
   simp[qK,this,h x List.mem_cons_self]
theorem aBu (x:Vn) (st:Nat→Nat):eM (eQ x st) (eQ x st)=true:=by
 refine yK _ fun e he=>?_
 rw[eQ,List.mem_append]at he
 rcases he with he|he
 ·simp only[List.mem_cons,List.not_mem_nil,or_false]at he
  rcases he with rfl|rfl|rfl|rfl|rfl|rfl
  ·simp[cN]
  ·rw[cN]
   refine rX _ fun r hr=>?_
   rw[List.mem_map]at hr
   obtain⟨b,_,rfl⟩:=hr
   simp[eM,cN]
  ·rw[cN]
   refine rX _ fun r hr=>?_
   rw[List.mem_map]at hr
   obtain⟨b,_,rfl⟩:=hr
   simp[eM,cN]
  ·simp[cN]
  ·simp[cN]
  ·simp[cN]
 ·rw[List.mem_map]at he
  obtain⟨b,_,rfl⟩:=he
  simp[cN]
theorem w57 {l:List AV} {st:Nat→Nat} {ci:Int} {s nur cl:Nat} (hsm:eM l l=true) (hl:∀ k,k<16→l[6+k]?=some (I (st k))) (h3:l[3]?=some (I s)) (h4:l[4]?=some (I nur)) (hst:∀ k,st k<65536) (hs:s<65536) (hn:nur<65536) (hcl:cl<65536) (hc:Clr ci cl) :
 runW aA 57 [.pt 0 0,I ci] [some (.blk true (.cells true l))]=some (.bool (fL st s nur cl),[some (.blk true (.cells true l))]):=by
 have e:=w78 hl h3 hst hs hcl hc
 have hr:=aEE (cl:=cl) hst hs
 have b1:=iD bH (a:=eJ st s cl) (b:=nur) (by omega) (by omega)
 unfold fL
 generalize eJ st s cl=R at *
 by_cases h:R&&&nur=0
 ·have c1:(((R&&&nur:Nat):Int)=0)=True:=eq_true (by omega)
  rw[decide_eq_true h]
  rw[r57 (by simp)];unfold x57;dsimp only
  (sym=>(simp[Za,Zb,Zd,Ze,Zf,Zg,Zh,Zk,Zl,Zm,Zv,Z2,Z3,Z7,ZH,ZJ,ZM,ZQ,ZR,ZT,ZU,Ya,Yl,Yq,YT,YU,YV,Xb,Xp,Xq,Xv,X0,XI,XN,Wc,Wd,Wi,Wx,Wy,Wz,W0,W5,W6,W7,W9,WB,WC,WG,WH,WI,WJ,WK,WL,WM,WN,WO,WQ,WR,WS,WU,WV,WZ,Vb,Ve,Vf,Vg,Vh,Vj,Vk,Vl,Vm,Vr,Vt,Vu,Vv,V5,V6,V8,V9,VA,VB,VC,VF,VG,VH,VI,VK,VU,VV,VW,VY,VZ,Ua,Ub,Uc,Ud,Ui,Ul,Uo,Ut,Uu,Uw,Ux,Uy,Uz,U0,U1,U2,U9,UA,UZ,Ta,Te,Tm,Tn,Tp,Tt,T0,T1,Sl,Sp,S4,S5,S7,S8,S9,SA,e,b1,h4,c1,hsm];all_goals tactic=>exact rfl))
 ·have c1:(((R&&&nur:Nat):Int)=0)=False:=eq_false (by omega)
  rw[decide_eq_false h]
  rw[r57 (by simp)];unfold x57;dsimp only
  (sym=>(simp[Za,Zb,Zd,Ze,Zf,Zg,Zh,Zk,Zl,Zm,Zv,Z2,Z3,Z7,ZH,ZJ,ZM,ZQ,ZR,ZT,ZU,Ya,Yl,Yq,YT,YU,YV,Xb,Xp,Xq,Xv,X0,XI,XN,Wc,Wd,Wi,Wx,Wy,Wz,W0,W5,W6,W7,W9,WB,WC,WG,WH,WI,WJ,WK,WL,WM,WN,WO,WQ,WR,WS,WU,WV,WZ,Vb,Ve,Vf,Vg,Vh,Vj,Vk,Vl,Vm,Vr,Vt,Vu,Vv,V5,V6,V8,V9,VA,VB,VC,VF,VG,VH,VI,VK,VU,VV,VW,VY,VZ,Ua,Ub,Uc,Ud,Ui,Ul,Uo,Ut,Uv,Uw,Ux,Uy,Uz,U0,U1,U2,U9,UA,UZ,Ta,Te,Tm,Tn,Tp,Tt,T0,T1,Sl,Sp,S4,S5,S7,S8,S9,SA,e,b1,h4,c1,hsm];all_goals tactic=>exact rfl))
def bMt (b:Nat×Nat) (a c:Nat):Bool:=(b.1==a&&b.2==c)||(b.1==c&&b.2==a)
def pMt (p:Nat×Nat×Nat) (a c:Nat):Bool:=p.2.1==a&&p.2.2==c
def bB (x:Vn) (a c i:Nat):Int:=if bMt (x.bs.getD i (0,0)) a c then 1 else 0
def pB (x:Vn) (a c i:Nat):Int:=if pMt (x.ps.getD i (0,0,0)) a c then 1 else 0
theorem aHa {a b:Nat}:((a:Int)=(b:Int))=(a=b):=by rw[Int.ofNat_inj]
theorem mL (b a:Nat):(((b:Int)=a)=True∧(b==a)=true∧b=a)∨(((b:Int)=a)=False∧(b==a)=false∧b≠a):=by
 by_cases h:b=a
 ·exact .inl ⟨by rw[aHa];exact eq_true h,by simp[h],h⟩
 ·exact .inr ⟨by rw[aHa];exact eq_false h,by simp[h],h⟩
section
variable {x:Vn} (ok:x.Ok) {a c:Nat}
include ok in
end
theorem xM (st:Nat→Nat) (u v a c:Nat):(addS st u v a).testBit c=((st a).testBit c||(u==a&&v==c)):=by
 unfold addS iX
 split
 ·next h=>subst h;rw[eK,show (v==c)=decide (v=c) from by rw[Bool.eq_iff_iff];simp];simp
 ·next h =>
  have:(u==a)=false:=by simp;omega
  rw[this];simp
theorem wU {α:Type} {f:(Nat→Nat)→α→Nat→Nat} {m:α→Bool} {a c:Nat} (hf:∀ st y,(f st y a).testBit c=((st a).testBit c||m y)):∀ (l:List α) (st:Nat→Nat),(l.foldl f st a).testBit c=((st a).testBit c||l.any m)
 | [],st=>by simp
 | y::l,st=>by rw[List.foldl_cons,wU hf l,hf,List.any_cons,Bool.or_assoc]
theorem aHY (x:Vn) (a c:Nat):(vO x x.bs.length a).testBit c=x.bs.any fun b=>bMt b a c:=by
 unfold vO
 rw[List.take_length,wU (m:=fun b=>bMt b a c)]
 ·simp
 ·intro st y
  rw[xM,xM,bMt,Bool.or_assoc,Bool.and_comm (y.2==a)]
theorem aAd (x:Vn) (a c:Nat):(cK x a).testBit c=((x.bs.any fun b=>bMt b a c)||x.ps.any fun p=>pMt p a c):=by
 unfold cK vN
 rw[List.take_length,wU (m:=fun p=>pMt p a c),aHY]
 intro st y
 rw[xM,pMt]
theorem aAG {α:Type} {l:List α} {m:α→Bool}:l.any m=true↔∃ (i:Nat) (y:α),l[i]?=some y∧m y=true:=by
 rw[List.any_eq_true]
 constructor
 ·rintro ⟨y,hy,h⟩
  obtain⟨i,hi⟩:=List.getElem?_of_mem hy
  exact⟨i,y,hi,h⟩
 ·rintro ⟨i,y,hi,h⟩
  exact⟨y,List.mem_of_getElem? hi,h⟩
theorem aJI {x:Vn} {a c:Nat} (h:∀ i,i<x.bs.length→bB x a c i=0):(x.bs.any fun b=>bMt b a c)=false:=by
 cases e:x.bs.any fun b=>bMt b a c
 ·rfl
 ·obtain⟨i,y,hi,hy⟩:=aAG.1 e
  have:=h i (fJ hi)
  unfold bB at this
  rw[aR hi,hy]at this
  simp at this
theorem aIN {x:Vn} {a c:Nat} (h:∀ i,i<x.ps.length→pB x a c i=0):(x.ps.any fun b=>pMt b a c)=false:=by
 cases e:x.ps.any fun b=>pMt b a c
 ·rfl
 ·obtain⟨i,y,hi,hy⟩:=aAG.1 e
  have:=h i (fJ hi)
  unfold pB at this
  rw[aR hi,hy]at this
  simp at this
def rC (g:Nat→Nat):Nat→Nat→Nat
 | 0,m=>m
 | n+1,m=>g (rC g n m)
theorem aCF {st:Nat→Nat} {s cl F:Nat} {g:Nat→Nat} (hF:F≤16) (hst:∀ k,st k<2^F) (hs:s<2^F) (hcl:cl<65536) (h1:∀ m,sub m (g m)) (h2:∀ m,m<2^F→g m<2^F)
 (h3:∀ m,(∀ i,m.testBit i=true→Rch st s cl i)→∀ i,(g m).testBit i=true→Rch st s cl i) (h4:∀ m a b,m<2^F→m.testBit a=true→(st a).testBit b=true→cl.testBit b=false→(g m).testBit b=true) :
 rC g F (gE s cl)=eJ st s cl:=by
 have hp:=aT hF
 have hst':∀ k,st k<65536:=fun k=>Nat.lt_of_lt_of_le (hst k) hp
 have hs':s<65536:=by omega
 have lt:∀ k,rC g k (gE s cl)<2^F:=fun k=>by
  induction k with
  | zero=>exact sZ hs
  | succ k ih=>exact h2 _ ih
 have base:∀ k i,s.testBit i=true→cl.testBit i=false→(rC g k (gE s cl)).testBit i=true:=fun k i hi hc=>by
  induction k with
  | zero =>
    show (gE s cl).testBit i=true
    rw[bX (by omega),hi,hc]
    have:=fO hs' hi
    simp;omega
  | succ k ih=>exact h1 _ _ ih
 have snd:∀ k i,(rC g k (gE s cl)).testBit i=true→Rch st s cl i:=fun k=>by
  induction k with
  | zero =>
    intro i hi
    have hi:(gE s cl).testBit i=true:=hi
    rw[bX (by omega)]at hi
    simp only[Bool.and_eq_true,Bool.not_eq_true']at hi
    exact .base hi.1 hi.2.2
  | succ k ih=>exact h3 _ ih
 apply Nat.eq_of_testBit_eq
 intro i
 rw[Bool.eq_iff_iff,jX hst' hs' hcl]
 refine⟨snd F i,?_⟩
 refine aJY (F:=F) (M:=fun k=>rC g k (gE s cl)) (P:=fun m=>∀ i,Rch st s cl i→m.testBit i=true) hF lt (fun k=>h1 _) (fun k hk=>?_) (fun k hk i hi=>h1 _ i (hk i hi)) ?_ i
 ·intro i hi
  refine hi.sub (base k) fun a b ha hb hc=>?_
  have:=h4 _ a b (lt k) ha hb hc
  rw[show g (rC g k (gE s cl))=rC g k (gE s cl) from hk]at this
  exact this
 ·intro i hi
  rw[Nat.testBit_two_pow_sub_one]
  simpa using hi.lt hs hst
section
variable {st:Nat→Nat} {s cl F:Nat}
end
section
variable {x:Vn} (ok:x.Ok) {cl:Nat} (hcl:cl<2^x.F)
include ok hcl in
end
def stE (x:Vn) (c:List Int):Int:=if aBM x c=0 then (if fL (cK x) x.sick x.nur (jV c c.length) then 0 else 11) else aBM x c
section
variable {x:Vn} (ok:x.Ok) {c:List Int} (hc:c.length<1000000000)
include ok hc in
theorem aNd (h23:runW aA 23 [.agg x.c] []=some (I 0,[])):runW aA 27 [.agg x.c,nL c] []=some (I (stE x c),[]):=by
 have e0:=aMX ok hc h23
 have hF:=ok.F16
 have hp:=aT hF
 have hs:=ok.s
 have hn:=ok.n
 unfold stE
 by_cases h0:aBM x c=0
 ·have hl:=aJx h0
  rw[if_pos h0]at e0 ⊢
  have e1:=w56 ok h23
  have e2:=w57 (l:=eQ x (cK x)) (st:=cK x) (ci:=(jV c c.length:Nat)) (s:=x.sick) (nur:=x.nur) (cl:=jV c c.length) (aBu _ _) (fun k hk=>iO hk) rfl rfl (fun k=>Nat.lt_of_lt_of_le (dK ok _ k) hp) (by omega) (by omega) (by omega) (aJE (by omega))
  generalize fL (cK x) x.sick x.nur (jV c c.length)=b at *
  generalize jV c c.length=q at *
  generalize eQ x (cK x)=l at *
  cases b
  ·rw[r27 (by simp)];unfold x27;dsimp only
   (sym=>(simp[Za,Zb,Zf,Zg,Zh,Zj,Zl,Zm,Zo,Zv,Zz,Z3,Z4,ZE,ZG,ZO,ZP,ZT,ZU,ZX,Yh,Yr,YU,YX,YZ,Xb,Xg,Xi,Xj,Xp,Xq,Xr,Xs,Xt,Xv,X0,XL,XN,Wc,We,Wg,Wi,Wq,Wx,Wy,Wz,W0,W3,W4,W5,W6,W7,W8,W9,WB,WC,WF,WG,WH,WI,WJ,WK,WL,WM,WN,WO,WQ,WR,WS,WU,WV,Vb,Ve,Vf,Vg,Vh,Vr,Vt,Vu,Vv,Vw,Vx,Vz,V5,V6,V8,V9,VA,VB,VC,VF,VG,VH,VI,VK,VP,VQ,VR,VU,VV,VW,VX,VY,VZ,Ub,Uc,Ud,Ui,Ul,Um,Ut,Uu,Uy,Uz,U0,U1,U2,U3,U4,U9,UA,UK,UL,UZ,Ta,Td,Th,Tm,Tn,Tp,Tq,Tt,Tv,T0,T1,Sl,S4,S5,S6,S7,S8,S9,SA,e0,e1,e2];all_goals tactic=>exact rfl))
  ·rw[r27 (by simp)];unfold x27;dsimp only
   (sym=>(simp[Za,Zb,Zf,Zg,Zh,Zj,Zl,Zm,Zo,Zv,Zz,Z3,Z4,ZE,ZG,ZO,ZP,ZT,ZU,ZX,Yh,Yr,YU,YX,YZ,Xb,Xg,Xi,Xj,Xp,Xq,Xr,Xs,Xt,Xv,X0,XL,XN,Wc,We,Wg,Wi,Wq,Wx,Wy,Wz,W0,W3,W4,W5,W6,W7,W8,W9,WB,WC,WF,WG,WH,WI,WJ,WK,WL,WM,WN,WO,WQ,WR,WS,WU,WV,Vb,Ve,Vf,Vg,Vh,Vr,Vt,Vu,Vv,Vw,Vx,Vz,V5,V6,V8,V9,VA,VB,VC,VF,VG,VH,VI,VK,VP,VR,VU,VV,VW,VX,VY,VZ,Ub,Uc,Ud,Ui,Ul,Ut,Uu,Uy,Uz,U0,U1,U2,U3,U4,U9,UA,UK,UL,UZ,Ta,Td,Th,Tm,Tn,Tp,Tq,Tt,T0,T1,Sl,S4,S5,S6,S7,S8,S9,SA,e0,e1,e2];all_goals tactic=>exact rfl))
 ·rw[if_neg h0]at e0 ⊢
  have n0:=aIT h0
  generalize aBM x c=er at *
  rw[r27 (by simp)];unfold x27;dsimp only
  (sym=>(simp[Za,Zb,Zf,Zg,Zh,Zj,Zl,Zm,Zo,Zv,Zz,Z3,ZE,ZG,ZO,ZP,ZT,ZU,Yh,Yr,YU,YX,YZ,Xg,Xi,Xj,Xp,Xr,Xs,Xt,X0,XL,Wc,We,Wg,Wq,Wx,Wy,Wz,W3,W4,W5,W6,W7,W8,WG,WJ,WK,WL,WM,WN,WO,WQ,WR,Ve,Vf,Vg,Vr,Vt,Vu,Vv,Vw,Vx,Vz,V5,V6,V8,V9,VA,VB,VC,VF,VG,VH,VI,VK,VP,VQ,VU,VV,VW,VY,VZ,Ub,Uc,Ud,Ui,Um,Uv,Uy,Uz,U0,U1,U2,U3,U4,U9,UA,UK,UL,UZ,Ta,Td,Th,Tm,Tn,Tp,Tt,Tv,T0,T1,Sl,S4,S5,S6,S7,S8,S9,SA,e0,n0];all_goals tactic=>exact rfl))
include ok hc in
end
def kU (a b:Int):Int:=Int.tmod a b
def lO (a b:Int):Int:=Int.tdiv a b
def aGG (z:Bool) (k:IntKind) (v:Int):Option AV:=if z then none else some (.int k v)
theorem bO (k:IntKind) (v:Int):aGG false k v=some (.int k v):=rfl
theorem aO {k:IntKind} {a b:Int}:eL .rem k a k b=aGG (decide (b=0)) k (kU a b):=by
 by_cases h:b=0<;>simp[eL,aGG,h,kU]
theorem aP {k:IntKind} {a b:Int}:eL .quo k a k b=aGG (decide (b=0)) k (k.wrap (lO a b)):=by
 by_cases h:b=0<;>simp[eL,aGG,h,lO]
theorem cC (a b:Nat):lO (a:Int) (b:Int)=((a/b:Nat):Int):=by rw[lO,Int.tdiv_eq_ediv_of_nonneg (by omega)];exact(Int.natCast_ediv a b).symm
theorem bK (a b:Nat):kU (a:Int) (b:Int)=((a%b:Nat):Int):=by rw[kU,Int.tmod_eq_emod_of_nonneg (by omega)];exact(Int.natCast_emod a b).symm
def flC (fl:Nat→Nat→Int):List AV:=(List.range 1156).map fun k=>I (fl (k/34) (k%34))
def hG (v:AV) (fl:Nat→Nat→Int):List AV:=v::flC fl
theorem aMg (l:List Nat) (f:Nat→Int):mJ (l.map fun k=>I (f k))=[]:=by
 induction l with
 | nil=>simp[mJ]
 | cons a l ih=>rw[List.map_cons,mJ,ih];rfl
theorem aMe (s:Nat→Option Nat) (l:List Nat) (f:Nat→Int):lA s (l.map fun k=>I (f k))=l.map fun k=>I (f k):=by
 induction l with
 | nil=>simp[lA]
 | cons a l ih=>rw[List.map_cons,lA,ih];rfl
theorem aJZ (l:List Nat) (f:Nat→Int):eX (l.map fun k=>I (f k))=true:=by
 induction l with
 | nil=>simp[eX]
 | cons a l ih=>rw[List.map_cons,eX,ih];rfl
theorem aMs (b:Nat) (cs:List AV) (l:List Nat) (f:Nat→Int):uE b cs (l.map fun k=>I (f k))=l.map fun k=>I (f k):=by
 induction l with
 | nil=>simp[uE]
 | cons a l ih=>rw[List.map_cons,uE,ih];rfl
theorem aJ {v:AV} {fl:Nat→Nat→Int}:mJ (hG v fl)=nmA v:=by rw[hG,mJ,flC,aMg (List.range 1156) (fun k=>fl (k/34) (k%34)),List.append_nil]
theorem aI {s:Nat→Option Nat} {v:AV} {fl:Nat→Nat→Int}:lA s (hG v fl)=hG (rnA s v) fl:=by rw[hG,lA,flC,aMe s (List.range 1156) (fun k=>fl (k/34) (k%34))];rfl
theorem aK {v:AV} {fl:Nat→Nat→Int}:eX (hG v fl)=gH v:=by rw[hG,eX,flC,aJZ (List.range 1156) (fun k=>fl (k/34) (k%34)),Bool.and_true]
theorem aL {b:Nat} {cs:List AV} {v:AV} {fl:Nat→Nat→Int}:uE b cs (hG v fl)=hG (xX b cs v) fl:=by rw[hG,uE,flC,aMs b cs (List.range 1156) (fun k=>fl (k/34) (k%34))];rfl
theorem aU {v:AV} {fl:Nat→Nat→Int}:(hG v fl)[0]?=some v:=rfl
theorem aJq (fl:Nat→Nat→Int):(flC fl).length=1156:=by simp[flC]
theorem aF {v:AV} {fl:Nat→Nat→Int}:(hG v fl).length=1157:=by rw[hG,List.length_cons,aJq]
theorem bV {v:AV} {fl:Nat→Nat→Int} {a b:Nat} (ha:a<34) (hb:b<34):(hG v fl)[1+a*34+b]?=some (I (fl a b)):=by
 rw[show 1+a*34+b=(a*34+b)+1 by omega,hG,List.getElem?_cons_succ,flC,List.getElem?_map,List.getElem?_range (by omega),Option.map_some]
 rw[show (a*34+b)/34=a by omega,show (a*34+b)%34=b by omega]
def kT (fl:Nat→Nat→Int) (a b:Nat) (v:Int):Nat→Nat→Int:=fun c d=>if c=a∧d=b then v else fl c d
theorem qX {v:AV} {fl:Nat→Nat→Int} {a b:Nat} {n:Int} (ha:a<34) (hb:b<34):bY (hG v fl) (1+a*34+b) [I n]=hG v (kT fl a b n):=by
 rw[iI (by rw[aF];omega)]
 apply List.ext_getElem?
 intro j
 rw[List.getElem?_set,aF]
 by_cases hj:1+a*34+b=j
 ·subst hj
  rw[if_pos rfl,if_pos (by omega),bV ha hb,kT,if_pos ⟨rfl,rfl⟩]
 ·rw[if_neg hj]
  by_cases h0:j=0
  ·subst h0;rfl
  ·by_cases h:j<1157
   ·obtain⟨c,d,hc,hd,rfl⟩:∃ c d,c<34∧d<34∧j=1+c*34+d:=⟨(j-1)/34,(j-1)%34,by omega,by omega,by omega⟩
    rw[bV hc hd,bV hc hd,kT,if_neg (by rintro ⟨rfl,rfl⟩;exact hj rfl)]
   ·rw[List.getElem?_eq_none (by rw[aF];omega),List.getElem?_eq_none (by rw[aF];omega)]
def bW (st:Nat→Nat) (s nur fix a b:Nat):Int :=
 if a=32 then (if b%2=0∧b<32∧s.testBit (b/2)=true then 16 else 0)
 else if b=33 then (if a%2=1∧a<32∧nur.testBit (a/2)=true then 16 else 0)
 else if 32≤a∨32≤b then 0
 else if a%2=0∧b=a+1 then (if fix.testBit (a/2)=true then 16 else 1)
 else if a%2=1∧b%2=0∧(st (a/2)).testBit (b/2)=true then 16 else 0
structure aDd (l:List AV) (st:Nat→Nat) (F s nur fix:Nat):Prop where
 k:∀ k,k<16→l[6+k]?=some (I (st k))
 l0:l[0]?=some (I F)
 l3:l[3]?=some (I s)
 l4:l[4]?=some (I nur)
 l5:l[5]?=some (I fix)
 F16:F≤16
 st:∀ k,st k<65536
 s:s<65536
 nur:nur<65536
 fix:fix<65536
theorem aPp {x:Vn} (ok:x.Ok):aDd (eQ x (cK x)) (cK x) x.F x.sick x.nur x.fix:=by
 have hp:=aT ok.F16
 have:=ok.s
 have:=ok.n
 have:=ok.f
 exact⟨fun k hk=>iO hk,rfl,rfl,rfl,rfl,ok.F16,fun k=>Nat.lt_of_lt_of_le (dK ok _ k) hp,by omega,by omega,by omega⟩
def FlB (fl:Nat→Nat→Int):Prop:=∀ a b,0≤fl a b∧fl a b≤100
def cR (st:Nat→Nat) (s nur fix:Nat) (fl:Nat→Nat→Int) (a b:Nat):Int:=bW st s nur fix a b-fl a b+fl b a
abbrev gN (l:List AV) (fl:Nat→Nat→Int):XH:=[some (.blk false (.cells true (hG (.pt 1 0) fl))),some (.blk true (.cells true l))]
section
variable {l:List AV} {st:Nat→Nat} {F s nur fix:Nat} (h:aDd l st F s nur fix) {fl:Nat→Nat→Int} (hf:FlB fl) {a b:Nat} (ha:a<34) (hb:b<34)
include h hf ha hb
theorem aGA (c:a=32∧b%2=0∧b<32) (hv:(s).testBit (b/2)=true):runW aA 89 [.pt 0 0,I a,I b] (gN l fl)=some (I (cR st s nur fix fl a b),gN l fl):=by
 have hcap:bW st s nur fix a b=16:=by
  unfold bW
  rw[hv,if_pos c.1,if_pos ⟨c.2.1,c.2.2,rfl⟩]
 have f1:=hf a b
 have f2:=hf b a
 have hs:=h.s
 have hn:=h.nur
 have hx:=h.fix
 have hk:=h.st (a/2)
 have u1:IntKind.i64.wrap (16-fl a b)=16-fl a b:=aD (by omega) (by omega)
 have u2:IntKind.i64.wrap (16-fl a b+fl b a)=16-fl a b+fl b a:=aD (by omega) (by omega)
 have t1:kU (a:Int) 2=((a%2:Nat):Int):=bK a 2
 have t2:kU (b:Int) 2=((b%2:Nat):Int):=bK b 2
 have t3:lO (a:Int) 2=((a/2:Nat):Int):=cC a 2
 have t4:lO (b:Int) 2=((b/2:Nat):Int):=cC b 2
 have t5:IntKind.i64.wrap ((a/2:Nat):Int)=((a/2:Nat):Int):=aD (by omega) (by omega)
 have t6:IntKind.i64.wrap ((b/2:Nat):Int)=((b/2:Nat):Int):=aD (by omega) (by omega)
 have v1:((0:Int)≤a)=True:=eq_true (by omega)
 have v2:((a:Int)<34)=True:=eq_true (by omega)
 have v3:((0:Int)≤b)=True:=eq_true (by omega)
 have v4:((b:Int)<34)=True:=eq_true (by omega)
 have k1:=bV (v:=.pt 1 0) (fl:=fl) ha hb
 have k2:=bV (v:=.pt 1 0) (fl:=fl) hb ha
 have c_a32:((a:Int)=32)=True:=eq_true (by omega)
 have c_be:(((b%2:Nat):Int)=0)=True:=eq_true (by omega)
 have c_b32:((b:Int)<32)=True:=eq_true (by omega)
 have e:=oO (a:=s) (j:=b/2) (by omega) (by omega)
 rw[hv]at e
 have q:=h.l3
 unfold cR
 rw[hcap]
 generalize hA:a/2=a2 at *
 generalize hB:b/2=b2 at *
 generalize hA2:a%2=a3 at *
 generalize hB2:b%2=b3 at *
 rw[r89 (by simp)];unfold x89;dsimp only
 (sym=>(simp[aO,aP,bO,aJ,aI,aK,aL,aU,aF,Za,Zb,Zf,Zh,Zi,Zl,Zm,Zp,Zq,Zv,Zy,Z2,Z3,Z7,Z8,ZG,ZH,ZJ,ZO,ZP,ZT,ZU,ZV,Ya,Yi,Yj,Yq,Ys,Yw,Yx,YO,YT,YU,Xb,Xp,Xq,Xv,X0,Wc,Wi,Wx,Wy,Wz,W6,W7,W9,WE,WG,WI,WJ,WK,WL,WM,WN,WO,WQ,WR,WU,WV,WW,WZ,Vb,Vc,Ve,Vf,Vg,Vr,V5,V6,V8,V9,VA,VB,VC,VF,VG,VH,VI,VK,VP,VQ,VU,VV,VW,VY,VZ,Ua,Ub,Uc,Ud,Uq,Ut,Uu,Uv,Uy,Uz,U0,U1,U2,U9,UA,UZ,Ta,Te,Tm,Tn,Tp,Ts,Tt,Tw,T0,T1,TC,Sl,Sz,u1,u2,t1,t2,t3,t4,t5,t6,v1,v2,v3,v4,k1,k2,c_a32,c_be,c_b32,e,q];all_goals tactic=>exact rfl))
theorem aGB (c:a=32∧b%2=0∧b<32) (hv:(s).testBit (b/2)=false):runW aA 89 [.pt 0 0,I a,I b] (gN l fl)=some (I (cR st s nur fix fl a b),gN l fl):=by
 have hcap:bW st s nur fix a b=0:=by
  unfold bW
  rw[hv,if_pos c.1,if_neg (by simp)]
 have f1:=hf a b
 have f2:=hf b a
 have hs:=h.s
 have hn:=h.nur
 have hx:=h.fix
 have hk:=h.st (a/2)
 have u1:IntKind.i64.wrap (0-fl a b)=0-fl a b:=aD (by omega) (by omega)
 have u2:IntKind.i64.wrap (0-fl a b+fl b a)=0-fl a b+fl b a:=aD (by omega) (by omega)
 have t1:kU (a:Int) 2=((a%2:Nat):Int):=bK a 2
 have t2:kU (b:Int) 2=((b%2:Nat):Int):=bK b 2
 have t3:lO (a:Int) 2=((a/2:Nat):Int):=cC a 2
 have t4:lO (b:Int) 2=((b/2:Nat):Int):=cC b 2
 have t5:IntKind.i64.wrap ((a/2:Nat):Int)=((a/2:Nat):Int):=aD (by omega) (by omega)
 have t6:IntKind.i64.wrap ((b/2:Nat):Int)=((b/2:Nat):Int):=aD (by omega) (by omega)
 have v1:((0:Int)≤a)=True:=eq_true (by omega)
 have v2:((a:Int)<34)=True:=eq_true (by omega)
 have v3:((0:Int)≤b)=True:=eq_true (by omega)
 have v4:((b:Int)<34)=True:=eq_true (by omega)
 have k1:=bV (v:=.pt 1 0) (fl:=fl) ha hb
 have k2:=bV (v:=.pt 1 0) (fl:=fl) hb ha
 have c_a32:((a:Int)=32)=True:=eq_true (by omega)
 have c_be:(((b%2:Nat):Int)=0)=True:=eq_true (by omega)
 have c_b32:((b:Int)<32)=True:=eq_true (by omega)
 have e:=oO (a:=s) (j:=b/2) (by omega) (by omega)
 rw[hv]at e
 have q:=h.l3
 unfold cR
 rw[hcap]
 generalize hA:a/2=a2 at *
 generalize hB:b/2=b2 at *
 generalize hA2:a%2=a3 at *
 generalize hB2:b%2=b3 at *
 rw[r89 (by simp)];unfold x89;dsimp only
 (sym=>(simp[aO,aP,bO,aJ,aI,aK,aL,aU,aF,Za,Zb,Zf,Zh,Zi,Zl,Zm,Zp,Zq,Zv,Zy,Z2,Z3,Z7,Z8,ZG,ZH,ZJ,ZO,ZP,ZT,ZU,ZV,Ya,Yi,Yj,Yq,Ys,Yw,Yx,YO,YT,YU,Xb,Xp,Xq,Xv,X0,Wc,Wi,Wx,Wy,Wz,W6,W7,W9,WE,WG,WI,WJ,WK,WL,WM,WN,WO,WQ,WR,WU,WV,WW,WZ,Vb,Vc,Ve,Vf,Vg,Vr,V5,V6,V8,V9,VA,VB,VC,VF,VG,VH,VI,VK,VP,VQ,VR,VU,VV,VW,VY,VZ,Ua,Ub,Uc,Ud,Uq,Ut,Uu,Uv,Uy,Uz,U0,U1,U2,U9,UA,UZ,Ta,Te,Tm,Tn,Tp,Tq,Ts,Tt,Tw,T0,T1,TC,Sl,Sz,u1,u2,t1,t2,t3,t4,t5,t6,v1,v2,v3,v4,k1,k2,c_a32,c_be,c_b32,e,q];all_goals tactic=>exact rfl))
theorem aIE (c:a=32∧b%2=0∧¬b<32):runW aA 89 [.pt 0 0,I a,I b] (gN l fl)=some (I (cR st s nur fix fl a b),gN l fl):=by
 have hcap:bW st s nur fix a b=0:=by
  unfold bW
  split<;>(try split)<;>(try split)<;>(try split)<;>(try split)<;>first|rfl|(exfalso;simp at *;omega)|(exfalso;omega)
 have f1:=hf a b
 have f2:=hf b a
 have hs:=h.s
 have hn:=h.nur
 have hx:=h.fix
 have hk:=h.st (a/2)
 have u1:IntKind.i64.wrap (0-fl a b)=0-fl a b:=aD (by omega) (by omega)
 have u2:IntKind.i64.wrap (0-fl a b+fl b a)=0-fl a b+fl b a:=aD (by omega) (by omega)
 have t1:kU (a:Int) 2=((a%2:Nat):Int):=bK a 2
 have t2:kU (b:Int) 2=((b%2:Nat):Int):=bK b 2
 have t3:lO (a:Int) 2=((a/2:Nat):Int):=cC a 2
 have t4:lO (b:Int) 2=((b/2:Nat):Int):=cC b 2
 have t5:IntKind.i64.wrap ((a/2:Nat):Int)=((a/2:Nat):Int):=aD (by omega) (by omega)
 have t6:IntKind.i64.wrap ((b/2:Nat):Int)=((b/2:Nat):Int):=aD (by omega) (by omega)
 have v1:((0:Int)≤a)=True:=eq_true (by omega)
 have v2:((a:Int)<34)=True:=eq_true (by omega)
 have v3:((0:Int)≤b)=True:=eq_true (by omega)
 have v4:((b:Int)<34)=True:=eq_true (by omega)
 have k1:=bV (v:=.pt 1 0) (fl:=fl) ha hb
 have k2:=bV (v:=.pt 1 0) (fl:=fl) hb ha
 have c_a32:((a:Int)=32)=True:=eq_true (by omega)
 have c_be:(((b%2:Nat):Int)=0)=True:=eq_true (by omega)
 have c_b32:((b:Int)<32)=False:=eq_false (by omega)
 unfold cR
 rw[hcap]
 generalize hA:a/2=a2 at *
 generalize hB:b/2=b2 at *
 generalize hA2:a%2=a3 at *
 generalize hB2:b%2=b3 at *
 rw[r89 (by simp)];unfold x89;dsimp only
 (sym=>(simp[aO,aP,bO,aJ,aI,aK,aL,aU,aF,Za,Zb,Zf,Zh,Zi,Zl,Zm,Zp,Zq,Zs,Zv,Zy,Z2,Z3,Z7,Z8,ZH,ZJ,ZV,ZW,Ya,Yi,Yj,Yq,Ys,Yw,Yx,YO,YT,YU,Xb,Xp,Xv,X0,Wc,Wi,Wx,Wy,Wz,W7,W9,WE,WG,WI,WK,WL,WM,WN,WO,WU,WV,WW,WZ,Vb,Vc,Vr,V5,V6,V8,V9,VA,VB,VC,VF,VG,VH,VI,VK,VP,VQ,VR,VU,VV,VW,VY,VZ,Ua,Ub,Uc,Ud,Uq,Ut,Uu,Uv,Uy,Uz,U0,U9,UA,UZ,Ta,Te,Tm,Tn,Tp,Tq,Ts,Tt,Tw,T0,T1,TC,Sl,Sz,u1,u2,t1,t2,t3,t4,t5,t6,v1,v2,v3,v4,k1,k2,c_a32,c_be,c_b32];all_goals tactic=>exact rfl))
theorem aID (c:a=32∧¬b%2=0):runW aA 89 [.pt 0 0,I a,I b] (gN l fl)=some (I (cR st s nur fix fl a b),gN l fl):=by
 have hcap:bW st s nur fix a b=0:=by
  unfold bW
  split<;>(try split)<;>(try split)<;>(try split)<;>(try split)<;>first|rfl|(exfalso;simp at *;omega)|(exfalso;omega)
 have f1:=hf a b
 have f2:=hf b a
 have hs:=h.s
 have hn:=h.nur
 have hx:=h.fix
 have hk:=h.st (a/2)
 have u1:IntKind.i64.wrap (0-fl a b)=0-fl a b:=aD (by omega) (by omega)
 have u2:IntKind.i64.wrap (0-fl a b+fl b a)=0-fl a b+fl b a:=aD (by omega) (by omega)
 have t1:kU (a:Int) 2=((a%2:Nat):Int):=bK a 2
 have t2:kU (b:Int) 2=((b%2:Nat):Int):=bK b 2
 have t3:lO (a:Int) 2=((a/2:Nat):Int):=cC a 2
 have t4:lO (b:Int) 2=((b/2:Nat):Int):=cC b 2
 have t5:IntKind.i64.wrap ((a/2:Nat):Int)=((a/2:Nat):Int):=aD (by omega) (by omega)
 have t6:IntKind.i64.wrap ((b/2:Nat):Int)=((b/2:Nat):Int):=aD (by omega) (by omega)
 have v1:((0:Int)≤a)=True:=eq_true (by omega)
 have v2:((a:Int)<34)=True:=eq_true (by omega)
 have v3:((0:Int)≤b)=True:=eq_true (by omega)
 have v4:((b:Int)<34)=True:=eq_true (by omega)
 have k1:=bV (v:=.pt 1 0) (fl:=fl) ha hb
 have k2:=bV (v:=.pt 1 0) (fl:=fl) hb ha
 have c_a32:((a:Int)=32)=True:=eq_true (by omega)
 have c_be:(((b%2:Nat):Int)=0)=False:=eq_false (by omega)
 unfold cR
 rw[hcap]
 generalize hA:a/2=a2 at *
 generalize hB:b/2=b2 at *
 generalize hA2:a%2=a3 at *
 generalize hB2:b%2=b3 at *
 rw[r89 (by simp)];unfold x89;dsimp only
 (sym=>(simp[aO,aP,bO,aJ,aI,aK,aL,aU,aF,Za,Zb,Zf,Zh,Zi,Zl,Zm,Zp,Zs,Zv,Zy,Z2,Z3,Z7,Z8,ZH,ZJ,ZW,Ya,Yi,Yj,Yq,Yw,Yx,YO,YT,YU,Xb,Xp,Xv,X0,Wc,Wi,Wx,Wy,Wz,W7,W9,WE,WG,WI,WK,WL,WM,WN,WO,WU,WV,WW,WZ,Vb,Vc,Vr,V5,V6,V8,V9,VA,VB,VC,VF,VG,VH,VI,VK,VP,VQ,VR,VU,VV,VW,VY,VZ,Ua,Ub,Uc,Ud,Uq,Ut,Uu,Uv,Uy,Uz,U0,U9,UA,UZ,Ta,Te,Tm,Tn,Tp,Tq,Ts,Tt,Tw,T0,T1,TC,Sl,Sz,u1,u2,t1,t2,t3,t4,t5,t6,v1,v2,v3,v4,k1,k2,c_a32,c_be];all_goals tactic=>exact rfl))
theorem aGy (c:a≠32∧b=33∧a%2=1∧a<32) (hv:(nur).testBit (a/2)=true):runW aA 89 [.pt 0 0,I a,I b] (gN l fl)=some (I (cR st s nur fix fl a b),gN l fl):=by
 have hcap:bW st s nur fix a b=16:=by
  unfold bW
  rw[hv,if_neg c.1,if_pos c.2.1,if_pos ⟨c.2.2.1,c.2.2.2,rfl⟩]
 have f1:=hf a b
 have f2:=hf b a
 have hs:=h.s
 have hn:=h.nur
 have hx:=h.fix
 have hk:=h.st (a/2)
 have u1:IntKind.i64.wrap (16-fl a b)=16-fl a b:=aD (by omega) (by omega)
 have u2:IntKind.i64.wrap (16-fl a b+fl b a)=16-fl a b+fl b a:=aD (by omega) (by omega)
 have t1:kU (a:Int) 2=((a%2:Nat):Int):=bK a 2
 have t2:kU (b:Int) 2=((b%2:Nat):Int):=bK b 2
 have t3:lO (a:Int) 2=((a/2:Nat):Int):=cC a 2
 have t4:lO (b:Int) 2=((b/2:Nat):Int):=cC b 2
 have t5:IntKind.i64.wrap ((a/2:Nat):Int)=((a/2:Nat):Int):=aD (by omega) (by omega)
 have t6:IntKind.i64.wrap ((b/2:Nat):Int)=((b/2:Nat):Int):=aD (by omega) (by omega)
 have v1:((0:Int)≤a)=True:=eq_true (by omega)
 have v2:((a:Int)<34)=True:=eq_true (by omega)
 have v3:((0:Int)≤b)=True:=eq_true (by omega)
 have v4:((b:Int)<34)=True:=eq_true (by omega)
 have k1:=bV (v:=.pt 1 0) (fl:=fl) ha hb
 have k2:=bV (v:=.pt 1 0) (fl:=fl) hb ha
 have c_a32:((a:Int)=32)=False:=eq_false (by omega)
 have c_b33:((b:Int)=33)=True:=eq_true (by omega)
 have c_ao:(((a%2:Nat):Int)=1)=True:=eq_true (by omega)
 have c_al:((a:Int)<32)=True:=eq_true (by omega)
 have e:=oO (a:=nur) (j:=a/2) (by omega) (by omega)
 rw[hv]at e
 have q:=h.l4
 unfold cR
 rw[hcap]
 generalize hA:a/2=a2 at *
 generalize hB:b/2=b2 at *
 generalize hA2:a%2=a3 at *
 generalize hB2:b%2=b3 at *
 rw[r89 (by simp)];unfold x89;dsimp only
 (sym=>(simp[aO,aP,bO,aJ,aI,aK,aL,aU,aF,Za,Zb,Zf,Zh,Zi,Zl,Zm,Zp,Zq,Zv,Zy,Z2,Z3,Z7,Z8,ZG,ZH,ZJ,ZO,ZP,ZT,ZU,ZV,Ya,Yi,Yj,Yq,Ys,Yw,Yx,YO,YT,YU,Xb,Xp,Xq,Xv,X0,Wc,Wi,Wx,Wy,Wz,W6,W7,W9,WE,WG,WI,WJ,WK,WL,WM,WN,WO,WQ,WR,WU,WV,WW,WZ,Vb,Vc,Ve,Vf,Vg,Vr,V5,V6,V8,V9,VA,VB,VC,VF,VG,VH,VI,VK,VP,VQ,VR,VU,VV,VW,VY,VZ,Ua,Ub,Uc,Ud,Uq,Ut,Uu,Uv,Uy,Uz,U0,U1,U2,U9,UA,UZ,Ta,Te,Tm,Tn,Tp,Ts,Tt,Tw,T0,T1,TC,Sl,Sz,u1,u2,t1,t2,t3,t4,t5,t6,v1,v2,v3,v4,k1,k2,c_a32,c_b33,c_ao,c_al,e,q];all_goals tactic=>exact rfl))
theorem aGz (c:a≠32∧b=33∧a%2=1∧a<32) (hv:(nur).testBit (a/2)=false):runW aA 89 [.pt 0 0,I a,I b] (gN l fl)=some (I (cR st s nur fix fl a b),gN l fl):=by
 have hcap:bW st s nur fix a b=0:=by
  unfold bW
  rw[hv,if_neg c.1,if_pos c.2.1,if_neg (by simp)]
 have f1:=hf a b
 have f2:=hf b a
 have hs:=h.s
 have hn:=h.nur
 have hx:=h.fix
 have hk:=h.st (a/2)
 have u1:IntKind.i64.wrap (0-fl a b)=0-fl a b:=aD (by omega) (by omega)
 have u2:IntKind.i64.wrap (0-fl a b+fl b a)=0-fl a b+fl b a:=aD (by omega) (by omega)
 have t1:kU (a:Int) 2=((a%2:Nat):Int):=bK a 2
 have t2:kU (b:Int) 2=((b%2:Nat):Int):=bK b 2
 have t3:lO (a:Int) 2=((a/2:Nat):Int):=cC a 2
 have t4:lO (b:Int) 2=((b/2:Nat):Int):=cC b 2
 have t5:IntKind.i64.wrap ((a/2:Nat):Int)=((a/2:Nat):Int):=aD (by omega) (by omega)
 have t6:IntKind.i64.wrap ((b/2:Nat):Int)=((b/2:Nat):Int):=aD (by omega) (by omega)
 have v1:((0:Int)≤a)=True:=eq_true (by omega)
 have v2:((a:Int)<34)=True:=eq_true (by omega)
 have v3:((0:Int)≤b)=True:=eq_true (by omega)
 have v4:((b:Int)<34)=True:=eq_true (by omega)
 have k1:=bV (v:=.pt 1 0) (fl:=fl) ha hb
 have k2:=bV (v:=.pt 1 0) (fl:=fl) hb ha
 have c_a32:((a:Int)=32)=False:=eq_false (by omega)
 have c_b33:((b:Int)=33)=True:=eq_true (by omega)
 have c_ao:(((a%2:Nat):Int)=1)=True:=eq_true (by omega)
 have c_al:((a:Int)<32)=True:=eq_true (by omega)
 have e:=oO (a:=nur) (j:=a/2) (by omega) (by omega)
 rw[hv]at e
 have q:=h.l4
 unfold cR
 rw[hcap]
 generalize hA:a/2=a2 at *
 generalize hB:b/2=b2 at *
 generalize hA2:a%2=a3 at *
 generalize hB2:b%2=b3 at *
 rw[r89 (by simp)];unfold x89;dsimp only
 (sym=>(simp[aO,aP,bO,aJ,aI,aK,aL,aU,aF,Za,Zb,Zf,Zh,Zi,Zl,Zm,Zp,Zq,Zv,Zy,Z2,Z3,Z7,Z8,ZG,ZH,ZJ,ZO,ZP,ZT,ZU,ZV,Ya,Yi,Yj,Yq,Ys,Yw,Yx,YO,YT,YU,Xb,Xp,Xq,Xv,X0,Wc,Wi,Wx,Wy,Wz,W6,W7,W9,WE,WG,WI,WJ,WK,WL,WM,WN,WO,WQ,WR,WU,WV,WW,WZ,Vb,Vc,Ve,Vf,Vg,Vr,V5,V6,V8,V9,VA,VB,VC,VF,VG,VH,VI,VK,VP,VQ,VR,VU,VV,VW,VY,VZ,Ua,Ub,Uc,Ud,Uq,Ut,Uu,Uv,Uy,Uz,U0,U1,U2,U9,UA,UZ,Ta,Te,Tm,Tn,Tp,Tq,Ts,Tt,Tw,T0,T1,TC,Sl,Sz,u1,u2,t1,t2,t3,t4,t5,t6,v1,v2,v3,v4,k1,k2,c_a32,c_b33,c_ao,c_al,e,q];all_goals tactic=>exact rfl))
theorem aIC (c:a≠32∧b=33∧a%2=1∧¬a<32):runW aA 89 [.pt 0 0,I a,I b] (gN l fl)=some (I (cR st s nur fix fl a b),gN l fl):=by
 have hcap:bW st s nur fix a b=0:=by
  unfold bW
  split<;>(try split)<;>(try split)<;>(try split)<;>(try split)<;>first|rfl|(exfalso;simp at *;omega)|(exfalso;omega)
 have f1:=hf a b
 have f2:=hf b a
 have hs:=h.s
 have hn:=h.nur
 have hx:=h.fix
 have hk:=h.st (a/2)
 have u1:IntKind.i64.wrap (0-fl a b)=0-fl a b:=aD (by omega) (by omega)
 have u2:IntKind.i64.wrap (0-fl a b+fl b a)=0-fl a b+fl b a:=aD (by omega) (by omega)
 have t1:kU (a:Int) 2=((a%2:Nat):Int):=bK a 2
 have t2:kU (b:Int) 2=((b%2:Nat):Int):=bK b 2
 have t3:lO (a:Int) 2=((a/2:Nat):Int):=cC a 2
 have t4:lO (b:Int) 2=((b/2:Nat):Int):=cC b 2
 have t5:IntKind.i64.wrap ((a/2:Nat):Int)=((a/2:Nat):Int):=aD (by omega) (by omega)
 have t6:IntKind.i64.wrap ((b/2:Nat):Int)=((b/2:Nat):Int):=aD (by omega) (by omega)
 have v1:((0:Int)≤a)=True:=eq_true (by omega)
 have v2:((a:Int)<34)=True:=eq_true (by omega)
 have v3:((0:Int)≤b)=True:=eq_true (by omega)
 have v4:((b:Int)<34)=True:=eq_true (by omega)
 have k1:=bV (v:=.pt 1 0) (fl:=fl) ha hb
 have k2:=bV (v:=.pt 1 0) (fl:=fl) hb ha
 have c_a32:((a:Int)=32)=False:=eq_false (by omega)
 have c_b33:((b:Int)=33)=True:=eq_true (by omega)
 have c_ao:(((a%2:Nat):Int)=1)=True:=eq_true (by omega)
 have c_al:((a:Int)<32)=False:=eq_false (by omega)
 unfold cR
 rw[hcap]
 generalize hA:a/2=a2 at *
 generalize hB:b/2=b2 at *
 generalize hA2:a%2=a3 at *
 generalize hB2:b%2=b3 at *
 rw[r89 (by simp)];unfold x89;dsimp only
 (sym=>(simp[aO,aP,bO,aJ,aI,aK,aL,aU,aF,Za,Zb,Zf,Zh,Zi,Zl,Zm,Zp,Zq,Zs,Zv,Zy,Z2,Z3,Z7,Z8,ZH,ZJ,ZV,ZW,Ya,Yi,Yj,Yq,Ys,Yw,Yx,YO,YT,YU,Xb,Xp,Xv,X0,Wc,Wi,Wx,Wy,Wz,W7,W9,WE,WG,WI,WK,WL,WM,WN,WO,WU,WV,WW,WZ,Vb,Vc,Vr,V5,V6,V8,V9,VA,VB,VC,VF,VG,VH,VI,VK,VP,VQ,VR,VU,VV,VW,VY,VZ,Ua,Ub,Uc,Ud,Uq,Ut,Uu,Uv,Uy,Uz,U0,U9,UA,UZ,Ta,Te,Tm,Tn,Tp,Tq,Ts,Tt,Tw,T0,T1,TC,Sl,Sz,u1,u2,t1,t2,t3,t4,t5,t6,v1,v2,v3,v4,k1,k2,c_a32,c_b33,c_ao,c_al];all_goals tactic=>exact rfl))
theorem aIB (c:a≠32∧b=33∧¬a%2=1):runW aA 89 [.pt 0 0,I a,I b] (gN l fl)=some (I (cR st s nur fix fl a b),gN l fl):=by
 have hcap:bW st s nur fix a b=0:=by
  unfold bW
  split<;>(try split)<;>(try split)<;>(try split)<;>(try split)<;>first|rfl|(exfalso;simp at *;omega)|(exfalso;omega)
 have f1:=hf a b
 have f2:=hf b a
 have hs:=h.s
 have hn:=h.nur
 have hx:=h.fix
 have hk:=h.st (a/2)
 have u1:IntKind.i64.wrap (0-fl a b)=0-fl a b:=aD (by omega) (by omega)
 have u2:IntKind.i64.wrap (0-fl a b+fl b a)=0-fl a b+fl b a:=aD (by omega) (by omega)
 have t1:kU (a:Int) 2=((a%2:Nat):Int):=bK a 2
 have t2:kU (b:Int) 2=((b%2:Nat):Int):=bK b 2
 have t3:lO (a:Int) 2=((a/2:Nat):Int):=cC a 2
 have t4:lO (b:Int) 2=((b/2:Nat):Int):=cC b 2
 have t5:IntKind.i64.wrap ((a/2:Nat):Int)=((a/2:Nat):Int):=aD (by omega) (by omega)
 have t6:IntKind.i64.wrap ((b/2:Nat):Int)=((b/2:Nat):Int):=aD (by omega) (by omega)
 have v1:((0:Int)≤a)=True:=eq_true (by omega)
 have v2:((a:Int)<34)=True:=eq_true (by omega)
 have v3:((0:Int)≤b)=True:=eq_true (by omega)
 have v4:((b:Int)<34)=True:=eq_true (by omega)
 have k1:=bV (v:=.pt 1 0) (fl:=fl) ha hb
 have k2:=bV (v:=.pt 1 0) (fl:=fl) hb ha
 have c_a32:((a:Int)=32)=False:=eq_false (by omega)
 have c_b33:((b:Int)=33)=True:=eq_true (by omega)
 have c_ao:(((a%2:Nat):Int)=1)=False:=eq_false (by omega)
 unfold cR
 rw[hcap]
 generalize hA:a/2=a2 at *
 generalize hB:b/2=b2 at *
 generalize hA2:a%2=a3 at *
 generalize hB2:b%2=b3 at *
 rw[r89 (by simp)];unfold x89;dsimp only
 (sym=>(simp[aO,aP,bO,aJ,aI,aK,aL,aU,aF,Za,Zb,Zf,Zh,Zi,Zl,Zm,Zp,Zs,Zv,Zy,Z2,Z3,Z7,Z8,ZH,ZJ,ZW,Ya,Yi,Yj,Yq,Yw,Yx,YO,YT,YU,Xb,Xp,Xv,X0,Wc,Wi,Wx,Wy,Wz,W7,W9,WE,WG,WI,WK,WL,WM,WN,WO,WU,WV,WW,WZ,Vb,Vc,Vr,V5,V6,V8,V9,VA,VB,VC,VF,VG,VH,VI,VK,VP,VQ,VR,VU,VV,VW,VY,VZ,Ua,Ub,Uc,Ud,Uq,Ut,Uu,Uv,Uy,Uz,U0,U9,UA,UZ,Ta,Te,Tm,Tn,Tp,Tq,Ts,Tt,Tw,T0,T1,TC,Sl,Sz,u1,u2,t1,t2,t3,t4,t5,t6,v1,v2,v3,v4,k1,k2,c_a32,c_b33,c_ao];all_goals tactic=>exact rfl))
theorem aIA (c:a≠32∧b≠33∧32≤a):runW aA 89 [.pt 0 0,I a,I b] (gN l fl)=some (I (cR st s nur fix fl a b),gN l fl):=by
 have hcap:bW st s nur fix a b=0:=by
  unfold bW
  split<;>(try split)<;>(try split)<;>(try split)<;>(try split)<;>first|rfl|(exfalso;simp at *;omega)|(exfalso;omega)
 have f1:=hf a b
 have f2:=hf b a
 have hs:=h.s
 have hn:=h.nur
 have hx:=h.fix
 have hk:=h.st (a/2)
 have u1:IntKind.i64.wrap (0-fl a b)=0-fl a b:=aD (by omega) (by omega)
 have u2:IntKind.i64.wrap (0-fl a b+fl b a)=0-fl a b+fl b a:=aD (by omega) (by omega)
 have t1:kU (a:Int) 2=((a%2:Nat):Int):=bK a 2
 have t2:kU (b:Int) 2=((b%2:Nat):Int):=bK b 2
 have t3:lO (a:Int) 2=((a/2:Nat):Int):=cC a 2
 have t4:lO (b:Int) 2=((b/2:Nat):Int):=cC b 2
 have t5:IntKind.i64.wrap ((a/2:Nat):Int)=((a/2:Nat):Int):=aD (by omega) (by omega)
 have t6:IntKind.i64.wrap ((b/2:Nat):Int)=((b/2:Nat):Int):=aD (by omega) (by omega)
 have v1:((0:Int)≤a)=True:=eq_true (by omega)
 have v2:((a:Int)<34)=True:=eq_true (by omega)
 have v3:((0:Int)≤b)=True:=eq_true (by omega)
 have v4:((b:Int)<34)=True:=eq_true (by omega)
 have k1:=bV (v:=.pt 1 0) (fl:=fl) ha hb
 have k2:=bV (v:=.pt 1 0) (fl:=fl) hb ha
 have c_a32:((a:Int)=32)=False:=eq_false (by omega)
 have c_b33:((b:Int)=33)=False:=eq_false (by omega)
 have c_ag:(32≤(a:Int))=True:=eq_true (by omega)
 unfold cR
 rw[hcap]
 generalize hA:a/2=a2 at *
 generalize hB:b/2=b2 at *
 generalize hA2:a%2=a3 at *
 generalize hB2:b%2=b3 at *
 rw[r89 (by simp)];unfold x89;dsimp only
 (sym=>(simp[aO,aP,bO,aJ,aI,aK,aL,aU,aF,Za,Zb,Zf,Zh,Zi,Zl,Zm,Zp,Zt,Zv,Zy,Z2,Z3,Z7,Z8,ZH,ZJ,ZV,Ya,Yi,Yj,Yq,Yv,Yw,Yx,YO,YT,YU,Xb,Xp,Xv,X0,Wc,Wi,Wx,Wy,Wz,W7,W9,WE,WG,WI,WK,WL,WM,WN,WO,WU,WV,WW,WZ,Vb,Vc,Vr,V5,V6,V8,V9,VA,VB,VC,VF,VG,VH,VI,VK,VP,VQ,VR,VU,VV,VW,VY,VZ,Ua,Ub,Uc,Ud,Uq,Ut,Uu,Uv,Uy,Uz,U0,U9,UA,UZ,Ta,Te,Tm,Tn,Tp,Tq,Ts,Tt,Tw,T0,T1,TC,Sl,Sz,u1,u2,t1,t2,t3,t4,t5,t6,v1,v2,v3,v4,k1,k2,c_a32,c_b33,c_ag];all_goals tactic=>exact rfl))
theorem aIz (c:a≠32∧b≠33∧¬32≤a∧32≤b):runW aA 89 [.pt 0 0,I a,I b] (gN l fl)=some (I (cR st s nur fix fl a b),gN l fl):=by
 have hcap:bW st s nur fix a b=0:=by
  unfold bW
  split<;>(try split)<;>(try split)<;>(try split)<;>(try split)<;>first|rfl|(exfalso;simp at *;omega)|(exfalso;omega)
 have f1:=hf a b
 have f2:=hf b a
 have hs:=h.s
 have hn:=h.nur
 have hx:=h.fix
 have hk:=h.st (a/2)
 have u1:IntKind.i64.wrap (0-fl a b)=0-fl a b:=aD (by omega) (by omega)
 have u2:IntKind.i64.wrap (0-fl a b+fl b a)=0-fl a b+fl b a:=aD (by omega) (by omega)
 have t1:kU (a:Int) 2=((a%2:Nat):Int):=bK a 2
 have t2:kU (b:Int) 2=((b%2:Nat):Int):=bK b 2
 have t3:lO (a:Int) 2=((a/2:Nat):Int):=cC a 2
 have t4:lO (b:Int) 2=((b/2:Nat):Int):=cC b 2
 have t5:IntKind.i64.wrap ((a/2:Nat):Int)=((a/2:Nat):Int):=aD (by omega) (by omega)
 have t6:IntKind.i64.wrap ((b/2:Nat):Int)=((b/2:Nat):Int):=aD (by omega) (by omega)
 have v1:((0:Int)≤a)=True:=eq_true (by omega)
 have v2:((a:Int)<34)=True:=eq_true (by omega)
 have v3:((0:Int)≤b)=True:=eq_true (by omega)
 have v4:((b:Int)<34)=True:=eq_true (by omega)
 have k1:=bV (v:=.pt 1 0) (fl:=fl) ha hb
 have k2:=bV (v:=.pt 1 0) (fl:=fl) hb ha
 have c_a32:((a:Int)=32)=False:=eq_false (by omega)
 have c_b33:((b:Int)=33)=False:=eq_false (by omega)
 have c_ag:(32≤(a:Int))=False:=eq_false (by omega)
 have c_bg:(32≤(b:Int))=True:=eq_true (by omega)
 unfold cR
 rw[hcap]
 generalize hA:a/2=a2 at *
 generalize hB:b/2=b2 at *
 generalize hA2:a%2=a3 at *
 generalize hB2:b%2=b3 at *
 rw[r89 (by simp)];unfold x89;dsimp only
 (sym=>(simp[aO,aP,bO,aJ,aI,aK,aL,aU,aF,Za,Zb,Zf,Zh,Zi,Zl,Zm,Zp,Zr,Zv,Zy,Z2,Z3,Z7,Z8,ZH,ZJ,ZW,Ya,Yi,Yj,Yq,Yv,Yw,Yx,YO,YT,YU,Xb,Xp,Xv,X0,Wc,Wi,Wx,Wy,Wz,W7,W9,WE,WG,WI,WK,WL,WM,WN,WO,WU,WV,WW,WZ,Vb,Vc,Vr,V5,V6,V8,V9,VA,VB,VC,VF,VG,VH,VI,VK,VP,VQ,VR,VU,VV,VW,VY,VZ,Ua,Ub,Uc,Ud,Uq,Ut,Uu,Uv,Uy,Uz,U0,U9,UA,UZ,Ta,Te,Tm,Tn,Tp,Tq,Ts,Tt,Tw,T0,T1,TC,Sl,Sz,u1,u2,t1,t2,t3,t4,t5,t6,v1,v2,v3,v4,k1,k2,c_a32,c_b33,c_ag,c_bg];all_goals tactic=>exact rfl))
theorem aGw (c:a≠32∧b≠33∧¬32≤a∧¬32≤b∧a%2=0∧b=a+1) (hv:(fix).testBit (a/2)=true):runW aA 89 [.pt 0 0,I a,I b] (gN l fl)=some (I (cR st s nur fix fl a b),gN l fl):=by
 have hcap:bW st s nur fix a b=16:=by
  unfold bW
  rw[hv,if_neg c.1,if_neg c.2.1,if_neg (by omega),if_pos ⟨c.2.2.2.2.1,c.2.2.2.2.2⟩,if_pos rfl]
 have f1:=hf a b
 have f2:=hf b a
 have hs:=h.s
 have hn:=h.nur
 have hx:=h.fix
 have hk:=h.st (a/2)
 have u1:IntKind.i64.wrap (16-fl a b)=16-fl a b:=aD (by omega) (by omega)
 have u2:IntKind.i64.wrap (16-fl a b+fl b a)=16-fl a b+fl b a:=aD (by omega) (by omega)
 have t1:kU (a:Int) 2=((a%2:Nat):Int):=bK a 2
 have t2:kU (b:Int) 2=((b%2:Nat):Int):=bK b 2
 have t3:lO (a:Int) 2=((a/2:Nat):Int):=cC a 2
 have t4:lO (b:Int) 2=((b/2:Nat):Int):=cC b 2
 have t5:IntKind.i64.wrap ((a/2:Nat):Int)=((a/2:Nat):Int):=aD (by omega) (by omega)
 have t6:IntKind.i64.wrap ((b/2:Nat):Int)=((b/2:Nat):Int):=aD (by omega) (by omega)
 have v1:((0:Int)≤a)=True:=eq_true (by omega)
 have v2:((a:Int)<34)=True:=eq_true (by omega)
 have v3:((0:Int)≤b)=True:=eq_true (by omega)
 have v4:((b:Int)<34)=True:=eq_true (by omega)
 have k1:=bV (v:=.pt 1 0) (fl:=fl) ha hb
 have k2:=bV (v:=.pt 1 0) (fl:=fl) hb ha
 have w1:IntKind.i64.wrap ((a:Int)+1)=(a:Int)+1:=aD (by omega) (by omega)
 have c_a32:((a:Int)=32)=False:=eq_false (by omega)
 have c_b33:((b:Int)=33)=False:=eq_false (by omega)
 have c_ag:(32≤(a:Int))=False:=eq_false (by omega)
 have c_bg:(32≤(b:Int))=False:=eq_false (by omega)
 have c_ae:(((a%2:Nat):Int)=0)=True:=eq_true (by omega)
 have c_ba:((b:Int)=(a:Int)+1)=True:=eq_true (by omega)
 have e:=oO (a:=fix) (j:=a/2) (by omega) (by omega)
 rw[hv]at e
 have q:=h.l5
 unfold cR
 rw[hcap]
 generalize hA:a/2=a2 at *
 generalize hB:b/2=b2 at *
 generalize hA2:a%2=a3 at *
 generalize hB2:b%2=b3 at *
 rw[r89 (by simp)];unfold x89;dsimp only
 (sym=>(simp[aO,aP,bO,aJ,aI,aK,aL,aU,aF,Za,Zb,Zf,Zh,Zi,Zl,Zm,Zp,Zq,Zr,Zv,Zy,Z2,Z3,Z7,Z8,ZG,ZH,ZJ,ZO,ZP,ZT,ZU,ZV,ZW,Ya,Yi,Yj,Yq,Yv,Yw,Yx,YO,YT,YU,Xb,Xp,Xq,Xv,X0,Wc,Wi,Wx,Wy,Wz,W6,W7,W9,WE,WG,WI,WJ,WK,WL,WM,WN,WO,WQ,WR,WU,WV,WW,WZ,Vb,Vc,Ve,Vf,Vg,Vr,V5,V6,V8,V9,VA,VB,VC,VF,VG,VH,VI,VK,VP,VQ,VR,VU,VV,VW,VY,VZ,Ua,Ub,Uc,Ud,Uq,Ut,Uu,Uv,Uy,Uz,U0,U1,U2,U9,UA,UZ,Ta,Te,Tm,Tn,Tp,Ts,Tt,Tw,T0,T1,TC,Sl,Sz,u1,u2,t1,t2,t3,t4,t5,t6,v1,v2,v3,v4,k1,k2,w1,c_a32,c_b33,c_ag,c_bg,c_ae,c_ba,e,q];all_goals tactic=>exact rfl))
theorem aGx (c:a≠32∧b≠33∧¬32≤a∧¬32≤b∧a%2=0∧b=a+1) (hv:(fix).testBit (a/2)=false):runW aA 89 [.pt 0 0,I a,I b] (gN l fl)=some (I (cR st s nur fix fl a b),gN l fl):=by
 have hcap:bW st s nur fix a b=1:=by
  unfold bW
  rw[hv,if_neg c.1,if_neg c.2.1,if_neg (by omega),if_pos ⟨c.2.2.2.2.1,c.2.2.2.2.2⟩,if_neg (by simp)]
 have f1:=hf a b
 have f2:=hf b a
 have hs:=h.s
 have hn:=h.nur
 have hx:=h.fix
 have hk:=h.st (a/2)
 have u1:IntKind.i64.wrap (1-fl a b)=1-fl a b:=aD (by omega) (by omega)
 have u2:IntKind.i64.wrap (1-fl a b+fl b a)=1-fl a b+fl b a:=aD (by omega) (by omega)
 have t1:kU (a:Int) 2=((a%2:Nat):Int):=bK a 2
 have t2:kU (b:Int) 2=((b%2:Nat):Int):=bK b 2
 have t3:lO (a:Int) 2=((a/2:Nat):Int):=cC a 2
 have t4:lO (b:Int) 2=((b/2:Nat):Int):=cC b 2
 have t5:IntKind.i64.wrap ((a/2:Nat):Int)=((a/2:Nat):Int):=aD (by omega) (by omega)
 have t6:IntKind.i64.wrap ((b/2:Nat):Int)=((b/2:Nat):Int):=aD (by omega) (by omega)
 have v1:((0:Int)≤a)=True:=eq_true (by omega)
 have v2:((a:Int)<34)=True:=eq_true (by omega)
 have v3:((0:Int)≤b)=True:=eq_true (by omega)
 have v4:((b:Int)<34)=True:=eq_true (by omega)
 have k1:=bV (v:=.pt 1 0) (fl:=fl) ha hb
 have k2:=bV (v:=.pt 1 0) (fl:=fl) hb ha
 have w1:IntKind.i64.wrap ((a:Int)+1)=(a:Int)+1:=aD (by omega) (by omega)
 have c_a32:((a:Int)=32)=False:=eq_false (by omega)
 have c_b33:((b:Int)=33)=False:=eq_false (by omega)
 have c_ag:(32≤(a:Int))=False:=eq_false (by omega)
 have c_bg:(32≤(b:Int))=False:=eq_false (by omega)
 have c_ae:(((a%2:Nat):Int)=0)=True:=eq_true (by omega)
 have c_ba:((b:Int)=(a:Int)+1)=True:=eq_true (by omega)
 have e:=oO (a:=fix) (j:=a/2) (by omega) (by omega)
 rw[hv]at e
 have q:=h.l5
 unfold cR
 rw[hcap]
 generalize hA:a/2=a2 at *
 generalize hB:b/2=b2 at *
 generalize hA2:a%2=a3 at *
 generalize hB2:b%2=b3 at *
 rw[r89 (by simp)];unfold x89;dsimp only
 (sym=>(simp[aO,aP,bO,aJ,aI,aK,aL,aU,aF,Za,Zb,Zf,Zh,Zi,Zl,Zm,Zp,Zq,Zr,Zv,Zy,Z2,Z3,Z7,Z8,ZG,ZH,ZJ,ZO,ZP,ZT,ZU,ZV,ZW,Ya,Yi,Yj,Yq,Yv,Yw,Yx,YO,YT,YU,Xb,Xp,Xq,Xv,X0,Wc,Wi,Wx,Wy,Wz,W6,W7,W9,WE,WG,WI,WJ,WK,WL,WM,WN,WO,WQ,WR,WU,WV,WW,WZ,Vb,Vc,Ve,Vf,Vg,Vr,V5,V6,V8,V9,VA,VB,VC,VF,VG,VH,VI,VK,VP,VQ,VR,VU,VV,VW,VY,VZ,Ua,Ub,Uc,Ud,Uq,Ut,Uu,Uv,Uy,Uz,U0,U1,U2,U9,UA,UZ,Ta,Te,Tm,Tn,Tp,Tq,Ts,Tt,Tw,T0,T1,TC,Sl,Sz,u1,u2,t1,t2,t3,t4,t5,t6,v1,v2,v3,v4,k1,k2,w1,c_a32,c_b33,c_ag,c_bg,c_ae,c_ba,e,q];all_goals tactic=>exact rfl))
theorem aIy (c:a≠32∧b≠33∧¬32≤a∧¬32≤b∧a%2=0∧¬b=a+1):runW aA 89 [.pt 0 0,I a,I b] (gN l fl)=some (I (cR st s nur fix fl a b),gN l fl):=by
 have hcap:bW st s nur fix a b=0:=by
  unfold bW
  split<;>(try split)<;>(try split)<;>(try split)<;>(try split)<;>first|rfl|(exfalso;simp at *;omega)|(exfalso;omega)
 have f1:=hf a b
 have f2:=hf b a
 have hs:=h.s
 have hn:=h.nur
 have hx:=h.fix
 have hk:=h.st (a/2)
 have u1:IntKind.i64.wrap (0-fl a b)=0-fl a b:=aD (by omega) (by omega)
 have u2:IntKind.i64.wrap (0-fl a b+fl b a)=0-fl a b+fl b a:=aD (by omega) (by omega)
 have t1:kU (a:Int) 2=((a%2:Nat):Int):=bK a 2
 have t2:kU (b:Int) 2=((b%2:Nat):Int):=bK b 2
 have t3:lO (a:Int) 2=((a/2:Nat):Int):=cC a 2
 have t4:lO (b:Int) 2=((b/2:Nat):Int):=cC b 2
 have t5:IntKind.i64.wrap ((a/2:Nat):Int)=((a/2:Nat):Int):=aD (by omega) (by omega)
 have t6:IntKind.i64.wrap ((b/2:Nat):Int)=((b/2:Nat):Int):=aD (by omega) (by omega)
 have v1:((0:Int)≤a)=True:=eq_true (by omega)
 have v2:((a:Int)<34)=True:=eq_true (by omega)
 have v3:((0:Int)≤b)=True:=eq_true (by omega)
 have v4:((b:Int)<34)=True:=eq_true (by omega)
 have k1:=bV (v:=.pt 1 0) (fl:=fl) ha hb
 have k2:=bV (v:=.pt 1 0) (fl:=fl) hb ha
 have w1:IntKind.i64.wrap ((a:Int)+1)=(a:Int)+1:=aD (by omega) (by omega)
 have c_a32:((a:Int)=32)=False:=eq_false (by omega)
 have c_b33:((b:Int)=33)=False:=eq_false (by omega)
 have c_ag:(32≤(a:Int))=False:=eq_false (by omega)
 have c_bg:(32≤(b:Int))=False:=eq_false (by omega)
 have c_ae:(((a%2:Nat):Int)=0)=True:=eq_true (by omega)
 have c_ba:((b:Int)=(a:Int)+1)=False:=eq_false (by omega)
 have c_ao:(((a%2:Nat):Int)=1)=False:=eq_false (by omega)
 unfold cR
 rw[hcap]
 generalize hA:a/2=a2 at *
 generalize hB:b/2=b2 at *
 generalize hA2:a%2=a3 at *
 generalize hB2:b%2=b3 at *
 rw[r89 (by simp)];unfold x89;dsimp only
 (sym=>(simp[aO,aP,bO,aJ,aI,aK,aL,aU,aF,Za,Zb,Zf,Zh,Zi,Zl,Zm,Zp,Zq,Zr,Zs,Zv,Zy,Z2,Z3,Z7,Z8,ZH,ZJ,ZV,ZW,Ya,Yi,Yj,Yq,Yv,Yw,Yx,YO,YT,YU,Xb,Xp,Xv,X0,Wc,Wi,Wx,Wy,Wz,W7,W9,WE,WG,WI,WK,WL,WM,WN,WO,WU,WV,WW,WZ,Vb,Vc,Vr,V5,V6,V8,V9,VA,VB,VC,VF,VG,VH,VI,VK,VP,VR,VU,VV,VW,VY,VZ,Ua,Ub,Uc,Ud,Uq,Ut,Uu,Uv,Uy,Uz,U0,U9,UA,UZ,Ta,Te,Tm,Tn,Tp,Tq,Ts,Tt,Tw,T0,T1,TC,Sl,Sz,u1,u2,t1,t2,t3,t4,t5,t6,v1,v2,v3,v4,k1,k2,w1,c_a32,c_b33,c_ag,c_bg,c_ae,c_ba,c_ao];all_goals tactic=>exact rfl))
theorem aGu (c:a≠32∧b≠33∧¬32≤a∧¬32≤b∧a%2=1∧b%2=0) (hv:(st (a/2)).testBit (b/2)=true):runW aA 89 [.pt 0 0,I a,I b] (gN l fl)=some (I (cR st s nur fix fl a b),gN l fl):=by
 have hcap:bW st s nur fix a b=16:=by
  unfold bW
  rw[hv,if_neg c.1,if_neg c.2.1,if_neg (by omega),if_neg (by omega),if_pos ⟨c.2.2.2.2.1,c.2.2.2.2.2,rfl⟩]
 have f1:=hf a b
 have f2:=hf b a
 have hs:=h.s
 have hn:=h.nur
 have hx:=h.fix
 have hk:=h.st (a/2)
 have u1:IntKind.i64.wrap (16-fl a b)=16-fl a b:=aD (by omega) (by omega)
 have u2:IntKind.i64.wrap (16-fl a b+fl b a)=16-fl a b+fl b a:=aD (by omega) (by omega)
 have t1:kU (a:Int) 2=((a%2:Nat):Int):=bK a 2
 have t2:kU (b:Int) 2=((b%2:Nat):Int):=bK b 2
 have t3:lO (a:Int) 2=((a/2:Nat):Int):=cC a 2
 have t4:lO (b:Int) 2=((b/2:Nat):Int):=cC b 2
 have t5:IntKind.i64.wrap ((a/2:Nat):Int)=((a/2:Nat):Int):=aD (by omega) (by omega)
 have t6:IntKind.i64.wrap ((b/2:Nat):Int)=((b/2:Nat):Int):=aD (by omega) (by omega)
 have v1:((0:Int)≤a)=True:=eq_true (by omega)
 have v2:((a:Int)<34)=True:=eq_true (by omega)
 have v3:((0:Int)≤b)=True:=eq_true (by omega)
 have v4:((b:Int)<34)=True:=eq_true (by omega)
 have k1:=bV (v:=.pt 1 0) (fl:=fl) ha hb
 have k2:=bV (v:=.pt 1 0) (fl:=fl) hb ha
 have c_a32:((a:Int)=32)=False:=eq_false (by omega)
 have c_b33:((b:Int)=33)=False:=eq_false (by omega)
 have c_ag:(32≤(a:Int))=False:=eq_false (by omega)
 have c_bg:(32≤(b:Int))=False:=eq_false (by omega)
 have c_ae:(((a%2:Nat):Int)=0)=False:=eq_false (by omega)
 have c_ao:(((a%2:Nat):Int)=1)=True:=eq_true (by omega)
 have c_be:(((b%2:Nat):Int)=0)=True:=eq_true (by omega)
 have e:=oO (a:=st (a/2)) (j:=b/2) (by omega) (by omega)
 rw[hv]at e
 have q:=h.k (a/2) (by omega)
 have v5:((0:Int)≤((a/2:Nat):Int))=True:=eq_true (by omega)
 have v6:(((a/2:Nat):Int)<16)=True:=eq_true (by omega)
 unfold cR
 rw[hcap]
 generalize hA:a/2=a2 at *
 generalize hB:b/2=b2 at *
 generalize hA2:a%2=a3 at *
 generalize hB2:b%2=b3 at *
 rw[r89 (by simp)];unfold x89;dsimp only
 (sym=>(simp[aO,aP,bO,aJ,aI,aK,aL,aU,aF,Za,Zb,Zf,Zh,Zi,Zl,Zm,Zp,Zq,Zr,Zs,Zv,Zy,Z2,Z3,Z7,Z8,ZG,ZH,ZJ,ZO,ZP,ZT,ZU,ZV,ZW,Ya,Yi,Yj,Yq,Yv,Yw,Yx,YO,YT,YU,Xb,Xp,Xq,Xv,X0,Wc,Wi,Wx,Wy,Wz,W6,W7,W9,WE,WG,WI,WJ,WK,WL,WM,WN,WO,WQ,WR,WU,WV,WW,WZ,Vb,Vc,Ve,Vf,Vg,Vr,V5,V6,V8,V9,VA,VB,VC,VF,VG,VH,VI,VK,VP,VQ,VR,VU,VV,VW,VY,VZ,Ua,Ub,Uc,Ud,Uq,Ut,Uu,Uv,Uy,Uz,U0,U1,U2,U9,UA,UZ,Ta,Te,Tm,Tn,Tp,Ts,Tt,Tw,T0,T1,TC,Sl,Sx,Sz,u1,u2,t1,t2,t3,t4,t5,t6,v1,v2,v3,v4,k1,k2,c_a32,c_b33,c_ag,c_bg,c_ae,c_ao,c_be,e,q,v5,v6];all_goals tactic=>exact rfl))
theorem aGv (c:a≠32∧b≠33∧¬32≤a∧¬32≤b∧a%2=1∧b%2=0) (hv:(st (a/2)).testBit (b/2)=false):runW aA 89 [.pt 0 0,I a,I b] (gN l fl)=some (I (cR st s nur fix fl a b),gN l fl):=by
 have hcap:bW st s nur fix a b=0:=by
  unfold bW
  rw[hv,if_neg c.1,if_neg c.2.1,if_neg (by omega),if_neg (by omega),if_neg (by simp)]
 have f1:=hf a b
 have f2:=hf b a
 have hs:=h.s
 have hn:=h.nur
 have hx:=h.fix
 have hk:=h.st (a/2)
 have u1:IntKind.i64.wrap (0-fl a b)=0-fl a b:=aD (by omega) (by omega)
 have u2:IntKind.i64.wrap (0-fl a b+fl b a)=0-fl a b+fl b a:=aD (by omega) (by omega)
 have t1:kU (a:Int) 2=((a%2:Nat):Int):=bK a 2
 have t2:kU (b:Int) 2=((b%2:Nat):Int):=bK b 2
 have t3:lO (a:Int) 2=((a/2:Nat):Int):=cC a 2
 have t4:lO (b:Int) 2=((b/2:Nat):Int):=cC b 2
 have t5:IntKind.i64.wrap ((a/2:Nat):Int)=((a/2:Nat):Int):=aD (by omega) (by omega)
 have t6:IntKind.i64.wrap ((b/2:Nat):Int)=((b/2:Nat):Int):=aD (by omega) (by omega)
 have v1:((0:Int)≤a)=True:=eq_true (by omega)
 have v2:((a:Int)<34)=True:=eq_true (by omega)
 have v3:((0:Int)≤b)=True:=eq_true (by omega)
 have v4:((b:Int)<34)=True:=eq_true (by omega)
 have k1:=bV (v:=.pt 1 0) (fl:=fl) ha hb
 have k2:=bV (v:=.pt 1 0) (fl:=fl) hb ha
 have c_a32:((a:Int)=32)=False:=eq_false (by omega)
 have c_b33:((b:Int)=33)=False:=eq_false (by omega)
 have c_ag:(32≤(a:Int))=False:=eq_false (by omega)
 have c_bg:(32≤(b:Int))=False:=eq_false (by omega)
 have c_ae:(((a%2:Nat):Int)=0)=False:=eq_false (by omega)
 have c_ao:(((a%2:Nat):Int)=1)=True:=eq_true (by omega)
 have c_be:(((b%2:Nat):Int)=0)=True:=eq_true (by omega)
 have e:=oO (a:=st (a/2)) (j:=b/2) (by omega) (by omega)
 rw[hv]at e
 have q:=h.k (a/2) (by omega)
 have v5:((0:Int)≤((a/2:Nat):Int))=True:=eq_true (by omega)
 have v6:(((a/2:Nat):Int)<16)=True:=eq_true (by omega)
 unfold cR
 rw[hcap]
 generalize hA:a/2=a2 at *
 generalize hB:b/2=b2 at *
 generalize hA2:a%2=a3 at *
 generalize hB2:b%2=b3 at *
 rw[r89 (by simp)];unfold x89;dsimp only
 (sym=>(simp[aO,aP,bO,aJ,aI,aK,aL,aU,aF,Za,Zb,Zf,Zh,Zi,Zl,Zm,Zp,Zq,Zr,Zs,Zv,Zy,Z2,Z3,Z7,Z8,ZG,ZH,ZJ,ZO,ZP,ZT,ZU,ZV,ZW,Ya,Yi,Yj,Yq,Yv,Yw,Yx,YO,YT,YU,Xb,Xp,Xq,Xv,X0,Wc,Wi,Wx,Wy,Wz,W6,W7,W9,WE,WG,WI,WJ,WK,WL,WM,WN,WO,WQ,WR,WU,WV,WW,WZ,Vb,Vc,Ve,Vf,Vg,Vr,V5,V6,V8,V9,VA,VB,VC,VF,VG,VH,VI,VK,VP,VR,VU,VV,VW,VY,VZ,Ua,Ub,Uc,Ud,Uq,Ut,Uu,Uv,Uy,Uz,U0,U1,U2,U9,UA,UZ,Ta,Te,Tm,Tn,Tp,Tq,Ts,Tt,Tw,T0,T1,TC,Sl,Sx,Sz,u1,u2,t1,t2,t3,t4,t5,t6,v1,v2,v3,v4,k1,k2,c_a32,c_b33,c_ag,c_bg,c_ae,c_ao,c_be,e,q,v5,v6];all_goals tactic=>exact rfl))
theorem aIx (c:a≠32∧b≠33∧¬32≤a∧¬32≤b∧a%2=1∧¬b%2=0):runW aA 89 [.pt 0 0,I a,I b] (gN l fl)=some (I (cR st s nur fix fl a b),gN l fl):=by
 have hcap:bW st s nur fix a b=0:=by
  unfold bW
  split<;>(try split)<;>(try split)<;>(try split)<;>(try split)<;>first|rfl|(exfalso;simp at *;omega)|(exfalso;omega)
 have f1:=hf a b
 have f2:=hf b a
 have hs:=h.s
 have hn:=h.nur
 have hx:=h.fix
 have hk:=h.st (a/2)
 have u1:IntKind.i64.wrap (0-fl a b)=0-fl a b:=aD (by omega) (by omega)
 have u2:IntKind.i64.wrap (0-fl a b+fl b a)=0-fl a b+fl b a:=aD (by omega) (by omega)
 have t1:kU (a:Int) 2=((a%2:Nat):Int):=bK a 2
 have t2:kU (b:Int) 2=((b%2:Nat):Int):=bK b 2
 have t3:lO (a:Int) 2=((a/2:Nat):Int):=cC a 2
 have t4:lO (b:Int) 2=((b/2:Nat):Int):=cC b 2
 have t5:IntKind.i64.wrap ((a/2:Nat):Int)=((a/2:Nat):Int):=aD (by omega) (by omega)
 have t6:IntKind.i64.wrap ((b/2:Nat):Int)=((b/2:Nat):Int):=aD (by omega) (by omega)
 have v1:((0:Int)≤a)=True:=eq_true (by omega)
 have v2:((a:Int)<34)=True:=eq_true (by omega)
 have v3:((0:Int)≤b)=True:=eq_true (by omega)
 have v4:((b:Int)<34)=True:=eq_true (by omega)
 have k1:=bV (v:=.pt 1 0) (fl:=fl) ha hb
 have k2:=bV (v:=.pt 1 0) (fl:=fl) hb ha
 have c_a32:((a:Int)=32)=False:=eq_false (by omega)
 have c_b33:((b:Int)=33)=False:=eq_false (by omega)
 have c_ag:(32≤(a:Int))=False:=eq_false (by omega)
 have c_bg:(32≤(b:Int))=False:=eq_false (by omega)
 have c_ae:(((a%2:Nat):Int)=0)=False:=eq_false (by omega)
 have c_ao:(((a%2:Nat):Int)=1)=True:=eq_true (by omega)
 have c_be:(((b%2:Nat):Int)=0)=False:=eq_false (by omega)
 unfold cR
 rw[hcap]
 generalize hA:a/2=a2 at *
 generalize hB:b/2=b2 at *
 generalize hA2:a%2=a3 at *
 generalize hB2:b%2=b3 at *
 rw[r89 (by simp)];unfold x89;dsimp only
 (sym=>(simp[aO,aP,bO,aJ,aI,aK,aL,aU,aF,Za,Zb,Zf,Zh,Zi,Zl,Zm,Zp,Zq,Zr,Zs,Zv,Zy,Z2,Z3,Z7,Z8,ZH,ZJ,ZV,ZW,Ya,Yi,Yj,Yq,Yv,Yw,Yx,YO,YT,YU,Xb,Xp,Xv,X0,Wc,Wi,Wx,Wy,Wz,W7,W9,WE,WG,WI,WK,WL,WM,WN,WO,WU,WV,WW,WZ,Vb,Vc,Vr,V5,V6,V8,V9,VA,VB,VC,VF,VG,VH,VI,VK,VP,VR,VU,VV,VW,VY,VZ,Ua,Ub,Uc,Ud,Uq,Ut,Uu,Uv,Uy,Uz,U0,U9,UA,UZ,Ta,Te,Tm,Tn,Tp,Tq,Ts,Tt,Tw,T0,T1,TC,Sl,Sz,u1,u2,t1,t2,t3,t4,t5,t6,v1,v2,v3,v4,k1,k2,c_a32,c_b33,c_ag,c_bg,c_ae,c_ao,c_be];all_goals tactic=>exact rfl))
theorem w89:runW aA 89 [.pt 0 0,I a,I b] (gN l fl)=some (I (cR st s nur fix fl a b),gN l fl):=by
 by_cases p1:a=32
 ·by_cases p2:b%2=0
  ·by_cases p3:b<32
   ·cases hv:s.testBit (b/2)
    ·exact aGB h hf ha hb (by omega) hv
    ·exact aGA h hf ha hb (by omega) hv
   ·exact aIE h hf ha hb (by omega)
  ·exact aID h hf ha hb (by omega)
 ·by_cases p2:b=33
  ·by_cases p3:a%2=1
   ·by_cases p4:a<32
    ·cases hv:nur.testBit (a/2)
     ·exact aGz h hf ha hb (by omega) hv
     ·exact aGy h hf ha hb (by omega) hv
    ·exact aIC h hf ha hb (by omega)
   ·exact aIB h hf ha hb (by omega)
  ·by_cases p3:32≤a
   ·exact aIA h hf ha hb (by omega)
   ·by_cases p4:32≤b
    ·exact aIz h hf ha hb (by omega)
    ·by_cases p5:a%2=0
     ·by_cases p6:b=a+1
      ·cases hv:fix.testBit (a/2)
       ·exact aGx h hf ha hb (by omega) hv
       ·exact aGw h hf ha hb (by omega) hv
      ·exact aIy h hf ha hb (by omega)
     ·by_cases p6:b%2=0
      ·cases hv:(st (a/2)).testBit (b/2)
       ·exact aGv h hf ha hb (by omega) hv
       ·exact aGu h hf ha hb (by omega) hv
      ·exact aIx h hf ha hb (by omega)
end
def aAv (m:Nat→Bool):List AV:=(List.range 34).map fun k=>.bool (m k)
def fK (m:Nat→Bool) (a:Nat):Nat→Bool:=fun c=>if c=a then true else m c
theorem cX {m:Nat→Bool}:(aAv m).length=34:=by simp[aAv]
theorem pK {m:Nat→Bool} {a:Nat} (ha:a<34):(aAv m)[a]?=some (.bool (m a)):=by
 rw[aAv,List.getElem?_map,List.getElem?_range ha];rfl
theorem aIW {m:Nat→Bool} {a:Nat} (ha:a<34):bY (aAv m) a [.bool true]=aAv (fK m a):=by
 rw[iI (by rw[cX];omega)]
 apply List.ext_getElem?
 intro j
 rw[List.getElem?_set,cX]
 by_cases hj:a=j
 ·subst hj
  rw[if_pos rfl,if_pos ha,pK ha,fK,if_pos rfl]
 ·rw[if_neg hj]
  by_cases h:j<34
  ·rw[pK h,pK h,fK,if_neg (by omega)]
  ·rw[List.getElem?_eq_none (by rw[cX];omega),List.getElem?_eq_none (by rw[cX];omega)]
def aCX (m:Nat→Bool):Nat:=((List.range 34).filter m).length
theorem aJB (m:Nat→Bool):aCX m≤34:=by
 have:=List.length_filter_le m (List.range 34)
 simpa [aCX]using this
def aAc (m m':Nat→Bool):Prop:=∀ c,m c=true→m' c=true
theorem aEt (m:Nat→Bool):aAc m m:=fun _ h=>h
theorem vL {m m' m'':Nat→Bool} (h:aAc m m') (g:aAc m' m''):aAc m m'':=fun c hc=>g c (h c hc)
theorem mW (m:Nat→Bool) (a:Nat):aAc m (fK m a):=fun c hc=>by unfold fK;split<;>first|rfl|exact hc
theorem aEY {m m':Nat→Bool} (h:aAc m m'):aCX m≤aCX m':=oI _ fun k _ hk=>h k hk
theorem aBQ {m:Nat→Bool} {a:Nat} (ha:a<34) (h:m a=false):aCX m<aCX (fK m a) :=
 sW h (by simp[fK]) _ (List.mem_range.2 ha) fun k _ hk=>mW m a k hk
def push (fl:Nat→Nat→Int) (a b:Nat):Nat→Nat→Int:=if 0<fl b a then kT fl b a (fl b a-1) else kT fl a b (fl a b+1)
section
variable (cap:Nat→Nat→Int)
def vU (fl:Nat→Nat→Int) (a b:Nat):Int:=cap a b-fl a b+fl b a
inductive Aug (fl:Nat→Nat→Int):(Nat→Bool)→Nat→(Nat→Nat→Int)→Prop
 | sink {m:Nat→Bool}:Aug fl m 33 fl
 | step {m:Nat→Bool} {a b:Nat} {fl':Nat→Nat→Int}:m a=false→a<33→b<34→0<vU cap fl a b→Aug fl (fK m a) b fl'→Aug fl m a (push fl' a b)
variable {cap}
theorem Aug.mono {fl fl':Nat→Nat→Int} {m m':Nat→Bool} {a:Nat} (h:Aug cap fl m a fl') (hs:aAc m' m):Aug cap fl m' a fl':=by
 induction h generalizing m' with
 | sink=>exact .sink
 | @step m a b fl' h1 h2 h3 h4 _ ih =>
   refine .step ?_ h2 h3 h4 (ih ?_)
   ·cases h:m' a
    ·rfl
    ·rw[hs _ h]at h1;simp at h1
   ·intro c hc
    unfold fK at hc ⊢
    split
    ·rfl
    ·next hn=>rw[if_neg hn]at hc;exact hs c hc
theorem aEG {fl:Nat→Nat→Int} {a b c d:Nat} (h1:¬(c=a∧d=b)) (h2:¬(c=b∧d=a)):push fl a b c d=fl c d:=by
 unfold push
 split
 ·unfold kT;rw[if_neg h2]
 ·unfold kT;rw[if_neg h1]
theorem Aug.free {fl fl':Nat→Nat→Int} {m:Nat→Bool} {a:Nat} (h:Aug cap fl m a fl'):a=33∨m a=false:=by
 cases h with
 | sink=>exact .inl rfl
 | step h _ _ _ _=>exact .inr h
theorem Aug.same {fl fl':Nat→Nat→Int} {m:Nat→Bool} {a:Nat} (h:Aug cap fl m a fl') (h33:m 33=false):∀ c d,m c=true∨m d=true→fl' c d=fl c d:=by
 induction h with
 | sink=>exact fun _ _ _=>rfl
 | @step m a b fl' h1 h2 h3 h4 h5 ih =>
   intro c d hcd
   have hb:=h5.free
   have n33:fK m a 33=false:=by unfold fK;rw[if_neg (by omega)];exact h33
   have hmb:m b=false:=by
    rcases hb with rfl|hb
    ·exact h33
    ·cases e:m b
     ·rfl
     ·rw[mW m a b e]at hb;simp at hb
   rw[aEG,ih n33 c d]
   ·rcases hcd with h|h
    ·exact .inl (mW m a c h)
    ·exact .inr (mW m a d h)
   ·rintro ⟨rfl,rfl⟩
    rcases hcd with h|h
    ·rw[h]at h1;simp at h1
    ·rw[h]at hmb;simp at hmb
   ·rintro ⟨rfl,rfl⟩
    rcases hcd with h|h
    ·rw[h]at hmb;simp at hmb
    ·rw[h]at h1;simp at h1
structure aDe (cap:Nat→Nat→Int) (fl:Nat→Nat→Int) (m m':Nat→Bool) (a:Nat):Prop where
 sub:aAc m m'
 has:m' a=true
 last:m' 33=false
 new:∀ c,m' c=true→m c=false→∀ b,b<34→0<vU cap fl c b→m' b=true
end
end Go.Proofs.YtiabjdfdkiijmaaDoor
