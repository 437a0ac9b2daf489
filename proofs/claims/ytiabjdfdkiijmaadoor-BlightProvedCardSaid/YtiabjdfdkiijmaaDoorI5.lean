/- Parts of a proof, joined: GT E0 K1 K2 K3 K4 K5 K6 K7 K8 K9 K10 K11 K12 K13 K14 K15 K16 K17 K18 K19 K20 K21 K22 K23 K24 K25 K26 K27 K28 K29 K30 K31 K32 K33 K34 K35 K36 K37 K38 K39 K40 K41 K42 K43 K44 K45 K46. No statement of the seed is proved here. -/
import Derived.KernelRfl
import Derived.Test.YtiabjdfdkiijmaaDoorI4
set_option linter.unusedSimpArgs false
set_option linter.unusedVariables false
set_option linter.unusedSectionVars false
namespace Go.Proofs.YtiabjdfdkiijmaaDoor
open Go Go.DL Go.Proofs.Tryd

def aA:Nat→Option XFn
 | 10=>some x10
 | 16=>some x16
 | 18=>some x18
 | 20=>some x20
 | 22=>some x22
 | 23=>some x23
 | 25=>some x25
 | 27=>some x27
 | 29=>some x29
 | 31=>some x31
 | 33=>some x33
 | 35=>some x35
 | 36=>some x36
 | 39=>some x39
 | 40=>some x40
 | 41=>some x41
 | 42=>some x42
 | 44=>some x44
 | 45=>some x45
 | 46=>some x46
 | 50=>some x50
 | 51=>some x51
 | 53=>some x53
 | 54=>some x54
 | 56=>some x56
 | 57=>some x57
 | 59=>some x59
 | 60=>some x60
 | 61=>some x61
 | 62=>some x62
 | 63=>some x63
 | 65=>some x65
 | 66=>some x66
 | 67=>some x67
 | 68=>some x68
 | 70=>some x70
 | 71=>some x71
 | 72=>some x72
 | 73=>some x73
 | 75=>some x75
 | 76=>some x76
 | 77=>some x77
 | 78=>some x78
 | 79=>some x79
 | 80=>some x80
 | 81=>some x81
 | 82=>some x82
 | 83=>some x83
 | 84=>some x84
 | 85=>some x85
 | 86=>some x86
 | 87=>some x87
 | 88=>some x88
 | 89=>some x89
 | 90=>some x90
 | 91=>some x91
 | _=>none
theorem aHR:XOk prog aA:=by
 refine⟨rfl,fun k d h=>?_,fun k d h=>?_,fun k d h=>?_⟩
 ·unfold aA at h
  split at h
  ·simp only[oSI]at h;subst h;exact aRQ
  ·simp only[oSI]at h;subst h;exact aRP
  ·simp only[oSI]at h;subst h;exact aRO
  ·simp only[oSI]at h;subst h;exact aRN
  ·simp only[oSI]at h;subst h;exact aRM
  ·simp only[oSI]at h;subst h;exact aRL
  ·simp only[oSI]at h;subst h;exact aRK
  ·simp only[oSI]at h;subst h;exact aRJ
  ·simp only[oSI]at h;subst h;exact aRI
  ·simp only[oSI]at h;subst h;exact aRH
  ·simp only[oSI]at h;subst h;exact aRG
  ·simp only[oSI]at h;subst h;exact aRF
  ·simp only[oSI]at h;subst h;exact aRE
  ·simp only[oSI]at h;subst h;exact aRD
  ·simp only[oSI]at h;subst h;exact aRC
  ·simp only[oSI]at h;subst h;exact aRB
  ·simp only[oSI]at h;subst h;exact aRA
  ·simp only[oSI]at h;subst h;exact aRz
  ·simp only[oSI]at h;subst h;exact aRy
  ·simp only[oSI]at h;subst h;exact aRx
  ·simp only[oSI]at h;subst h;exact aRw
  ·simp only[oSI]at h;subst h;exact aRv
  ·simp only[oSI]at h;subst h;exact aRu
  ·simp only[oSI]at h;subst h;exact aRt
  ·simp only[oSI]at h;subst h;exact aRs
  ·simp only[oSI]at h;subst h;exact aRr
  ·simp only[oSI]at h;subst h;exact aRq
  ·simp only[oSI]at h;subst h;exact aRp
  ·simp only[oSI]at h;subst h;exact aRo
  ·simp only[oSI]at h;subst h;exact aRn
  ·simp only[oSI]at h;subst h;exact aRm
  ·simp only[oSI]at h;subst h;exact aRl
  ·simp only[oSI]at h;subst h;exact aRk
  ·simp only[oSI]at h;subst h;exact aRj
  ·simp only[oSI]at h;subst h;exact aRi
  ·simp only[oSI]at h;subst h;exact aRh
  ·simp only[oSI]at h;subst h;exact aRg
  ·simp only[oSI]at h;subst h;exact aRf
  ·simp only[oSI]at h;subst h;exact aRe
  ·simp only[oSI]at h;subst h;exact aRd
  ·simp only[oSI]at h;subst h;exact aRc
  ·simp only[oSI]at h;subst h;exact aRb
  ·simp only[oSI]at h;subst h;exact aRa
  ·simp only[oSI]at h;subst h;exact aQZ
  ·simp only[oSI]at h;subst h;exact aQY
  ·simp only[oSI]at h;subst h;exact aQX
  ·simp only[oSI]at h;subst h;exact aQW
  ·simp only[oSI]at h;subst h;exact aQV
  ·simp only[oSI]at h;subst h;exact aQU
  ·simp only[oSI]at h;subst h;exact aQT
  ·simp only[oSI]at h;subst h;exact aQS
  ·simp only[oSI]at h;subst h;exact aQR
  ·simp only[oSI]at h;subst h;exact aQQ
  ·simp only[oSI]at h;subst h;exact aQP
  ·simp only[oSI]at h;subst h;exact aQO
  ·simp only[oSI]at h;subst h;exact aQN
  ·cases h
 ·unfold aA at h
  split at h
  ·simp only[oSI]at h;subst h;exact aQL
  ·simp only[oSI]at h;subst h;exact aQK
  ·simp only[oSI]at h;subst h;exact aQJ
  ·simp only[oSI]at h;subst h;exact aQI
  ·simp only[oSI]at h;subst h;exact aQH
  ·simp only[oSI]at h;subst h;exact aQG
  ·simp only[oSI]at h;subst h;exact aQF
  ·simp only[oSI]at h;subst h;exact aQE
  ·simp only[oSI]at h;subst h;exact aQD
  ·simp only[oSI]at h;subst h;exact aQC
  ·simp only[oSI]at h;subst h;exact aQB
  ·simp only[oSI]at h;subst h;exact aQA
  ·simp only[oSI]at h;subst h;exact aQz
  ·simp only[oSI]at h;subst h;exact aQy
  ·simp only[oSI]at h;subst h;exact aQx
  ·simp only[oSI]at h;subst h;exact aQw
  ·simp only[oSI]at h;subst h;exact aQv
  ·simp only[oSI]at h;subst h;exact aQu
  ·simp only[oSI]at h;subst h;exact aQt
  ·simp only[oSI]at h;subst h;exact aQs
  ·simp only[oSI]at h;subst h;exact aQr
  ·simp only[oSI]at h;subst h;exact aQq
  ·simp only[oSI]at h;subst h;exact aQp
  ·simp only[oSI]at h;subst h;exact aQo
  ·simp only[oSI]at h;subst h;exact aQn
  ·simp only[oSI]at h;subst h;exact aQm
  ·simp only[oSI]at h;subst h;exact aQl
  ·simp only[oSI]at h;subst h;exact aQk
  ·simp only[oSI]at h;subst h;exact aQj
  ·simp only[oSI]at h;subst h;exact aQi
  ·simp only[oSI]at h;subst h;exact aQh
  ·simp only[oSI]at h;subst h;exact aQg
  ·simp only[oSI]at h;subst h;exact aQf
  ·simp only[oSI]at h;subst h;exact aQe
  ·simp only[oSI]at h;subst h;exact aQd
  ·simp only[oSI]at h;subst h;exact aQc
  ·simp only[oSI]at h;subst h;exact aQb
  ·simp only[oSI]at h;subst h;exact aQa
  ·simp only[oSI]at h;subst h;exact aPZ
  ·simp only[oSI]at h;subst h;exact aPY
  ·simp only[oSI]at h;subst h;exact aPX
  ·simp only[oSI]at h;subst h;exact aPW
  ·simp only[oSI]at h;subst h;exact aPV
  ·simp only[oSI]at h;subst h;exact aPU
  ·simp only[oSI]at h;subst h;exact aPT
  ·simp only[oSI]at h;subst h;exact aPS
  ·simp only[oSI]at h;subst h;exact aPR
  ·simp only[oSI]at h;subst h;exact aPQ
  ·simp only[oSI]at h;subst h;exact aPP
  ·simp only[oSI]at h;subst h;exact aPO
  ·simp only[oSI]at h;subst h;exact aPN
  ·simp only[oSI]at h;subst h;exact aPM
  ·simp only[oSI]at h;subst h;exact aPL
  ·simp only[oSI]at h;subst h;exact aPK
  ·simp only[oSI]at h;subst h;exact aPJ
  ·simp only[oSI]at h;subst h;exact aPI
  ·cases h
 ·unfold aA at h
  split at h
  ·simp only[oSI]at h;subst h;exact aPE
  ·simp only[oSI]at h;subst h;exact aPD
  ·simp only[oSI]at h;subst h;exact aPC
  ·simp only[oSI]at h;subst h;exact aPB
  ·simp only[oSI]at h;subst h;exact aPA
  ·simp only[oSI]at h;subst h;exact aPz
  ·simp only[oSI]at h;subst h;exact aPy
  ·simp only[oSI]at h;subst h;exact aPx
  ·simp only[oSI]at h;subst h;exact aPw
  ·simp only[oSI]at h;subst h;exact aPv
  ·simp only[oSI]at h;subst h;exact aPu
  ·simp only[oSI]at h;subst h;exact aPt
  ·simp only[oSI]at h;subst h;exact aPs
  ·simp only[oSI]at h;subst h;exact aPr
  ·simp only[oSI]at h;subst h;exact aPq
  ·simp only[oSI]at h;subst h;exact aPp
  ·simp only[oSI]at h;subst h;exact aPo
  ·simp only[oSI]at h;subst h;exact aPn
  ·simp only[oSI]at h;subst h;exact aPm
  ·simp only[oSI]at h;subst h;exact aPl
  ·simp only[oSI]at h;subst h;exact aPk
  ·simp only[oSI]at h;subst h;exact aPj
  ·simp only[oSI]at h;subst h;exact aPi
  ·simp only[oSI]at h;subst h;exact aPh
  ·simp only[oSI]at h;subst h;exact aPg
  ·simp only[oSI]at h;subst h;exact aPf
  ·simp only[oSI]at h;subst h;exact aPe
  ·simp only[oSI]at h;subst h;exact aPd
  ·simp only[oSI]at h;subst h;exact aPc
  ·simp only[oSI]at h;subst h;exact aPb
  ·simp only[oSI]at h;subst h;exact aPa
  ·simp only[oSI]at h;subst h;exact aOZ
  ·simp only[oSI]at h;subst h;exact aOY
  ·simp only[oSI]at h;subst h;exact aOX
  ·simp only[oSI]at h;subst h;exact aOW
  ·simp only[oSI]at h;subst h;exact aOV
  ·simp only[oSI]at h;subst h;exact aOU
  ·simp only[oSI]at h;subst h;exact aOT
  ·simp only[oSI]at h;subst h;exact aOS
  ·simp only[oSI]at h;subst h;exact aOR
  ·simp only[oSI]at h;subst h;exact aOQ
  ·simp only[oSI]at h;subst h;exact aOP
  ·simp only[oSI]at h;subst h;exact aOO
  ·simp only[oSI]at h;subst h;exact aON
  ·simp only[oSI]at h;subst h;exact aOM
  ·simp only[oSI]at h;subst h;exact aOL
  ·simp only[oSI]at h;subst h;exact aOK
  ·simp only[oSI]at h;subst h;exact aOJ
  ·simp only[oSI]at h;subst h;exact aOI
  ·simp only[oSI]at h;subst h;exact aOH
  ·simp only[oSI]at h;subst h;exact aOG
  ·simp only[oSI]at h;subst h;exact aOF
  ·simp only[oSI]at h;subst h;exact aOE
  ·simp only[oSI]at h;subst h;exact aOD
  ·simp only[oSI]at h;subst h;exact aOC
  ·simp only[oSI]at h;subst h;exact aOB
  ·cases h
theorem r10 {vs:List AV} {h:XH} (hl:vs.length≤206):runW aA 10 vs h=bU none x10.res x10.ownR h.length (execW aA 10 h.length none x10.body (aP (if x10.ownA then vs else eY vs)) h):=aZ rfl hl h rfl
theorem r16 {vs:List AV} {h:XH} (hl:vs.length≤168):runW aA 16 vs h=bU none x16.res x16.ownR h.length (execW aA 16 h.length none x16.body (aP (if x16.ownA then vs else eY vs)) h):=aZ rfl hl h rfl
theorem r20 {vs:List AV} {h:XH} (hl:vs.length≤26):runW aA 20 vs h=bU none x20.res x20.ownR h.length (execW aA 20 h.length none x20.body (aP (if x20.ownA then vs else eY vs)) h):=aZ rfl hl h rfl
theorem r23 {vs:List AV} {h:XH} (hl:vs.length≤83):runW aA 23 vs h=bU none x23.res x23.ownR h.length (execW aA 23 h.length none x23.body (aP (if x23.ownA then vs else eY vs)) h):=aZ rfl hl h rfl
theorem r27 {vs:List AV} {h:XH} (hl:vs.length≤29):runW aA 27 vs h=bU none x27.res x27.ownR h.length (execW aA 27 h.length none x27.body (aP (if x27.ownA then vs else eY vs)) h):=aZ rfl hl h rfl
theorem r29 {vs:List AV} {h:XH} (hl:vs.length≤50):runW aA 29 vs h=bU none x29.res x29.ownR h.length (execW aA 29 h.length none x29.body (aP (if x29.ownA then vs else eY vs)) h):=aZ rfl hl h rfl
theorem r31 {vs:List AV} {h:XH} (hl:vs.length≤57):runW aA 31 vs h=bU none x31.res x31.ownR h.length (execW aA 31 h.length none x31.body (aP (if x31.ownA then vs else eY vs)) h):=aZ rfl hl h rfl
theorem r33 {vs:List AV} {h:XH} (hl:vs.length≤82):runW aA 33 vs h=bU none x33.res x33.ownR h.length (execW aA 33 h.length none x33.body (aP (if x33.ownA then vs else eY vs)) h):=aZ rfl hl h rfl
theorem r35 {vs:List AV} {h:XH} (hl:vs.length≤75):runW aA 35 vs h=bU none x35.res x35.ownR h.length (execW aA 35 h.length none x35.body (aP (if x35.ownA then vs else eY vs)) h):=aZ rfl hl h rfl
theorem r36 {vs:List AV} {h:XH} (hl:vs.length≤135):runW aA 36 vs h=bU none x36.res x36.ownR h.length (execW aA 36 h.length none x36.body (aP (if x36.ownA then vs else eY vs)) h):=aZ rfl hl h rfl
theorem r39 {vs:List AV} {h:XH} (hl:vs.length≤64):runW aA 39 vs h=bU none x39.res x39.ownR h.length (execW aA 39 h.length none x39.body (aP (if x39.ownA then vs else eY vs)) h):=aZ rfl hl h rfl
theorem r40 {vs:List AV} {h:XH} (hl:vs.length≤96):runW aA 40 vs h=bU none x40.res x40.ownR h.length (execW aA 40 h.length none x40.body (aP (if x40.ownA then vs else eY vs)) h):=aZ rfl hl h rfl
theorem r41 {vs:List AV} {h:XH} (hl:vs.length≤113):runW aA 41 vs h=bU none x41.res x41.ownR h.length (execW aA 41 h.length none x41.body (aP (if x41.ownA then vs else eY vs)) h):=aZ rfl hl h rfl
theorem r42 {vs:List AV} {h:XH} (hl:vs.length≤13):runW aA 42 vs h=bU none x42.res x42.ownR h.length (execW aA 42 h.length none x42.body (aP (if x42.ownA then vs else eY vs)) h):=aZ rfl hl h rfl
theorem r45 {vs:List AV} {h:XH} (hl:vs.length≤15):runW aA 45 vs h=bU none x45.res x45.ownR h.length (execW aA 45 h.length none x45.body (aP (if x45.ownA then vs else eY vs)) h):=aZ rfl hl h rfl
theorem r51 {vs:List AV} {h:XH} (hl:vs.length≤8):runW aA 51 vs h=bU none x51.res x51.ownR h.length (execW aA 51 h.length none x51.body (aP (if x51.ownA then vs else eY vs)) h):=aZ rfl hl h rfl
theorem r53 {vs:List AV} {h:XH} (hl:vs.length≤26):runW aA 53 vs h=bU none x53.res x53.ownR h.length (execW aA 53 h.length none x53.body (aP (if x53.ownA then vs else eY vs)) h):=aZ rfl hl h rfl
theorem r54 {vs:List AV} {h:XH} (hl:vs.length≤45):runW aA 54 vs h=bU none x54.res x54.ownR h.length (execW aA 54 h.length none x54.body (aP (if x54.ownA then vs else eY vs)) h):=aZ rfl hl h rfl
theorem r56 {vs:List AV} {h:XH} (hl:vs.length≤77):runW aA 56 vs h=bU none x56.res x56.ownR h.length (execW aA 56 h.length none x56.body (aP (if x56.ownA then vs else eY vs)) h):=aZ rfl hl h rfl
theorem r57 {vs:List AV} {h:XH} (hl:vs.length≤15):runW aA 57 vs h=bU none x57.res x57.ownR h.length (execW aA 57 h.length none x57.body (aP (if x57.ownA then vs else eY vs)) h):=aZ rfl hl h rfl
theorem r59 {vs:List AV} {h:XH} (hl:vs.length≤24):runW aA 59 vs h=bU none x59.res x59.ownR h.length (execW aA 59 h.length none x59.body (aP (if x59.ownA then vs else eY vs)) h):=aZ rfl hl h rfl
theorem r60 {vs:List AV} {h:XH} (hl:vs.length≤10):runW aA 60 vs h=bU none x60.res x60.ownR h.length (execW aA 60 h.length none x60.body (aP (if x60.ownA then vs else eY vs)) h):=aZ rfl hl h rfl
theorem r61 {vs:List AV} {h:XH} (hl:vs.length≤36):runW aA 61 vs h=bU none x61.res x61.ownR h.length (execW aA 61 h.length none x61.body (aP (if x61.ownA then vs else eY vs)) h):=aZ rfl hl h rfl
theorem r62 {vs:List AV} {h:XH} (hl:vs.length≤5):runW aA 62 vs h=bU none x62.res x62.ownR h.length (execW aA 62 h.length none x62.body (aP (if x62.ownA then vs else eY vs)) h):=aZ rfl hl h rfl
theorem r63 {vs:List AV} {h:XH} (hl:vs.length≤6):runW aA 63 vs h=bU none x63.res x63.ownR h.length (execW aA 63 h.length none x63.body (aP (if x63.ownA then vs else eY vs)) h):=aZ rfl hl h rfl
theorem r65 {vs:List AV} {h:XH} (hl:vs.length≤27):runW aA 65 vs h=bU none x65.res x65.ownR h.length (execW aA 65 h.length none x65.body (aP (if x65.ownA then vs else eY vs)) h):=aZ rfl hl h rfl
theorem r66 {vs:List AV} {h:XH} (hl:vs.length≤19):runW aA 66 vs h=bU none x66.res x66.ownR h.length (execW aA 66 h.length none x66.body (aP (if x66.ownA then vs else eY vs)) h):=aZ rfl hl h rfl
theorem r67 {vs:List AV} {h:XH} (hl:vs.length≤5):runW aA 67 vs h=bU none x67.res x67.ownR h.length (execW aA 67 h.length none x67.body (aP (if x67.ownA then vs else eY vs)) h):=aZ rfl hl h rfl
theorem r68 {vs:List AV} {h:XH} (hl:vs.length≤19):runW aA 68 vs h=bU none x68.res x68.ownR h.length (execW aA 68 h.length none x68.body (aP (if x68.ownA then vs else eY vs)) h):=aZ rfl hl h rfl
theorem r70 {vs:List AV} {h:XH} (hl:vs.length≤9):runW aA 70 vs h=bU none x70.res x70.ownR h.length (execW aA 70 h.length none x70.body (aP (if x70.ownA then vs else eY vs)) h):=aZ rfl hl h rfl
theorem r71 {vs:List AV} {h:XH} (hl:vs.length≤10):runW aA 71 vs h=bU none x71.res x71.ownR h.length (execW aA 71 h.length none x71.body (aP (if x71.ownA then vs else eY vs)) h):=aZ rfl hl h rfl
theorem r72 {vs:List AV} {h:XH} (hl:vs.length≤65):runW aA 72 vs h=bU none x72.res x72.ownR h.length (execW aA 72 h.length none x72.body (aP (if x72.ownA then vs else eY vs)) h):=aZ rfl hl h rfl
theorem r73 {vs:List AV} {h:XH} (hl:vs.length≤59):runW aA 73 vs h=bU none x73.res x73.ownR h.length (execW aA 73 h.length none x73.body (aP (if x73.ownA then vs else eY vs)) h):=aZ rfl hl h rfl
theorem r76 {vs:List AV} {h:XH} (hl:vs.length≤21):runW aA 76 vs h=bU none x76.res x76.ownR h.length (execW aA 76 h.length none x76.body (aP (if x76.ownA then vs else eY vs)) h):=aZ rfl hl h rfl
theorem r77 {vs:List AV} {h:XH} (hl:vs.length≤98):runW aA 77 vs h=qJ 19 h.length (eX (runW aA) (runYW aA) [⟨0,(some 4),(.box (.t 0)),none⟩,⟨0,(some 7),(.box (.t 3)),none⟩,⟨0,(some 19),(.load false 1 (.t 7)),none⟩] (aP (if x77.ownA then vs else eY vs)) h) fun b e1 h1=>bU (some b) x77.res x77.ownR h.length (execW aA 77 h.length none x77.body e1 h1):=aGW rfl hl h rfl
theorem r78 {vs:List AV} {h:XH} (hl:vs.length≤20):runW aA 78 vs h=bU none x78.res x78.ownR h.length (execW aA 78 h.length none x78.body (aP (if x78.ownA then vs else eY vs)) h):=aZ rfl hl h rfl
theorem r79 {vs:List AV} {h:XH} (hl:vs.length≤5):runW aA 79 vs h=bU none x79.res x79.ownR h.length (execW aA 79 h.length none x79.body (aP (if x79.ownA then vs else eY vs)) h):=aZ rfl hl h rfl
theorem r80 {vs:List AV} {h:XH} (hl:vs.length≤4):runW aA 80 vs h=bU none x80.res x80.ownR h.length (execW aA 80 h.length none x80.body (aP (if x80.ownA then vs else eY vs)) h):=aZ rfl hl h rfl
theorem r81 {vs:List AV} {h:XH} (hl:vs.length≤8):runW aA 81 vs h=bU none x81.res x81.ownR h.length (execW aA 81 h.length none x81.body (aP (if x81.ownA then vs else eY vs)) h):=aZ rfl hl h rfl
theorem r84 {vs:List AV} {h:XH} (hl:vs.length≤30):runW aA 84 vs h=bU none x84.res x84.ownR h.length (execW aA 84 h.length none x84.body (aP (if x84.ownA then vs else eY vs)) h):=aZ rfl hl h rfl
theorem r85 {vs:List AV} {h:XH} (hl:vs.length≤13):runW aA 85 vs h=bU none x85.res x85.ownR h.length (execW aA 85 h.length none x85.body (aP (if x85.ownA then vs else eY vs)) h):=aZ rfl hl h rfl
theorem r86 {vs:List AV} {h:XH} (hl:vs.length≤15):runW aA 86 vs h=bU none x86.res x86.ownR h.length (execW aA 86 h.length none x86.body (aP (if x86.ownA then vs else eY vs)) h):=aZ rfl hl h rfl
theorem r87 {vs:List AV} {h:XH} (hl:vs.length≤8):runW aA 87 vs h=bU none x87.res x87.ownR h.length (execW aA 87 h.length none x87.body (aP (if x87.ownA then vs else eY vs)) h):=aZ rfl hl h rfl
theorem r88 {vs:List AV} {h:XH} (hl:vs.length≤66):runW aA 88 vs h=bU none x88.res x88.ownR h.length (execW aA 88 h.length none x88.body (aP (if x88.ownA then vs else eY vs)) h):=aZ rfl hl h rfl
theorem r89 {vs:List AV} {h:XH} (hl:vs.length≤126):runW aA 89 vs h=bU none x89.res x89.ownR h.length (execW aA 89 h.length none x89.body (aP (if x89.ownA then vs else eY vs)) h):=aZ rfl hl h rfl
theorem r91 {vs:List AV} {h:XH} (hl:vs.length≤14):runW aA 91 vs h=bU none x91.res x91.ownR h.length (execW aA 91 h.length none x91.body (aP (if x91.ownA then vs else eY vs)) h):=aZ rfl hl h rfl

end Go.Proofs.YtiabjdfdkiijmaaDoor
namespace Go.Proofs.YtiabjdfdkiijmaaDoor
open Go Go.DL
theorem aOp:runW aA 44 [I (0)] []=some (.agg [I (8),.fs [[I (0),I (1)],[I (0),I (2)],[I (1),I (3)],[I (2),I (3)],[I (3),I (4)],[I (3),I (5)],[I (4),I (6)],[I (5),I (6)]],.fs [[I (0),I (2),I (7)],[I (3),I (4),I (7)]],I (1),I (192),I (0)],[]):=aX.2 ⟨400,by kernel_rfl⟩
theorem aOo:runW aA 18 [.agg [I (8),.fs [[I (0),I (1)],[I (0),I (2)],[I (1),I (3)],[I (2),I (3)],[I (3),I (4)],[I (3),I (5)],[I (4),I (6)],[I (5),I (6)]],.fs [[I (0),I (2),I (7)],[I (3),I (4),I (7)]],I (1),I (192),I (0)],I (2)] []=some (.tup [.fs [[I (0)],[I (1)],[I (2)],[I (3)],[I (7)]],I (0)],[]):=aX.2 ⟨400,by kernel_rfl⟩
theorem aOl:runW aA 44 [I (9)] []=some (.agg [I (8),.fs [[I (0),I (1)],[I (0),I (2)],[I (1),I (3)],[I (2),I (3)],[I (3),I (4)],[I (3),I (5)],[I (4),I (6)],[I (5),I (6)]],.fs [[I (0),I (2),I (7)],[I (3),I (4),I (7)]],I (1),I (192),I (9)],[]):=aX.2 ⟨400,by kernel_rfl⟩
theorem aOj:runW aA 44 [I (79)] []=some (.agg [I (8),.fs [[I (0),I (1)],[I (0),I (2)],[I (1),I (3)],[I (2),I (3)],[I (3),I (4)],[I (3),I (5)],[I (4),I (6)],[I (5),I (6)]],.fs [[I (0),I (2),I (7)],[I (3),I (4),I (7)]],I (1),I (192),I (79)],[]):=aX.2 ⟨400,by kernel_rfl⟩
theorem aOh:runW aA 44 [I (15)] []=some (.agg [I (8),.fs [[I (0),I (1)],[I (0),I (2)],[I (1),I (3)],[I (2),I (3)],[I (3),I (4)],[I (3),I (5)],[I (4),I (6)],[I (5),I (6)]],.fs [[I (0),I (2),I (7)],[I (3),I (4),I (7)]],I (1),I (192),I (15)],[]):=aX.2 ⟨400,by kernel_rfl⟩
theorem aNh:runW aA 25 [.agg [I (8),.fs [[I (0),I (1)],[I (0),I (2)],[I (1),I (3)],[I (2),I (3)],[I (3),I (4)],[I (3),I (5)],[I (4),I (6)],[I (5),I (6)]],.fs [[I (0),I (2),I (7)],[I (3),I (4),I (7)]],I (1),I (192),I (0)],.sl 0 0 1 2,I (4)] [some (.blk true (.cells true [I (2),I (3)]))]=some (.tup [.fs [[I (0)],[I (1)]],I (0)],[none]):=aX.2 ⟨400,by kernel_rfl⟩
theorem aNg:runW aA 22 [.fs [[I (0)],[I (1)],[I (2)],[I (3)],[I (7)]],.sl 0 0 1 5] [some (.blk true (.cells true [I (0),I (1),I (2),I (3),I (7)]))]=some (.bool true,[some (.blk true (.cells true [I (0),I (1),I (2),I (3),I (7)]))]):=aX.2 ⟨400,by kernel_rfl⟩
theorem aNf:runW aA 22 [.fs [[I (0)],[I (1)],[I (1)],[I (2)],[I (3)],[I (3)],[I (4)],[I (1)]],.sl 0 0 1 8] [some (.blk true (.cells true [I (0),I (1),I (1),I (2),I (3),I (3),I (4),I (1)]))]=some (.bool true,[some (.blk true (.cells true [I (0),I (1),I (1),I (2),I (3),I (3),I (4),I (1)]))]):=aX.2 ⟨400,by kernel_rfl⟩
theorem aNe:runW aA 22 [.fs [[I (0)]],.sl 0 0 1 1] [some (.blk true (.cells true [I (0)]))]=some (.bool true,[some (.blk true (.cells true [I (0)]))]):=aX.2 ⟨400,by kernel_rfl⟩
theorem aNd:runW aA 22 [.fs [[I (1)],[I (2)]],.sl 0 0 1 2] [some (.blk true (.cells true [I (1),I (2)]))]=some (.bool true,[some (.blk true (.cells true [I (1),I (2)]))]):=aX.2 ⟨400,by kernel_rfl⟩
theorem aNc:runW aA 22 [.fs [[I (4)],[I (5)],[I (7)]],.sl 0 0 1 3] [some (.blk true (.cells true [I (4),I (5),I (7)]))]=some (.bool true,[some (.blk true (.cells true [I (4),I (5),I (7)]))]):=aX.2 ⟨400,by kernel_rfl⟩
theorem aNb:runW aA 22 [.fs [[I (6)],[I (7)]],.sl 0 0 1 2] [some (.blk true (.cells true [I (6),I (7)]))]=some (.bool true,[some (.blk true (.cells true [I (6),I (7)]))]):=aX.2 ⟨400,by kernel_rfl⟩
theorem aNa:runW aA 22 [.fs [[I (0)],[I (1)]],.sl 0 0 1 2] [some (.blk true (.cells true [I (0),I (1)]))]=some (.bool true,[some (.blk true (.cells true [I (0),I (1)]))]):=aX.2 ⟨400,by kernel_rfl⟩
theorem aMZ:runW aA 27 [.agg [I (8),.fs [[I (0),I (1)],[I (0),I (2)],[I (1),I (3)],[I (2),I (3)],[I (3),I (4)],[I (3),I (5)],[I (4),I (6)],[I (5),I (6)]],.fs [[I (0),I (2),I (7)],[I (3),I (4),I (7)]],I (1),I (192),I (0)],.sl 0 0 1 2] [some (.blk true (.cells true [I (3),I (7)]))]=some (I (0),[none]):=aX.2 ⟨400,by kernel_rfl⟩
theorem aMY:runW aA 27 [.agg [I (8),.fs [[I (0),I (1)],[I (0),I (2)],[I (1),I (3)],[I (2),I (3)],[I (3),I (4)],[I (3),I (5)],[I (4),I (6)],[I (5),I (6)]],.fs [[I (0),I (2),I (7)],[I (3),I (4),I (7)]],I (1),I (192),I (0)],.sl 0 0 1 2] [some (.blk true (.cells true [I (3),I (4)]))]=some (I (11),[none]):=aX.2 ⟨400,by kernel_rfl⟩
theorem aMX:runW aA 35 [.agg [I (8),.fs [[I (0),I (1)],[I (0),I (2)],[I (1),I (3)],[I (2),I (3)],[I (3),I (4)],[I (3),I (5)],[I (4),I (6)],[I (5),I (6)]],.fs [[I (0),I (2),I (7)],[I (3),I (4),I (7)]],I (1),I (192),I (9)],.sl 0 0 1 2] [some (.blk false (.cells true [.sl 1 0 1 3,.sl 2 0 1 5])),some (.blk true (.cells true [I (0),I (2),I (7)])),some (.blk true (.cells true [I (0),I (1),I (3),I (4),I (7)]))]=some (I (6),[some (.blk true (.cells true [.fs [[I (0)],[I (2)],[I (7)]],.fs [[I (0)],[I (1)],[I (3)],[I (4)],[I (7)]]])),none,none]):=aX.2 ⟨400,by kernel_rfl⟩
end Go.Proofs.YtiabjdfdkiijmaaDoor
namespace Go.Proofs.YtiabjdfdkiijmaaDoor
open Go Go.DL
set_option maxRecDepth 100000
set_option maxHeartbeats 1000000
theorem ptf (p:Prop):p=True∨p=False:=by
 by_cases h:p
 ·exact .inl (eq_true h)
 ·exact .inr (eq_false h)
theorem bC {α:Type} {l:List α} {i:Nat} (h:i<l.length):∃ x,l[i]?=some x:=⟨_,List.getElem?_eq_getElem h⟩
theorem dC {α:Type} {l:List α} {i:Nat} (h:i<l.length):((i:Int)<(l.length:Int))=True:=eq_true (by omega)
theorem dN {n i:Nat} (h:i<n) (hn:n≤9223372036854775807):IntKind.i64.wrap ((i:Int)+1)=(i:Int)+1:=aD (by omega) (by omega)
theorem dB {α:Type} {l:List α} {i:Nat} {x:α} (h:l[i]?=some x):i<l.length:=(List.getElem?_eq_some_iff.1 h).1

def cJ (f:Nat→Int):Nat→Int
 | 0=>0
 | n+1=>if cJ f n=0 then f n else cJ f n
theorem dQ (f:Nat→Int):∀ n,∃ m,m≤n∧(∀ i,i<m→f i=0)∧((m=n∧cJ f n=0)∨(m<n∧f m≠0∧cJ f n=f m))
 | 0=>⟨0,Nat.le_refl _,fun i hi=>by omega,.inl ⟨rfl,rfl⟩⟩
 | n+1=>by
   obtain⟨m,h1,h2,h3⟩:=dQ f n
   rcases h3 with ⟨rfl,h4⟩|⟨h4,h5,h6⟩
   ·by_cases hf:f m=0
    ·refine⟨m+1,Nat.le_refl _,fun i hi=>?_,.inl ⟨rfl,by rw[cJ,if_pos h4,hf]⟩⟩
     by_cases hi2:i=m
     ·rw[hi2];exact hf
     ·exact h2 i (by omega)
    ·exact⟨m,by omega,h2,.inr ⟨by omega,hf,by rw[cJ,if_pos h4]⟩⟩
   ·exact⟨m,by omega,h2,.inr ⟨by omega,h5,by rw[cJ,if_neg (by rw[h6];exact h5),h6]⟩⟩
theorem eE {f:Nat→Int}:∀ {n},cJ f n=0→∀ i,i<n→f i=0
 | 0,_,i,hi=>by omega
 | n+1,h,i,hi=>by
   rw[cJ]at h
   by_cases h0:cJ f n=0
   ·rw[if_pos h0]at h
    by_cases hin:i=n
    ·rw[hin];exact h
    ·exact eE h0 i (by omega)
   ·rw[if_neg h0]at h
    exact absurd h h0

theorem dX {res:List (Nat×Option (Bool×Nat))} {own:Bool} {k:Nat} {r:Option (DX×aG×XH)} {v:AV×XH} (h1:iD r=true) (h2:bU none res own k r=some v):∃ e h,r=some (.ret,e,h)∧bU none res own k (some (.ret,e,h))=some v:=by
 match r with
 | none=>simp[iD]at h1
 | some (.normal,e,h)=>simp[iD]at h1
 | some (.exit _,e,h)=>simp[bU]at h2
 | some (.ret,e,h)=>exact⟨e,h,rfl,h2⟩
def big (k:IntKind):Prop:=k = .u64∨k = .i64
theorem aFe:big .u64:=.inl rfl
theorem bY:big .i64:=.inr rfl
theorem lZ {k:IntKind} (h:big k):k.bits=64:=by rcases h with rfl|rfl<;>rfl
theorem iJ {k:IntKind} (h:big k) {a:Nat} (ha:a<2^63):k.wrap (a:Int)=(a:Int):=by
 rcases h with rfl|rfl
 ·simp[IntKind.wrap,IntKind.bits,IntKind.signed];omega
 ·simp[IntKind.wrap,IntKind.bits,IntKind.signed];omega
theorem eD {w:Nat} (a:Nat):BitVec.ofInt w (a:Int)=BitVec.ofNat w a:=by
 apply BitVec.eq_of_toNat_eq
 simp
theorem kS {k:IntKind} (h:big k) {a b:Nat} (ha:a<2^63) (hb:b<2^63):cD .and k (a:Int) (b:Int)=((a&&&b:Nat):Int):=by
 unfold cD
 dsimp only
 rw[eD,eD,lZ h,BitVec.toNat_and,BitVec.toNat_ofNat,BitVec.toNat_ofNat,Nat.mod_eq_of_lt (by omega),Nat.mod_eq_of_lt (by omega)]
 exact iJ h (Nat.lt_of_le_of_lt Nat.and_le_left ha)
theorem dF {k:IntKind} (h:big k) {a b:Nat} (ha:a<2^63) (hb:b<2^63):cD .or k (a:Int) (b:Int)=((a|||b:Nat):Int):=by
 unfold cD
 dsimp only
 rw[eD,eD,lZ h,BitVec.toNat_or,BitVec.toNat_ofNat,BitVec.toNat_ofNat,Nat.mod_eq_of_lt (by omega),Nat.mod_eq_of_lt (by omega)]
 exact iJ h (Nat.or_lt_two_pow ha hb)
def eO (a b:Nat):Nat:=a&&&(2^64-(b+1))
theorem fS (a b:Nat):eO a b≤a:=Nat.and_le_left
theorem iI {k:IntKind} (h:big k) {a b:Nat} (ha:a<2^63) (hb:b<2^63):cD .andNot k (a:Int) (b:Int)=((eO a b:Nat):Int):=by
 unfold cD
 dsimp only
 rw[eD,eD,lZ h,BitVec.toNat_and,BitVec.toNat_not,BitVec.toNat_ofNat,BitVec.toNat_ofNat,Nat.mod_eq_of_lt (by omega),Nat.mod_eq_of_lt (by omega),show 2^64-1-b=2^64-(b+1) by omega]
 exact iJ h (Nat.lt_of_le_of_lt (fS a b) ha)
theorem bX {a b:Nat} (hb:b<2^64) {i:Nat}:(eO a b).testBit i=(a.testBit i&&(decide (i<64) && !b.testBit i)):=by
 unfold eO
 rw[Nat.testBit_and,Nat.testBit_two_pow_sub_succ hb]
theorem uB {a n:Nat} (h:a<2^n) {i:Nat} (hi:n≤i):a.testBit i=false:=Nat.testBit_lt_two_pow (Nat.lt_of_lt_of_le h (Nat.pow_le_pow_right (by omega) hi))
theorem jQ {k:IntKind} (h:big k) {i:Nat} (hi:i<63):k.wrap (1*2^min i k.bits)=((2^i:Nat):Int):=by
 rw[lZ h,Nat.min_eq_left (by omega),Int.one_mul,show (2:Int)^i=((2^i:Nat):Int) by norm_cast]
 exact iJ h (Nat.pow_lt_pow_right (by omega) hi)
theorem aJy {k:IntKind} (h:big k) {a i:Nat} (hi:i<64):(a:Int).fdiv (2^min i k.bits)=((a>>>i:Nat):Int):=by
 rw[lZ h,Nat.min_eq_left (by omega),show (2:Int)^i=((2^i:Nat):Int) by norm_cast,Int.fdiv_eq_ediv_of_nonneg _ (Int.natCast_nonneg _),Nat.shiftRight_eq_div_pow]
 exact(Int.natCast_ediv a (2^i)).symm
theorem uC {k:IntKind} (h:big k) {a i:Nat} (ha:a<2^63) (hi:i<64):cD .and k ((a:Int).fdiv (2^min i k.bits)) 1=if a.testBit i then 1 else 0:=by
 have:a>>>i≤a:=Nat.shiftRight_le a i
 rw[aJy h hi,show (1:Int)=((1:Nat):Int) from rfl,kS h (by omega) (by omega)]
 unfold Nat.testBit
 rw[Nat.and_comm,Nat.one_and_eq_mod_two]
 by_cases hb:(a>>>i)%2=0
 ·simp[hb]
 ·have:(a>>>i)%2=1:=by omega
  simp[this]
theorem aIZ {k:IntKind} (h:big k) {a i:Nat} (ha:a<2^63) (hi:i<64):(cD .and k ((a:Int).fdiv (2^min i k.bits)) 1=1)=(a.testBit i=true):=by
 rw[uC h ha hi]
 cases a.testBit i<;>simp
theorem uR {a i n:Nat} (ha:a<2^n) (hi:i<n):a|||2^i<2^n:=Nat.or_lt_two_pow ha (Nat.pow_lt_pow_right (by omega) hi)
theorem eU (a i j:Nat):(a|||2^i).testBit j=(a.testBit j||decide (i=j)):=by
 rw[Nat.testBit_or,Nat.testBit_two_pow]


def btw (a b c:Int):Bool:=decide (a≤b)&&decide (b≤c)
theorem mU {a b c:Int}:btw a b c=true↔a≤b∧b≤c:=by simp[btw]
theorem w45 (a b c:Int):runW aA 45 [I a,I b,I c] []=some (.bool (btw a b c),[]):=by
 rw[r45 (by simp)];unfold x45;dsimp only
 rcases ptf (a≤b)with h|h
 ·(sym=>(simp[Za,Zb,Zf,Zh,Zl,Zm,Zp,Zq,Zv,Zy,Z3,ZW,Yv,YY,Xs,XK,We,Wf,W9,WI,WM,WN,WP,WQ,Vu,V8,V9,VB,VC,VD,VE,VF,VI,VJ,VK,VL,VN,VX,VZ,Uc,Ue,Ug,Uk,Ux,U1,U2,U3,UC,UD,Ts,Tt,Tu,Ty,T6,T7,Su,h,btw.eq_1];all_goals tactic=>exact rfl))
 ·(sym=>(simp[Za,Zb,Zf,Zh,Zl,Zm,Zp,Zs,Zv,Zy,Z3,ZX,Yv,YY,Xs,XK,We,Wf,W9,WI,WM,WN,WP,WQ,Vu,V8,V9,VB,VC,VD,VE,VF,VI,VJ,VK,VL,VN,VX,VZ,Uc,Ue,Ug,Um,Uy,U1,U2,U3,UC,UD,Ts,Tt,Tu,Ty,T6,T7,Su,h,btw.eq_1];all_goals tactic=>exact rfl))
theorem pK {a j:Nat} (ha:a<2^63) (hj:j<64):runW aA 60 [I a,I j] []=some (.bool (a.testBit j),[]):=by
 have e:=aIZ bY (a:=a) (i:=j) ha hj
 have n0:((j:Int)<0)=False:=eq_false (by omega)
 rw[r60 (by simp)];unfold x60;dsimp only
 cases hb:a.testBit j
 ·rw[hb]at e
  have e:=e.trans (eq_false (by simp))
  (sym=>(simp[Za,Zb,Zf,Zh,Zl,Zm,Zv,Z3,Yo,Yr,Ys,Yz,YY,Xs,XK,We,Wf,W9,WI,WM,WN,WP,WQ,Vu,V8,V9,VB,VC,VD,VE,VF,VI,VJ,VK,VL,VN,VX,VZ,Uc,Ue,Ug,Uy,U1,U2,U3,UC,UD,Ts,Tt,Tu,Ty,T6,T7,Su,n0,e];all_goals tactic=>exact rfl))
 ·rw[hb]at e
  have e:=e.trans (eq_true rfl)
  (sym=>(simp[Za,Zb,Zf,Zh,Zl,Zm,Zv,Z3,Yo,Yr,Ys,Yz,YY,Xs,XK,We,Wf,W9,WI,WM,WN,WP,WQ,Vu,V8,V9,VB,VC,VD,VE,VF,VI,VJ,VK,VL,VN,VX,VZ,Uc,Ue,Ug,Ux,U1,U2,U3,UC,UD,Ts,Tt,Tu,Ty,T6,T7,Su,n0,e];all_goals tactic=>exact rfl))
theorem w62 {j:Nat} (hj:j<63):runW aA 62 [I j] []=some (I (2^j:Nat),[]):=by
 have e:=jQ bY hj
 have n0:((j:Int)<0)=False:=eq_false (by omega)
 rw[r62 (by simp)];unfold x62;dsimp only
 (sym=>(simp[Za,Zb,Zf,Zh,Zl,Zm,Zv,Z3,Yq,Yz,YX,Xr,XJ,We,W9,WI,WM,WN,WP,WQ,Vu,V8,V9,VB,VC,VD,VE,VF,VI,VJ,VK,VL,VN,VX,VZ,Uc,Ue,Ug,U1,U2,U3,UC,UD,Ts,Tt,Tu,Ty,T6,T7,Su,n0,e];all_goals tactic=>exact rfl))
abbrev nL (l:List Int):AV:=.fs (l.map fun n=>[I n])
def agree (a b:List Int):Nat→Nat→Prop:=fun m n=>m≤n∧(∀ i,i<m→a[i]?=b[i]?)∧(m=n∨a[m]?≠b[m]?)
end Go.Proofs.YtiabjdfdkiijmaaDoor
namespace Go.Proofs.YtiabjdfdkiijmaaDoor
open Go Go.DL
set_option maxRecDepth 100000
set_option maxHeartbeats 4000000

theorem aLZ:∀ a:Nat,a≠0→∃ p m,a=2^p*(2*m+1):=by
 intro a
 induction a using Nat.strongRecOn with
 | _ a ih =>
   intro h0
   by_cases h:a%2=1
   ·exact⟨0,a/2,by omega⟩
   ·obtain⟨p,m,hm⟩:=ih (a/2) (by omega) (by omega)
    refine⟨p+1,m,?_⟩
    rw[Nat.pow_succ,Nat.mul_comm (2^p) 2,Nat.mul_assoc,←hm]
    omega
theorem aAF (m j:Nat):(2*m+1).testBit j=if j=0 then true else m.testBit (j-1):=by
 cases j with
 | zero=>simp[Nat.testBit]
 | succ j=>simp only[Nat.add_one_ne_zero,if_false,Nat.add_sub_cancel];rw[Nat.testBit_succ];congr 1;omega
theorem aAG (m j:Nat):(2*m).testBit j=if j=0 then false else m.testBit (j-1):=by
 cases j with
 | zero=>simp[Nat.testBit]
 | succ j=>simp only[Nat.add_one_ne_zero,if_false,Nat.add_sub_cancel];rw[Nat.testBit_succ];congr 1;omega
theorem mB (p x i:Nat):(2^p*x).testBit i=if i<p then false else x.testBit (i-p):=by
 have:=Nat.testBit_two_pow_mul_add x (b:=0) (i:=p) (Nat.two_pow_pos p) i
 rw[Nat.add_zero,Nat.zero_testBit]at this
 exact this
theorem aGa (p m:Nat):2^p*(2*m+1)&&&(2^p*(2*m+1)-1)=2^p*(2*m):=by
 have h1:2^p*(2*m+1)-1=2^p*(2*m)+(2^p-1):=by
  have:=Nat.two_pow_pos p
  rw[Nat.mul_add,Nat.mul_one];omega
 apply Nat.eq_of_testBit_eq
 intro i
 rw[Nat.testBit_and,mB,h1,Nat.testBit_two_pow_mul_add _ (by have:=Nat.two_pow_pos p;omega),mB]
 by_cases hi:i<p
 ·simp[hi]
 ·simp only[hi,if_false,aAF,aAG]
  by_cases h0:i-p=0
  ·simp[h0]
  ·simp[h0]
theorem aKq (p m:Nat) (h:2^p*(2*m+1)<2^64):2^p*(2*m+1)&&&(2^64-2^p*(2*m+1))=2^p:=by
 have hp:p<64:=by
  by_cases hp:p<64
  ·exact hp
  ·have h1:2^64≤2^p:=Nat.pow_le_pow_right (by omega) (by omega)
   have h2:2^p*1≤2^p*(2*m+1):=Nat.mul_le_mul_left _ (by omega)
   omega
 have e64:(2:Nat)^64=2^p*(2*2^(63-p)):=by
  rw[←Nat.pow_succ',←Nat.pow_add];congr 1;omega
 have hm:m<2^(63-p):=by
  rw[e64]at h
  have:=Nat.lt_of_mul_lt_mul_left h
  omega
 have h1:2^64-2^p*(2*m+1)=2^p*(2*(2^(63-p)-(m+1))+1):=by
  rw[e64,←Nat.mul_sub];congr 1;omega
 rw[h1]
 apply Nat.eq_of_testBit_eq
 intro i
 rw[Nat.testBit_and,mB,mB,Nat.testBit_two_pow]
 by_cases hi:i<p
 ·simp[hi];omega
 ·simp only[hi,if_false,aAF]
  by_cases h0:i-p=0
  ·have:p=i:=by omega
   simp[h0,this]
  ·have:p≠i:=by omega
   simp only[h0,if_false,Nat.testBit_two_pow_sub_succ hm]
   cases m.testBit (i-p-1)<;>simp[this]

def el (a:Nat):List Nat:=(List.range 16).filter (a.testBit ·)
def rU (a:Nat):Nat:=(el a).headD 0
theorem iV {a k:Nat}:k∈el a↔k<16∧a.testBit k=true:=by simp[el]
theorem aIF {a:Nat} (ha:a<65536) (h0:a≠0):∃ p m,p<16∧a=2^p*(2*m+1)∧el a=p::el (a&&&(a-1)):=by
 obtain⟨p,m,rfl⟩:=aLZ a h0
 have hp:p<16:=by
  by_cases hp:p<16
  ·exact hp
  ·have h1:2^16≤2^p:=Nat.pow_le_pow_right (by omega) (by omega)
   have h2:2^p*1≤2^p*(2*m+1):=Nat.mul_le_mul_left _ (by omega)
   omega
 refine⟨p,m,hp,rfl,?_⟩
 rw[aGa]
 unfold el
 have hr:List.range 16=List.range p++p::List.range' (p+1) (15-p):=by
  rw[List.range_eq_range',List.range_eq_range',show (16:Nat)=p+(1+(15-p)) by omega,←List.range'_append_1,←List.range'_append_1]
  simp
 rw[hr,List.filter_append,List.filter_append,List.filter_cons,List.filter_cons]
 have f1:∀ x:Nat,(List.range p).filter (fun i=>(2^p*x).testBit i)=[]:=fun x=>by
  rw[List.filter_eq_nil_iff]
  intro i hi
  rw[List.mem_range]at hi
  rw[mB,if_pos hi];simp
 have t1:(2^p*(2*m+1)).testBit p=true:=by rw[mB,if_neg (by omega),Nat.sub_self,aAF];rfl
 have t2:(2^p*(2*m)).testBit p=false:=by rw[mB,if_neg (by omega),Nat.sub_self,aAG];rfl
 rw[f1,f1]
 simp only[t1,t2,if_true,List.nil_append,Bool.false_eq_true,if_false]
 congr 1
 refine List.filter_congr fun i hi=>?_
 rw[List.mem_range'_1]at hi
 rw[mB,mB,if_neg (by omega),if_neg (by omega),aAF,aAG,if_neg (by omega),if_neg (by omega)]
theorem sF {a:Nat} (ha:a<65536) (h0:a≠0):el a=rU a::el (a&&&(a-1)):=by
 obtain⟨p,m,_,_,h⟩:=aIF ha h0
 rw[rU,h];rfl
theorem aKM {a:Nat} (ha:a<65536):el a=[]↔a=0:=by
 constructor
 ·intro h
  by_cases h0:a=0
  ·exact h0
  ·rw[sF ha h0]at h;simp at h
 ·rintro rfl;rfl
theorem aId {a:Nat} (ha:a<65536) (h0:a≠0):rU a<16∧a.testBit (rU a)=true:=by
 have:=sF ha h0
 exact iV.1 (by rw[this];simp)
theorem aLe {a:Nat} (ha:a<65536) (h0:a≠0):a&&&(2^64-a)=2^rU a:=by
 obtain⟨p,m,hp,e,h⟩:=aIF ha h0
 have hl:rU a=p:=by rw[rU,h];rfl
 rw[hl]
 conv=>lhs;rw[e]
 exact aKq p m (by rw[←e];omega)

abbrev U (a:Nat):AV:=.int .u64 (a:Int)
theorem w91 {a:Nat} (ha:a<65536) (h0:a≠0):runW aA 91 [U a] []=some (I (rU a:Nat),[]):=by
 have n0:((a:Int)=0)=False:=eq_false (by omega)
 have u1:IntKind.u64.wrap (0-(a:Int))=((2^64-a:Nat):Int):=by
  simp[IntKind.wrap,IntKind.bits,IntKind.signed];omega
 have u2:cD .and .u64 (a:Int) ((2^64-a:Nat):Int)=((2^rU a:Nat):Int):=by
  unfold cD
  dsimp only
  rw[eD,eD,lZ aFe,BitVec.toNat_and,BitVec.toNat_ofNat,BitVec.toNat_ofNat,Nat.mod_eq_of_lt (by omega),Nat.mod_eq_of_lt (by omega),aLe ha h0]
  exact iJ aFe (Nat.pow_lt_pow_right (by omega) (by have:=(aId ha h0).1;omega))
 obtain⟨p,hp⟩:∃ p,rU a=p:=⟨_,rfl⟩
 have hp16:=(aId ha h0).1
 rw[hp]at u2 hp16 ⊢
 generalize 2^64-a=na at u1 u2
 rw[r91 (by simp)];unfold x91;dsimp only
 have fin:p=0∨p=1∨p=2∨p=3∨p=4∨p=5∨p=6∨p=7∨p=8∨p=9∨p=10∨p=11∨p=12∨p=13∨p=14∨p=15:=by omega
 rcases fin with rfl|rfl|rfl|rfl|rfl|rfl|rfl|rfl|rfl|rfl|rfl|rfl|rfl|rfl|rfl|rfl
 ·have u2:cD .and .u64 (a:Int) (na:Int)=1:=u2
  have u3:IntKind.u64.wrap 285870213051353865=285870213051353865:=by decide
  have u4:(285870213051353865:Int).fdiv (2^min (Int.toNat 58) IntKind.u64.bits)=0:=by decide
  have u5:Int.toNat 0=0:=rfl
  (sym=>(simp[Za,Zb,Zf,Zh,Zl,Zm,Zv,Z3,Z6,Z7,Z9,ZH,Ya,Yb,Yn,Yo,Yr,Ys,Y0,YA,YB,YR,YX,Xr,XJ,We,W9,WA,WI,WM,WN,WP,WQ,Vu,V8,V9,VB,VC,VD,VE,VF,VI,VJ,VK,VL,VN,VS,VU,VX,VZ,Uc,Ue,Ug,Ut,Uy,U1,U2,U3,UC,UD,Tf,Tg,Ti,Ts,Tt,Tu,Tv,Ty,T6,T7,Su,S9,n0,u1,u2,u3,u4,u5];all_goals tactic=>exact rfl))
 ·have u2:cD .and .u64 (a:Int) (na:Int)=2:=u2
  have u3:IntKind.u64.wrap 571740426102707730=571740426102707730:=by decide
  have u4:(571740426102707730:Int).fdiv (2^min (Int.toNat 58) IntKind.u64.bits)=1:=by decide
  have u5:Int.toNat 1=1:=rfl
  (sym=>(simp[Za,Zb,Zf,Zh,Zl,Zm,Zv,Z3,Z6,Z7,Z9,ZH,Ya,Yb,Yn,Yo,Yr,Ys,Y1,YC,YD,YR,YX,Xr,XJ,We,W9,WA,WI,WM,WN,WP,WQ,Vu,V8,V9,VB,VC,VD,VE,VF,VI,VJ,VK,VL,VN,VS,VU,VX,VZ,Uc,Ue,Ug,Ut,Uy,U1,U2,U3,UC,UD,Tf,Tg,Ti,Ts,Tt,Tu,Tv,Ty,T6,T7,Su,S9,n0,u1,u2,u3,u4,u5];all_goals tactic=>exact rfl))
 ·have u2:cD .and .u64 (a:Int) (na:Int)=4:=u2
  have u3:IntKind.u64.wrap 1143480852205415460=1143480852205415460:=by decide
  have u4:(1143480852205415460:Int).fdiv (2^min (Int.toNat 58) IntKind.u64.bits)=3:=by decide
  have u5:Int.toNat 3=3:=rfl
  (sym=>(simp[Za,Zb,Zf,Zh,Zl,Zm,Zv,Z3,Z6,Z7,Z9,ZH,Ya,Yb,Yn,Yo,Yr,Ys,Y2,YF,YG,YR,YX,Xr,XJ,We,W9,WA,WI,WM,WN,WP,WQ,Vu,V8,V9,VB,VC,VD,VE,VF,VI,VJ,VK,VL,VN,VS,VU,VX,VZ,Uc,Ue,Ug,Ut,Uy,U1,U2,U3,UC,UD,Tf,Tg,Ti,Ts,Tt,Tu,Tv,Ty,T6,T7,Su,S9,n0,u1,u2,u3,u4,u5];all_goals tactic=>exact rfl))
 ·have u2:cD .and .u64 (a:Int) (na:Int)=8:=u2
  have u3:IntKind.u64.wrap 2286961704410830920=2286961704410830920:=by decide
  have u4:(2286961704410830920:Int).fdiv (2^min (Int.toNat 58) IntKind.u64.bits)=7:=by decide
  have u5:Int.toNat 7=7:=rfl
  (sym=>(simp[Za,Zb,Zf,Zh,Zl,Zm,Zv,Z3,Z6,Z7,Z9,ZH,Ya,Yb,Yn,Yo,Yr,Ys,Y3,YH,YM,YR,YX,Xr,XJ,We,W9,WA,WI,WM,WN,WP,WQ,Vu,V8,V9,VB,VC,VD,VE,VF,VI,VJ,VK,VL,VN,VS,VU,VX,VZ,Uc,Ue,Ug,Ut,Uy,U1,U2,U3,UC,UD,Tf,Tg,Ti,Ts,Tt,Tu,Tv,Ty,T6,T7,Su,S9,n0,u1,u2,u3,u4,u5];all_goals tactic=>exact rfl))
 ·have u2:cD .and .u64 (a:Int) (na:Int)=16:=u2
  have u3:IntKind.u64.wrap 4573923408821661840=4573923408821661840:=by decide
  have u4:(4573923408821661840:Int).fdiv (2^min (Int.toNat 58) IntKind.u64.bits)=15:=by decide
  have u5:Int.toNat 15=15:=rfl
  (sym=>(simp[Za,Zb,Zf,Zh,Zl,Zm,Zv,Z3,Z6,Z7,Z9,ZH,Ya,Yb,Yn,Yo,Yr,Ys,Y4,YJ,YR,YX,Xr,XJ,We,W9,WA,WI,WM,WN,WP,WQ,Vu,V8,V9,VB,VC,VD,VE,VF,VI,VJ,VK,VL,VN,VS,VU,VX,VZ,Uc,Ue,Ug,Ut,Uy,U1,U2,U3,UC,UD,Tf,Tg,Ti,Ts,Tt,Tu,Tv,Ty,T6,T7,Su,S9,n0,u1,u2,u3,u4,u5];all_goals tactic=>exact rfl))
 ·have u2:cD .and .u64 (a:Int) (na:Int)=32:=u2
  have u3:IntKind.u64.wrap 9147846817643323680=9147846817643323680:=by decide
  have u4:(9147846817643323680:Int).fdiv (2^min (Int.toNat 58) IntKind.u64.bits)=31:=by decide
  have u5:Int.toNat 31=31:=rfl
  (sym=>(simp[Za,Zb,Zf,Zh,Zl,Zm,Zv,Z3,Z6,Z7,Z9,ZH,Ya,Yb,Yn,Yo,Yr,Ys,Y5,YK,YR,YX,Xr,XJ,We,W9,WA,WI,WM,WN,WP,WQ,Vu,V8,V9,VB,VC,VD,VE,VF,VI,VJ,VK,VL,VN,VS,VU,VX,VZ,Uc,Ue,Ug,Ut,Uy,U1,U2,U3,UC,UD,Tf,Tg,Ti,Ts,Tt,Tu,Tv,Ty,T6,T7,Su,S9,n0,u1,u2,u3,u4,u5];all_goals tactic=>exact rfl))
 ·have u2:cD .and .u64 (a:Int) (na:Int)=64:=u2
  have u3:IntKind.u64.wrap 18295693635286647360=18295693635286647360:=by decide
  have u4:(18295693635286647360:Int).fdiv (2^min (Int.toNat 58) IntKind.u64.bits)=63:=by decide
  have u5:Int.toNat 63=63:=rfl
  (sym=>(simp[Za,Zb,Zf,Zh,Zl,Zm,Zv,Z3,Z6,Z7,Z9,ZH,Ya,Yb,Yn,Yo,Yr,Ys,Y6,YL,YR,YX,Xr,XJ,We,W9,WA,WI,WM,WN,WP,WQ,Vu,V8,V9,VB,VC,VD,VE,VF,VI,VJ,VK,VL,VN,VS,VU,VX,VZ,Uc,Ue,Ug,Ut,Uy,U1,U2,U3,UC,UD,Tf,Tg,Ti,Ts,Tt,Tu,Tv,Ty,T6,T7,Su,S9,n0,u1,u2,u3,u4,u5];all_goals tactic=>exact rfl))
 ·have u2:cD .and .u64 (a:Int) (na:Int)=128:=u2
  have u3:IntKind.u64.wrap 36591387270573294720=18144643196863743104:=by decide
  have u4:(18144643196863743104:Int).fdiv (2^min (Int.toNat 58) IntKind.u64.bits)=62:=by decide
  have u5:Int.toNat 62=62:=rfl
  (sym=>(simp[Za,Zb,Zf,Zh,Zl,Zm,Zv,Z3,Z6,Z7,Z9,ZH,Ya,Yb,Yn,Yo,Yr,Ys,Y7,YN,YR,YX,Xr,XJ,We,W9,WA,WI,WM,WN,WP,WQ,Vu,V8,V9,VB,VC,VD,VE,VF,VI,VJ,VK,VL,VN,VS,VU,VX,VZ,Uc,Ue,Ug,Ut,Uy,U1,U2,U3,UC,UD,Tf,Tg,Ti,Ts,Tt,Tu,Tv,Ty,T6,T7,Su,S9,n0,u1,u2,u3,u4,u5];all_goals tactic=>exact rfl))
 ·have u2:cD .and .u64 (a:Int) (na:Int)=256:=u2
  have u3:IntKind.u64.wrap 73182774541146589440=17842542320017934592:=by decide
  have u4:(17842542320017934592:Int).fdiv (2^min (Int.toNat 58) IntKind.u64.bits)=61:=by decide
  have u5:Int.toNat 61=61:=rfl
  (sym=>(simp[Za,Zb,Zf,Zh,Zl,Zm,Zv,Z3,Z6,Z7,Z9,ZH,Ya,Yb,Yn,Yo,Yr,Ys,Y8,YO,YR,YX,Xr,XJ,We,W9,WA,WI,WM,WN,WP,WQ,Vu,V8,V9,VB,VC,VD,VE,VF,VI,VJ,VK,VL,VN,VS,VU,VX,VZ,Uc,Ue,Ug,Ut,Uy,U1,U2,U3,UC,UD,Tf,Tg,Ti,Ts,Tt,Tu,Tv,Ty,T6,T7,Su,S9,n0,u1,u2,u3,u4,u5];all_goals tactic=>exact rfl))
 ·have u2:cD .and .u64 (a:Int) (na:Int)=512:=u2
  have u3:IntKind.u64.wrap 146365549082293178880=17238340566326317568:=by decide
  have u4:(17238340566326317568:Int).fdiv (2^min (Int.toNat 58) IntKind.u64.bits)=59:=by decide
  have u5:Int.toNat 59=59:=rfl
  (sym=>(simp[Za,Zb,Zf,Zh,Zl,Zm,Zv,Z3,Z6,Z7,Z9,ZH,Ya,Yb,Yn,Yo,Yr,Ys,Y9,YP,YR,YX,Xr,XJ,We,W9,WA,WI,WM,WN,WP,WQ,Vu,V8,V9,VB,VC,VD,VE,VF,VI,VJ,VK,VL,VN,VS,VU,VX,VZ,Uc,Ue,Ug,Ut,Uy,U1,U2,U3,UC,UD,Tf,Tg,Ti,Ts,Tt,Tu,Tv,Ty,T6,T7,Su,S9,n0,u1,u2,u3,u4,u5];all_goals tactic=>exact rfl))
 ·have u2:cD .and .u64 (a:Int) (na:Int)=1024:=u2
  have u3:IntKind.u64.wrap 292731098164586357760=16029937058943083520:=by decide
  have u4:(16029937058943083520:Int).fdiv (2^min (Int.toNat 58) IntKind.u64.bits)=55:=by decide
  have u5:Int.toNat 55=55:=rfl
  (sym=>(simp[Za,Zb,Zf,Zh,Zl,Zm,Zv,Z3,Z6,Z7,Z9,ZH,Ya,Yb,Yn,Yo,Yr,Ys,YR,YX,Xr,XJ,We,W9,WA,WI,WM,WN,WP,WQ,Vu,V8,V9,VB,VC,VD,VE,VF,VI,VJ,VK,VL,VN,VS,VU,VX,VZ,Uc,Ue,Ug,Ut,Uy,U1,U2,U3,UC,UD,Tf,Tg,Ti,Ts,Tt,Tu,Tv,Ty,T6,T7,Su,Sy,S9,n0,u1,u2,u3,u4,u5];all_goals tactic=>exact rfl))
 ·have u2:cD .and .u64 (a:Int) (na:Int)=2048:=u2
  have u3:IntKind.u64.wrap 585462196329172715520=13613130044176615424:=by decide
  have u4:(13613130044176615424:Int).fdiv (2^min (Int.toNat 58) IntKind.u64.bits)=47:=by decide
  have u5:Int.toNat 47=47:=rfl
  (sym=>(simp[Za,Zb,Zf,Zh,Zl,Zm,Zv,Z3,Z6,Z7,Z9,ZH,Ya,Yb,Yn,Yo,Yr,Ys,YR,YX,Xr,XJ,We,W9,WA,WI,WM,WN,WP,WQ,Vu,V8,V9,VB,VC,VD,VE,VF,VI,VJ,VK,VL,VN,VS,VU,VX,VZ,Uc,Ue,Ug,Ut,Uy,U1,U2,U3,UC,UD,Tf,Tg,Ti,Ts,Tt,Tu,Tv,Ty,T6,T7,Su,Sz,S9,n0,u1,u2,u3,u4,u5];all_goals tactic=>exact rfl))
 ·have u2:cD .and .u64 (a:Int) (na:Int)=4096:=u2
  have u3:IntKind.u64.wrap 1170924392658345431040=8779516014643679232:=by decide
  have u4:(8779516014643679232:Int).fdiv (2^min (Int.toNat 58) IntKind.u64.bits)=30:=by decide
  have u5:Int.toNat 30=30:=rfl
  (sym=>(simp[Za,Zb,Zf,Zh,Zl,Zm,Zv,Z3,Z6,Z7,Z9,ZH,Ya,Yb,Yn,Yo,Yr,Ys,YR,YX,Xr,XJ,We,W9,WA,WI,WM,WN,WP,WQ,Vu,V8,V9,VB,VC,VD,VE,VF,VI,VJ,VK,VL,VN,VS,VU,VX,VZ,Uc,Ue,Ug,Ut,Uy,U1,U2,U3,UC,UD,Tf,Tg,Ti,Ts,Tt,Tu,Tv,Ty,T6,T7,Su,S2,S9,n0,u1,u2,u3,u4,u5];all_goals tactic=>exact rfl))
 ·have u2:cD .and .u64 (a:Int) (na:Int)=8192:=u2
  have u3:IntKind.u64.wrap 2341848785316690862080=17559032029287358464:=by decide
  have u4:(17559032029287358464:Int).fdiv (2^min (Int.toNat 58) IntKind.u64.bits)=60:=by decide
  have u5:Int.toNat 60=60:=rfl
  (sym=>(simp[Za,Zb,Zf,Zh,Zl,Zm,Zv,Z3,Z6,Z7,Z9,ZH,Ya,Yb,Yn,Yo,Yr,Ys,YR,YX,Xr,XJ,We,W9,WA,WI,WM,WN,WP,WQ,Vu,V8,V9,VB,VC,VD,VE,VF,VI,VJ,VK,VL,VN,VS,VU,VX,VZ,Uc,Ue,Ug,Ut,Uy,U1,U2,U3,UC,UD,Tf,Tg,Ti,Ts,Tt,Tu,Tv,Ty,T6,T7,Su,S3,S9,n0,u1,u2,u3,u4,u5];all_goals tactic=>exact rfl))
 ·have u2:cD .and .u64 (a:Int) (na:Int)=16384:=u2
  have u3:IntKind.u64.wrap 4683697570633381724160=16671319984865165312:=by decide
  have u4:(16671319984865165312:Int).fdiv (2^min (Int.toNat 58) IntKind.u64.bits)=57:=by decide
  have u5:Int.toNat 57=57:=rfl
  (sym=>(simp[Za,Zb,Zf,Zh,Zl,Zm,Zv,Z3,Z6,Z7,Z9,ZH,Ya,Yb,Yn,Yo,Yr,Ys,YR,YX,Xr,XJ,We,W9,WA,WI,WM,WN,WP,WQ,Vu,V8,V9,VB,VC,VD,VE,VF,VI,VJ,VK,VL,VN,VS,VU,VX,VZ,Uc,Ue,Ug,Ut,Uy,U1,U2,U3,UC,UD,Tf,Tg,Ti,Ts,Tt,Tu,Tv,Ty,T6,T7,Su,S4,S9,n0,u1,u2,u3,u4,u5];all_goals tactic=>exact rfl))
 ·have u2:cD .and .u64 (a:Int) (na:Int)=32768:=u2
  have u3:IntKind.u64.wrap 9367395141266763448320=14895895896020779008:=by decide
  have u4:(14895895896020779008:Int).fdiv (2^min (Int.toNat 58) IntKind.u64.bits)=51:=by decide
  have u5:Int.toNat 51=51:=rfl
  (sym=>(simp[Za,Zb,Zf,Zh,Zl,Zm,Zv,Z3,Z6,Z7,Z9,ZH,Ya,Yb,Yn,Yo,Yr,Ys,YR,YX,Xr,XJ,We,W9,WA,WI,WM,WN,WP,WQ,Vu,V8,V9,VB,VC,VD,VE,VF,VI,VJ,VK,VL,VN,VS,VU,VX,VZ,Uc,Ue,Ug,Ut,Uy,U1,U2,U3,UC,UD,Tf,Tg,Ti,Ts,Tt,Tu,Tv,Ty,T6,T7,Su,S5,S9,n0,u1,u2,u3,u4,u5];all_goals tactic=>exact rfl))
theorem w87 {a:Nat} (ha:a<65536) (h0:a≠0):runW aA 87 [U a] []=some (I (rU a:Nat),[]):=by
 have e:=w91 ha h0
 rw[r87 (by simp)];unfold x87;dsimp only
 (sym=>(simp[Za,Zb,Zf,Zh,Zl,Zv,ZP,ZQ,ZU,ZV,YX,Xr,XJ,We,W8,W9,WI,WL,WM,WN,WP,WQ,WS,WT,Vg,Vh,Vi,Vu,V8,V9,VB,VC,VD,VE,VF,VI,VJ,VK,VL,VN,VS,VU,VX,VY,VZ,Ub,Uc,Ue,Ug,U1,U2,U3,U4,U5,UC,UD,Tt,Tu,Tv,Ty,T6,T7,Su,e];all_goals tactic=>exact rfl))
def tW (a:Nat):Nat→Nat
 | 0=>a
 | i+1=>tW a i&&&(tW a i-1)
theorem tV {a:Nat} (ha:a<65536):∀ i,tW a i<65536
 | 0=>ha
 | i+1=>by rw[tW];exact Nat.lt_of_le_of_lt Nat.and_le_left (tV ha i)
theorem aDG {a:Nat} (ha:a<65536):∀ i,el (tW a i)=(el a).drop i
 | 0=>rfl
 | i+1=>by
   have ih:=aDG ha i
   rw[tW]
   by_cases h0:tW a i=0
   ·rw[h0]at ih ⊢
    have e0:el 0=[]:=rfl
    rw[show (0&&&(0-1))=0 from rfl,e0]
    rw[e0]at ih
    have:=congrArg List.length ih
    rw[List.length_nil,List.length_drop]at this
    exact(List.drop_eq_nil_of_le (by omega)).symm
   ·rw[sF (tV ha i) h0]at ih
    rw[←List.drop_drop,←ih]
    rfl
theorem aIL {a:Nat} (ha:a<65536) {i:Nat} (hi:i<(el a).length):tW a i≠0∧(el a)[i]?=some (rU (tW a i)):=by
 have h:=aDG ha i
 have h0:tW a i≠0:=fun hc=>by
  rw[hc,show el 0=[] from rfl]at h
  have:=congrArg List.length h
  rw[List.length_nil,List.length_drop]at this
  omega
 refine⟨h0,?_⟩
 rw[sF (tV ha i) h0]at h
 have:=congrArg (fun l=>l[0]?) h
 simpa using this.symm
theorem aEZ {a:Nat} (ha:a<65536):tW a (el a).length=0:=by
 have h:=aDG ha (el a).length
 rw[List.drop_length]at h
 exact(aKM (tV ha _)).1 h
abbrev cI (a:Nat):Option XB:=some (.blk true (.cells true [I a]))
structure aGh (n:Nat) (H:XH):Prop where
 hat:∀ a,hat (H++[cI a]) n=cI a
 set:∀ a b,(H++[cI a]).set n (cI b)=H++[cI b]
 len:∀ a,(H++[cI a]).length=n+1
 head:∀ (a:Nat) (e:aG),e 0 = .fn (.yield 0) [] []→e 1 = .pt n 0→aS (n+1) [0,1] (some (.normal,e,H++[cI a]))=some ([.fn (.yield 0) [] [],.pt n 0],H++[cI a])
 fin:∀ a,iT false (n+1) (.tup []) (H++[cI a])=(.tup [],H++[cI a])
def Yd (H H':XH) (v:Nat) (b:Bool):Prop:=∀ a:Nat,eQ (runW aA) (runYW aA) (.fn (.yield 0) [] []) [I v] (H++[cI a])=some (.bool b,H'++[cI a])
theorem aJH {n:Nat} {H H':XH} (g:aGh n H) (g':aGh n H') {a:Nat} (ha:a<65536) (h0:a≠0) (hy:Yd H H' (rU a) true) :
 aS (n+1) [0,1] (execW aA 86 (n+1) none (match wJ with | .loop _ a=>a|c=>c) (aV [0,1] [.fn (.yield 0) [] [],.pt n 0]) (H++[cI a]))=some ([.fn (.yield 0) [] [],.pt n 0],H'++[cI (a&&&(a-1))]):=by
 have h1:=g.hat a
 have h2:=g'.hat a
 have h3:=g'.set a
 have h4:=hy a
 have t:=w87 ha h0
 have n0:((a:Int)=0)=False:=eq_false (by omega)
 have u1:IntKind.i64.wrap ((a:Int)-1)=((a-1:Nat):Int):=by
  rw[show (a:Int)-1=((a-1:Nat):Int) by omega];exact iJ bY (by omega)
 have u2:=kS bY (a:=a) (b:=a-1) (by omega) (by omega)
 have u3:=iJ aFe (a:=a) (by omega)
 have hd:=g'.head (a&&&(a-1))
 unfold wJ
 dsimp only
 sym =>
  simp[Za,Zb,Zc,Zf,Zh,Zl,Zm,Zv,Z3,Z5,Z7,ZH,ZL,ZM,ZP,ZQ,ZU,ZV,ZZ,Yb,Ym,Yo,Yt,YX,Xi,Xr,Wq,W0,W3,W5,W7,W8,WA,WI,WL,WN,WS,WT,Vg,Vh,Vi,VP,VS,VT,VU,VY,VZ,Ub,Uc,Uf,Ug,Ul,Uo,Uq,Ut,Uy,U1,U2,U3,U4,U5,U6,U7,UE,Td,Te,Ti,Tj,Tk,Ts,Tt,Tv,Tx,Ty,T1,T6,T7,TH,h1,h2,t,h4,n0,u1,u2,u3,h3]
  tactic=>exact hd _ rfl rfl
theorem sG {n:Nat} {G:Nat→XH} {a:Nat} (ha:a<65536) (g:∀ i,i≤(el a).length→aGh n (G i)) (hy:∀ i v,(el a)[i]?=some v→Yd (G i) (G (i+1)) v true) :
 runW aA 86 [.fn (.yield 0) [] [],.pt n 0] (G 0++[cI a])=some (.tup [],G (el a).length++[cI 0]):=by
 have l0:=(g 0 (by omega)).len a
 have g1:=g (el a).length (by omega)
 have h1:hat (G (el a).length++[some (.blk true (.cells true [.int .i64 0]))]) n=some (.blk true (.cells true [.int .i64 0])):=g1.hat 0
 have hf:iT false (n+1) (.tup []) (G (el a).length++[some (.blk true (.cells true [.int .i64 0]))])=(.tup [],G (el a).length++[some (.blk true (.cells true [.int .i64 0]))]):=g1.fin 0
 have c0:=aEZ ha
 rw[r86 (by simp)];unfold x86;dsimp only
 rw[l0]
 unfold wJ
 sym =>
  simp[YB,Wl,Wp,VX,UC,UD,Tx]
  tactic =>
   rw[aE (el a).length (fun _=>[.fn (.yield 0) [] [],.pt n 0]) (fun i=>G i++[cI (tW a i)])]
   ·rw[c0]
    (sym=>(simp[Za,Zb,Zf,Zh,Zl,Zm,Z3,ZH,Yt,YB,W0,W3,WA,V7,V9,VE,VG,VI,VP,VS,VU,Uo,Ux,Td,Te,Ti,Ts,Tt,Tw,Ty,Tz,T4,T6,T7,h1,hf];all_goals tactic=>exact rfl))
   ·exact(g 0 (by omega)).head a _ rfl rfl
   ·intro i hi
    obtain⟨p1,p2⟩:=aIL ha hi
    exact aJH (g i (by omega)) (g (i+1) (by omega)) (tV ha i) p1 (hy i _ p2)
   ·rw[c0]
    (sym=>(simp[Za,Zb,Zf,Zh,Zl,Zm,Z3,ZH,Yt,YB,W0,W3,WA,VP,VS,VU,VV,Uo,Ux,Td,Te,Ti,Ts,Tt,Tw,Ty,Tz,T6,T7,h1];all_goals tactic=>exact rfl))
structure aAA (n:Nat) (M K:Nat→XH):Prop where
 hat:∀ a,hat (M a) n=cI a
 set:∀ a b,(M a).set n (cI b)=M b
 head:∀ (a:Nat) (e:aG),e 0 = .fn (.yield 0) [] []→e 1 = .pt n 0→aS (n+1) [0,1] (some (.normal,e,M a))=some ([.fn (.yield 0) [] [],.pt n 0],K a)
def YdF (K K':Nat→XH) (v:Nat) (b:Bool):Prop:=∀ a:Nat,eQ (runW aA) (runYW aA) (.fn (.yield 0) [] []) [I v] (K a)=some (.bool b,K' a)
theorem aLL {n:Nat} {K M K':Nat→XH} {a:Nat} (h1:hat (K a) n=cI a) (g':aAA n M K') (ha:a<65536) (h0:a≠0) (hy:YdF K M (rU a) true) :
 aS (n+1) [0,1] (execW aA 86 (n+1) none (match wJ with | .loop _ a=>a|c=>c) (aV [0,1] [.fn (.yield 0) [] [],.pt n 0]) (K a))=some ([.fn (.yield 0) [] [],.pt n 0],K' (a&&&(a-1))):=by
 have h2:=g'.hat a
 have h3:=g'.set a
 have h4:=hy a
 have t:=w87 ha h0
 have n0:((a:Int)=0)=False:=eq_false (by omega)
 have u1:IntKind.i64.wrap ((a:Int)-1)=((a-1:Nat):Int):=by
  rw[show (a:Int)-1=((a-1:Nat):Int) by omega];exact iJ bY (by omega)
 have u2:=kS bY (a:=a) (b:=a-1) (by omega) (by omega)
 have u3:=iJ aFe (a:=a) (by omega)
 have hd:=g'.head (a&&&(a-1))
 unfold wJ
 dsimp only
 sym =>
  simp[Za,Zb,Zc,Zf,Zh,Zl,Zm,Zv,Z3,Z5,Z7,ZH,ZL,ZM,ZP,ZQ,ZU,ZV,ZZ,Yb,Ym,Yo,Yt,YX,Xi,Xr,Wq,W0,W3,W5,W7,W8,WA,WI,WL,WN,WS,WT,Vg,Vh,Vi,VP,VS,VT,VU,VY,VZ,Ub,Uc,Uf,Ug,Ul,Uo,Uq,Ut,Uy,U1,U2,U3,U4,U5,U6,U7,UE,Td,Te,Ti,Tj,Tk,Ts,Tt,Tv,Tx,Ty,T1,T6,T7,h1,h2,t,h4,n0,u1,u2,u3,h3]
  tactic=>exact hd _ rfl rfl
theorem aNS {n:Nat} {G:Nat→Nat→XH} {a:Nat} {X:XH} (ha:a<65536) (l0:(G 0 a).length=n+1) (g0:aAA n (G 0) (G 0)) (gh:∀ i,i≤(el a).length→∀ a,hat (G i a) n=cI a) (hf:iT false (n+1) (.tup []) (G (el a).length 0)=(.tup [],X)) (hy:∀ i v,(el a)[i]?=some v→∃ M,YdF (G i) M v true∧aAA n M (G (i+1))) :
 runW aA 86 [.fn (.yield 0) [] [],.pt n 0] (G 0 a)=some (.tup [],X):=by
 have h1:=gh (el a).length (by omega) 0
 have h1:hat (G (el a).length 0) n=some (.blk true (.cells true [.int .i64 0])):=h1
 have c0:=aEZ ha
 rw[r86 (by simp)];unfold x86;dsimp only
 rw[l0]
 unfold wJ
 sym =>
  simp[Wl,Wp,VX,UC,UD,Tx]
  tactic =>
   rw[aE (el a).length (fun _=>[.fn (.yield 0) [] [],.pt n 0]) (fun i=>G i (tW a i))]
   ·rw[c0]
    (sym=>(simp[Za,Zb,Zf,Zh,Zl,Zm,Z3,ZH,Yt,W0,W3,WA,V7,V9,VE,VG,VI,VP,VS,VU,Uo,Ux,Td,Te,Ti,Ts,Tt,Tw,Ty,Tz,T4,T6,T7,h1,hf];all_goals tactic=>exact rfl))
   ·exact g0.head a _ rfl rfl
   ·intro i hi
    obtain⟨p1,p2⟩:=aIL ha hi
    obtain⟨M,m1,m2⟩:=hy i _ p2
    exact aLL (gh i (by omega) _) m2 (tV ha i) p1 m1
   ·rw[c0]
    (sym=>(simp[Za,Zb,Zf,Zh,Zl,Zm,Z3,ZH,Yt,W0,W3,WA,VP,VS,VU,VV,Uo,Ux,Td,Te,Ti,Ts,Tt,Tw,Ty,Tz,T6,T7,h1];all_goals tactic=>exact rfl))
def cM (ks:List Nat):List Int:=ks.map fun k:Nat=>(k:Int)
theorem yG (a:Nat):(el a).length≤16:=by
 have:=List.length_filter_le (fun i=>a.testBit i) (List.range 16)
 simpa [el]using this
theorem fE {ks:List Nat} {i v:Nat} (h:ks[i]?=some v):(cM ks)[i]?=some (v:Int):=by
 unfold cM
 rw[List.getElem?_map,h];rfl
theorem bO (ks:List Nat):(cM ks).length=ks.length:=by simp[cM]
abbrev gCn (a:Nat):XH:=[some (.loop 85 0 [.pt 1 0] .ready),some (.blk true (.cells true [.nilsl])),cI a]
abbrev gCc (x:Int) (r:List Int) (a:Nat):XH:=[some (.loop 85 0 [.pt 1 0] .ready),some (.blk false (.cells true [.sl 3 0 1 (r.length+1)])),cI a,some (.blk true (.cells true (I x::r.map I)))]
abbrev gCm (x:Int) (r:List Int) (a:Nat):XH:=[some (.loop 85 0 [.pt 1 0] .ready),some (.blk false (.cells true [.sl 4 0 1 (r.length+1)])),cI a,none,some (.blk true (.cells true (I x::r.map I)))]
def gC:List Int→Nat→XH
 | []=>gCn
 | x::r=>gCc x r
theorem aMm:aAA 2 gCn gCn:=by
 refine⟨fun _=>rfl,fun _ _=>rfl,?_⟩
 intro a e h0 h1
 (sym=>(simp[Xd,Xh,Xx,XI,WB,WG,WI,WK,WM,WN,WO,WP,WQ,WW,WX,WZ,Vc,Vd,Vf,VQ,VR,VY,VZ,Ua,Ub,Uc,Ud,Ue,Uw,U1,U2,U3,U4,U5,T5,h0,h1];all_goals tactic=>exact rfl))
theorem aMo (x:Int) (r:List Int):aAA 2 (gCc x r) (gCc x r):=by
 refine⟨fun _=>rfl,fun _ _=>rfl,?_⟩
 intro a e h0 h1
 (sym=>(simp[Xc,Xd,Xh,Xw,Xx,XI,Wz,WB,WF,WG,WI,WJ,WK,WM,WO,WP,WQ,WR,WW,WX,WY,WZ,Vc,Vd,Ve,Vf,VQ,VR,VY,VZ,Ua,Ub,Uc,Ud,Ue,Uj,Uw,U2,U3,U4,U5,T5,h0,h1];all_goals tactic=>exact rfl))
theorem aMn (x:Int) (r:List Int):aAA 2 (gCm x r) (gCc x r):=by
 refine⟨fun _=>rfl,fun _ _=>rfl,?_⟩
 intro a e h0 h1
 (sym=>(simp[Xc,Xd,Xh,Xw,Xx,XI,Wz,WB,WF,WG,WI,WJ,WK,WM,WO,WP,WQ,WR,WW,WX,WY,WZ,Vc,Vd,Ve,Vf,VQ,VR,VY,VZ,Ua,Ub,Uc,Ud,Ue,Uj,Uw,U2,U3,U4,U5,T5,h0,h1];all_goals tactic=>exact rfl))
theorem yCn (v:Nat):YdF gCn (gCc (v:Int) []) v true:=by
 have y:runYW aA (.fn (.yield 0) [] []) [I (v:Nat)] [some (.loop 85 0 [.pt 1 0] .ready),some (.blk true (.cells true [.nilsl]))]=some (.bool true,[some (.loop 85 0 [.pt 1 0] .ready),some (.blk false (.cells true [.sl 2 0 1 1])),some (.blk true (.cells true [I (v:Nat)]))]):=by
  rw[kD (K:=85) (d:=x85) (site:=0) (vs:=[.pt 1 0]) rfl rfl (by rfl) rfl]
  (sym=>(simp[Za,Zb,Zc,Zd,Ze,Zf,Zg,Zh,Zj,Zl,Zm,Zo,Zv,Z1,ZH,ZL,ZM,ZT,YY,Xc,Xd,Xi,Xm,Xs,Xw,Xx,XJ,We,Wq,Wu,Wz,W0,W3,W4,W5,W6,W7,W8,WA,WB,WF,WG,WI,WJ,WK,WM,WO,WP,WQ,WR,WW,WX,WY,WZ,Vc,Vd,Ve,Vf,Vu,Vw,Vx,Vy,VA,VD,VP,VY,VZ,Ua,Ub,Uc,Ud,Ue,Uf,Ug,Uj,Ul,Un,Ut,Uw,Uz,U0,U2,U3,U4,U5,U6,U7,UE,UF,UG,UH,UL,UM,UP,UQ,UR,US,UW,UX,UY,UZ,Td,Te,Ti,Tj,Tk,Tl,Tn,Tp,Tr,Tx,T1,T6,TR,Sa,Sb,Sc,Sd,Sm,Sn,Sp,Sq,Su,SB,SC,SE,SF,SG,SI];all_goals tactic=>exact rfl))
 intro a
 (sym=>(simp[YX,Xd,Xh,Xr,Xs,Xw,Xx,XI,Wz,W4,W7,WA,WB,WC,WE,WF,WH,WI,WJ,WK,WL,WO,WS,WT,WU,WW,WX,WY,WZ,Vd,Vf,Vg,Vh,Vi,Vj,VY,VZ,Ua,Ub,Uc,Uf,Ug,Uj,Uw,U2,U3,U4,U5,Sl,y];all_goals tactic=>exact rfl))
theorem yCc (v:Nat) (x:Int) (r:List Int) (hr:r.length≤20):YdF (gCc x r) (gCm x (r++[(v:Int)])) v true:=by
 have b1:((r.length+1+1)*8≤1099511627776)=True:=eq_true (by omega)
 have b2:(r.length+1+1≤1099511627776)=True:=eq_true (by omega)
 have y:runYW aA (.fn (.yield 0) [] []) [I (v:Nat)] [some (.loop 85 0 [.pt 1 0] .ready),some (.blk false (.cells true [.sl 2 0 1 (r.length+1)])),some (.blk true (.cells true (I x::r.map I)))]=some (.bool true,[some (.loop 85 0 [.pt 1 0] .ready),some (.blk false (.cells true [.sl 3 0 1 (r.length+1+1)])),none,some (.blk true (.cells true (I x::(r.map I++[I (v:Nat)]))))]):=by
  rw[kD (K:=85) (d:=x85) (site:=0) (vs:=[.pt 1 0]) rfl rfl (by rfl) rfl]
  (sym=>(simp[Za,Zb,Zc,Zd,Ze,Zf,Zg,Zh,Zj,Zl,Zm,Zo,Zv,Z1,ZH,ZL,ZM,ZT,YY,Xc,Xd,Xi,Xm,Xs,Xw,Xx,XJ,We,Wq,Wu,Wz,W0,W3,W4,W5,W6,W7,W8,WA,WB,WF,WG,WI,WJ,WK,WM,WO,WP,WQ,WR,WV,WW,WX,WY,WZ,Vb,Vc,Vd,Ve,Vf,Vu,Vw,Vx,Vy,VA,VD,VP,VY,VZ,Ua,Ub,Uc,Ud,Ue,Uf,Ug,Uh,Uj,Ul,Un,Ut,Uw,Uz,U0,U2,U3,U4,U5,U6,U7,UE,UF,UG,UH,UL,UM,UP,UQ,UR,US,UW,UX,UY,Ta,Tb,Td,Te,Ti,Tj,Tk,Tl,Tm,Tn,Tp,Tx,T1,T6,TI,TR,Sa,Sb,Sc,Sd,Sm,Sn,Sp,Sq,Su,SB,SC,SE,SF,SG,SI,b1,b2];all_goals tactic=>exact rfl))
 intro a
 (sym=>(simp[YX,Xc,Xd,Xh,Xr,Xs,Xw,Xx,XI,Wz,W4,W7,WA,WB,WC,WE,WF,WH,WI,WJ,WK,WL,WO,WS,WT,WU,WV,WW,WX,WY,WZ,Vd,Ve,Vf,Vg,Vh,Vi,Vj,VY,VZ,Ua,Ub,Uc,Uf,Ug,Uj,Uw,U2,U3,U4,U5,TG,TH,Sl,y];all_goals tactic=>exact rfl))
theorem aMq (os:List Int):iT false 3 (.tup []) (gC os 0)=(.tup [],gC os 0):=by
 cases os with
 | nil=>unfold gC; (sym=>(simp[Za,YB,Xa,Xd,Xu,Xx,XM,Wh,WB,WG,WI,WK,WM,WN,WO,WP,WQ,WW,WX,WZ,Vc,Vd,Vf,Vu,VB,VC,VD,VY,VZ,Ub,Uc,Ud,Ue,Uw,U1,U2,U3,U4,U5,U8,UC,Su];all_goals tactic=>exact rfl))
 | cons x r=>unfold gC; (sym=>(simp[Za,YB,Xa,Xc,Xd,Xu,Xw,Xx,XM,Wh,Wz,WB,WF,WG,WI,WJ,WK,WM,WO,WP,WQ,WR,WW,WX,WY,WZ,Vc,Vd,Ve,Vf,Vu,VB,VC,VD,VY,VZ,Ua,Ub,Uc,Ud,Ue,Uj,Uw,U2,U3,U4,U5,U8,UC,Su];all_goals tactic=>exact rfl))
theorem w85 {a:Nat} (ha:a<65536):runW aA 85 [.nilsl,.fn (.func 86) [] [.pt 0 0]] [cI a]=some (nL (cM (el a)),[some (.blk true (.cells true [.int .i64 0]))]):=by
 have e:=aNS (n:=2) (G:=fun i=>gC (cM ((el a).take i))) (X:=gC (cM (el a)) 0) ha rfl aMm
  (by intro i _ c;cases cM ((el a).take i)<;>rfl)
  (by
   show iT false 3 (.tup []) (gC (cM ((el a).take (el a).length)) 0)=_
   rw[List.take_length]
   exact aMq _)
  (by
   intro i v hv
   have e1:cM ((el a).take (i+1))=cM ((el a).take i)++[(v:Int)]:=by
    rw[List.take_add_one,hv]
    simp[cM]
   have hl:=bO ((el a).take i)
   have hl2:=yG a
   rw[List.length_take]at hl
   rw[e1]
   generalize cM ((el a).take i)=os at *
   rcases os with _|⟨x,r⟩
   ·exact⟨_,yCn v,aMo _ _⟩
   ·exact⟨_,yCc v x r (by simp at hl;omega),aMn _ _⟩)
 have e:runW aA 86 [.fn (.yield 0) [] [],.pt 2 0] [some (.loop 85 0 [.pt 1 0] .ready),some (.blk true (.cells true [.nilsl])),cI a]=some (.tup [],gC (cM (el a)) 0):=e
 generalize cM (el a)=os at *
 rw[r85 (by simp)];unfold x85;dsimp only
 rcases os with _|⟨x,r⟩
 ·have e:runW aA 86 [.fn (.yield 0) [] [],.pt 2 0] [some (.loop 85 0 [.pt 1 0] .ready),some (.blk true (.cells true [.nilsl])),cI a]=some (.tup [],[some (.loop 85 0 [.pt 1 0] .ready),some (.blk true (.cells true [.nilsl])),some (.blk true (.cells true [.int .i64 0]))]):=e
  (sym=>(simp[Za,Zb,Zf,Zh,Zl,Zm,Zo,Zv,Zz,ZH,ZU,ZV,Xb,Xd,Xh,Xo,Xu,Xv,Xx,XI,XQ,Wm,Ww,Wz,W0,W3,W4,W7,W8,W9,WA,WB,WC,WE,WF,WH,WI,WJ,WK,WL,WM,WN,WO,WP,WQ,WS,WT,WU,WW,WX,WZ,Vc,Vd,Vf,Vg,Vh,Vi,Vj,Vu,V8,V9,VB,VC,VD,VE,VF,VI,VJ,VK,VL,VN,VY,VZ,Ua,Ub,Uc,Ud,Ue,Uf,Ug,Uj,Ul,Uw,U1,U2,U3,U4,U5,UN,UO,Td,Te,Ti,Tl,Tt,Tu,Tx,Ty,T1,T6,T7,Sa,Sb,Se,Sf,Sg,Si,Sj,Sk,Su,e];all_goals tactic=>exact rfl))
 ·have e:runW aA 86 [.fn (.yield 0) [] [],.pt 2 0] [some (.loop 85 0 [.pt 1 0] .ready),some (.blk true (.cells true [.nilsl])),cI a]=some (.tup [],[some (.loop 85 0 [.pt 1 0] .ready),some (.blk false (.cells true [.sl 3 0 1 (r.length+1)])),some (.blk true (.cells true [.int .i64 0])),some (.blk true (.cells true (I x::r.map I)))]):=e
  (sym=>(simp[Za,Zb,Zf,Zh,Zl,Zm,Zo,Zv,Zz,ZH,ZU,ZV,Xb,Xd,Xh,Xl,Xo,Xu,Xv,Xw,Xx,XI,XO,Wb,Wi,Ww,Wz,W0,W3,W4,W7,W9,WA,WB,WC,WE,WF,WH,WI,WJ,WK,WL,WM,WO,WP,WQ,WS,WT,WU,WW,WX,WY,WZ,Vc,Vd,Vf,Vg,Vh,Vi,Vj,Vr,Vs,Vt,Vu,Vv,V3,V4,V5,V6,V8,V9,VB,VC,VD,VE,VF,VI,VJ,VK,VL,VN,VY,VZ,Ua,Ub,Uc,Ud,Ue,Uf,Ug,Uh,Uj,Ul,Ut,Uw,U2,U3,U4,U5,U6,U7,UA,UB,UN,UO,Td,Te,Ti,Tl,Tt,Tu,Tx,Ty,T1,T6,T7,TI,TJ,TL,TY,Sa,Sb,Se,Sf,Sg,Si,Sj,Sk,Su,Sv,Sw,e];all_goals tactic=>exact rfl))
theorem w79 {a:Nat} (ha:a<65536):runW aA 79 [.fn (.func 86) [] [.pt 0 0]] [cI a]=some (nL (cM (el a)),[some (.blk true (.cells true [.int .i64 0]))]):=by
 have e:=w85 ha
 generalize cM (el a)=os at *
 rw[r79 (by simp)];unfold x79;dsimp only
 (sym=>(simp[Za,Zb,Zf,Zh,Zl,Zv,ZP,ZQ,ZU,ZV,Xb,Xd,Xe,Xg,Xv,Xx,Xy,X0,XN,Wi,Wo,Wz,W4,W7,W8,W9,WB,WE,WF,WI,WJ,WK,WL,WM,WN,WO,WP,WQ,WS,WT,WU,WW,WX,Vc,Vd,Vg,Vh,Vi,Vj,Vu,V8,V9,VB,VC,VD,VE,VF,VI,VJ,VK,VL,VN,VX,VY,VZ,Ub,Uc,Ud,Ue,Uf,Ug,Uw,U1,U2,U3,U4,U5,UC,UD,Tt,Tu,Ty,T6,T7,Su,e];all_goals tactic=>exact rfl))
theorem w80 {a:Nat}:runW aA 80 [I a] []=some (.fn (.func 86) [] [.pt 0 0],[cI a]):=by
 rw[r80 (by simp)];unfold x80;dsimp only
 (sym=>(simp[Za,Zb,Zf,Zh,Zl,Zo,Zv,Zx,Zz,Xd,Xg,Xi,Xx,X0,XV,We,Wo,Wq,Wz,W9,WB,WF,WG,WI,WJ,WK,WM,WO,WP,WQ,WR,WW,WX,Vd,Vu,V8,V9,VB,VC,VD,VE,VF,VI,VJ,VK,VL,VN,VX,VY,VZ,Ub,Uc,Ue,Ug,Uj,Uw,U2,U3,U4,U5,UC,UD,UN,UO,Tl,Tt,Tu,Ty,T6,T7,TK,Su];all_goals tactic=>exact rfl))
theorem w63 {a:Nat} (ha:a<65536):runW aA 63 [I a] []=some (nL (cM (el a)),[]):=by
 have e:=w79 ha
 have e2:=w80 (a:=a)
 generalize cM (el a)=os at *
 rw[r63 (by simp)];unfold x63;dsimp only
 (sym=>(simp[Za,Zb,Zf,Zg,Zh,Zj,Zl,Zv,ZP,ZQ,ZU,ZV,YX,Xb,Xd,Xg,Xr,Xv,Xx,X0,XJ,XN,We,Wi,Wz,W4,W7,W8,W9,WB,WE,WF,WH,WI,WJ,WK,WL,WM,WN,WO,WP,WQ,WS,WT,WU,WW,WX,Vd,Vg,Vh,Vi,Vj,Vu,Vw,Vx,Vy,V8,V9,VB,VC,VD,VE,VF,VI,VJ,VK,VL,VN,VX,VY,VZ,Ub,Uc,Ue,Uf,Ug,Uw,U1,U2,U3,U4,U5,UC,UD,Tt,Tu,Ty,T6,T7,Su,SB,SC,SE,SF,SG,SI,e,e2];all_goals tactic=>exact rfl))
structure Va where
 F:Int
 bs:List (Int×Int)
 ps:List (Int×Int×Int)
 sick:Int
 nur:Int
 fix:Int
abbrev rB (l:List (Int×Int)):AV:=.fs (l.map fun b=>[I b.1,I b.2])
abbrev rP (l:List (Int×Int×Int)):AV:=.fs (l.map fun p=>[I p.1,I p.2.1,I p.2.2])
abbrev Va.c (v:Va):List AV:=[I v.F,rB v.bs,rP v.ps,I v.sick,I v.nur,I v.fix]
def hO (F a b:Int):Int:=if btw 0 a (F-1)&&btw 0 b (F-1) then (if a=b then 22 else 0) else 5
theorem uQ (F a b:Int):(btw 0 a (F-1)=false∧hO F a b=5)∨(btw 0 a (F-1)=true∧btw 0 b (F-1)=false∧hO F a b=5) ∨
 (btw 0 a (F-1)=true∧btw 0 b (F-1)=true∧(a=b)=True∧hO F a b=22)∨(btw 0 a (F-1)=true∧btw 0 b (F-1)=true∧(a=b)=False∧hO F a b=0):=by
 unfold hO
 cases btw 0 a (F-1)
 ·simp
 cases btw 0 b (F-1)
 ·simp
 by_cases h:a=b
 ·simp[h]
 ·simp[h]
theorem w53 (v:Va) (hF:1≤v.F∧v.F≤16) (a b:Int):runW aA 53 [.agg v.c,I a,I b] []=some (I (hO v.F a b),[]):=by
 have u:IntKind.i64.wrap (v.F-1)=v.F-1:=aD (by omega) (by omega)
 have e1:=w45 0 a (v.F-1)
 have e2:=w45 0 b (v.F-1)
 rw[r53 (by simp)];unfold x53;dsimp only
 rcases uQ v.F a b with ⟨h1,h⟩|⟨h1,h2,h⟩|⟨h1,h2,h3,h⟩|⟨h1,h2,h3,h⟩
 ·rw[h];rw[h1]at e1; (sym=>(simp[Za,Zb,Zf,Zh,Zl,Zm,Zo,Zp,Zt,Zv,Zy,Zz,Z3,Z5,Z8,ZH,ZP,ZQ,ZU,ZV,ZW,ZZ,Yc,Ym,YX,Xi,Xk,Xl,Xr,Xs,XJ,We,Wg,Wi,Ws,Wz,W0,W3,W8,W9,WA,WI,WL,WM,WN,WO,WP,WQ,WS,WT,Vg,Vh,Vi,Vu,V8,V9,VB,VC,VD,VE,VF,VI,VJ,VK,VL,VN,VS,VT,VX,VY,VZ,Ub,Uc,Ue,Uf,Ug,Ul,Uq,U1,U2,U3,U4,U5,U6,U7,UC,UD,UN,UO,Td,Te,Ti,Tl,Ts,Tt,Tu,Tx,Ty,T0,T2,T6,T7,Su,u,e1];all_goals tactic=>exact rfl))
 ·rw[h];rw[h1]at e1;rw[h2]at e2; (sym=>(simp[Za,Zb,Zf,Zh,Zl,Zm,Zo,Zp,Zr,Zv,Zy,Zz,Z3,Z5,Z8,ZH,ZP,ZQ,ZU,ZV,ZX,ZZ,Yc,Ym,YX,Xi,Xk,Xl,Xr,Xs,XJ,We,Wg,Wi,Ws,Wz,W0,W3,W8,W9,WA,WI,WL,WM,WN,WO,WP,WQ,WS,WT,Vg,Vh,Vi,Vu,V8,V9,VB,VC,VD,VE,VF,VI,VJ,VK,VL,VN,VS,VT,VX,VY,VZ,Ub,Uc,Ue,Uf,Ug,Ul,Uo,Uq,U1,U2,U3,U4,U5,U6,U7,UC,UD,UN,UO,Td,Te,Ti,Tl,Ts,Tt,Tu,Tx,Ty,T0,T2,T6,T7,Su,u,e1,e2];all_goals tactic=>exact rfl))
 ·rw[h];rw[h1]at e1;rw[h2]at e2; (sym=>(simp[Za,Zb,Zf,Zh,Zl,Zm,Zo,Zp,Zr,Zv,Zy,Zz,Z3,Z5,Z8,ZH,ZP,ZQ,ZU,ZV,ZX,ZZ,Yc,Ym,Ys,YX,Xi,Xk,Xl,Xr,Xs,XJ,We,Wg,Wi,Ws,Wz,W0,W3,W8,W9,WA,WI,WL,WM,WN,WO,WP,WQ,WS,WT,Vg,Vh,Vi,Vu,V8,V9,VB,VC,VD,VE,VF,VI,VJ,VK,VL,VN,VS,VT,VU,VX,VY,VZ,Ub,Uc,Ue,Uf,Ug,Ul,Uo,Ux,U1,U2,U3,U4,U5,U6,U7,UC,UD,UN,UO,Td,Te,Ti,Tl,Ts,Tt,Tu,Tx,Ty,T0,T2,T6,T7,Su,u,e1,e2,h3];all_goals tactic=>exact rfl))
 ·rw[h];rw[h1]at e1;rw[h2]at e2; (sym=>(simp[Za,Zb,Zf,Zh,Zl,Zm,Zo,Zp,Zr,Zv,Zy,Zz,Z3,Z5,Z8,ZH,ZP,ZQ,ZU,ZV,ZX,ZZ,Yc,Ym,Ys,YX,Xi,Xk,Xl,Xr,Xs,XJ,We,Wg,Wi,Ws,Wz,W0,W3,W8,W9,WA,WI,WL,WM,WN,WO,WP,WQ,WS,WT,Vg,Vh,Vi,Vu,V8,V9,VB,VC,VD,VE,VF,VI,VJ,VK,VL,VN,VS,VU,VX,VY,VZ,Ub,Uc,Ue,Uf,Ug,Ul,Uo,Uy,U1,U2,U3,U4,U5,U6,U7,UC,UD,UN,UO,Td,Te,Ti,Tl,Ts,Tt,Tu,Tv,Tx,Ty,T1,T6,T7,Su,u,e1,e2,h3];all_goals tactic=>exact rfl))
def bE (v:Va) (i:Nat):Int:=hO v.F (v.bs.getD i (0,0)).1 (v.bs.getD i (0,0)).2
def pE (v:Va) (i:Nat):Int:=if hO v.F (v.ps.getD i (0,0,0)).2.1 (v.ps.getD i (0,0,0)).2.2=0 then (if btw 0 (v.ps.getD i (0,0,0)).1 100 then 0 else 2) else hO v.F (v.ps.getD i (0,0,0)).2.1 (v.ps.getD i (0,0,0)).2.2
def Va.A (v:Va):Int:=2^v.F.toNat-1
def sE (v:Va):Int:=if btw 0 v.sick v.A&&(btw 0 v.nur v.A&&btw 0 v.fix v.A) then 0 else 2
def bsE (v:Va):Int:=if 60<v.bs.length then 1 else cJ (bE v) v.bs.length
def psE (v:Va):Int:=if 20<v.ps.length then 1 else cJ (pE v) v.ps.length
def vE (v:Va):Int:=if btw 1 v.F 16 then (if bsE v=0 then (if psE v=0 then sE v else psE v) else bsE v) else 2
theorem aKk {n:Int} (h:n≠0):(n=0)=False:=eq_false h
theorem aO {α:Type} {l:List α} {i:Nat} {x d:α} (h:l[i]?=some x):l.getD i d=x:=by rw[List.getD_eq_getElem?_getD,h];rfl
abbrev bx (v:Va):XH:=[some (.blk true (.cells true v.c))]
theorem xB (v:Va) (hF:1≤v.F∧v.F≤16) (hb:v.bs.length<1000000000) {i:Nat} (hi:i<v.bs.length) (h0:bE v i=0) :
 aS 0 [1,22,23,24] (execW aA 23 0 none (match qY with | .loop _ a=>a|c=>c) (aV [1,22,23,24] [.pt 0 0,rB v.bs,I v.bs.length,I (i:Nat)]) (bx v))=some ([.pt 0 0,rB v.bs,I v.bs.length,I (i+1:Nat)],bx v):=by
 obtain⟨x,hx⟩:=bC hi
 have a1:=dC hi
 have a2:=dN hi (by omega)
 have e:=w53 v hF x.1 x.2
 have e0:hO v.F x.1 x.2=0:=by unfold bE at h0;rw[aO hx]at h0;exact h0
 rw[e0]at e
 unfold qY
 dsimp only
 (sym=>(simp[Za,Zb,Zc,Zf,Zg,Zh,Zj,Zl,Zm,Zv,Zw,Z3,Z9,ZA,ZH,ZL,ZM,ZP,ZQ,ZU,ZV,Yi,Yj,Yl,Yt,Yu,Yy,Yz,YA,YC,YF,YQ,YX,YZ,Xb,Xd,Xi,Xr,Xt,Xv,Xx,Ws,Wz,W0,W3,W4,W5,W6,W7,W8,WA,WB,WF,WG,WI,WJ,WK,WL,WM,WN,WO,WP,WQ,WR,WS,WT,WW,WX,Vd,Vg,Vh,Vi,Vu,Vw,Vx,Vz,V0,V2,VP,VQ,VR,VS,VT,VU,VY,VZ,Ua,Ub,Uc,Ue,Uf,Ug,Uh,Ui,Uj,Ul,Uo,Ut,Uw,Ux,U1,U2,U3,U4,U5,U6,U7,UE,Td,Te,Tf,Tg,Th,Ti,Tj,Tk,Ts,Tt,Tv,Tx,Ty,T1,T5,T6,T7,TK,SB,SC,SD,SF,SG,SI,a1,a2,hx,e];all_goals tactic=>exact rfl))
theorem aKy (v:Va) (hF:1≤v.F∧v.F≤16) {i:Nat} (hi:i<v.bs.length) (h0:bE v i≠0):∃ e h,
 execW aA 23 0 none (match qY with | .loop _ a=>a|c=>c) (aV [1,22,23,24] [.pt 0 0,rB v.bs,I v.bs.length,I (i:Nat)]) (bx v)=some (.ret,e,h)∧bU none x23.res x23.ownR 0 (some (.ret,e,h))=some (I (bE v i),[]):=by
 obtain⟨x,hx⟩:=bC hi
 have a1:=dC hi
 have e:=w53 v hF x.1 x.2
 have e0:hO v.F x.1 x.2=bE v i:=by unfold bE;rw[aO hx]
 have n0:=aKk h0
 rw[e0]at e
 refine dX ?_ ?_
 ·unfold qY
  dsimp only
  (sym=>(simp[Za,Zb,Zc,Zf,Zg,Zh,Zj,Zl,Zm,Zv,Zw,Z3,Z9,ZA,ZH,ZL,ZM,ZP,ZQ,ZU,ZV,Yi,Yj,Yt,Yu,Yy,Yz,YA,YC,YF,YQ,YX,YZ,Xb,Xi,Xr,Xt,Xv,Ws,Wz,W0,W3,W4,W5,W6,W7,W8,WA,WI,WL,WN,WS,WT,Vg,Vh,Vi,Vu,Vw,Vx,Vz,V0,V2,VP,VS,VT,VW,VY,VZ,Ua,Ub,Uc,Uf,Ug,Uh,Ui,Uj,Ul,Uq,Ut,Ux,Uy,U1,U2,U3,U4,U5,U6,U7,UE,Td,Te,Tf,Tg,Th,Ti,Tj,Tk,Ts,Tt,Tu,Tv,Tx,Ty,T0,T2,T6,T7,SB,SC,SD,SF,SG,SI,a1,hx,e,n0];all_goals tactic=>exact rfl))
 ·unfold qY
  dsimp only
  (sym=>(simp[Za,Zb,Zc,Zf,Zg,Zh,Zj,Zl,Zm,Zv,Zw,Z3,Z9,ZA,ZH,ZL,ZM,ZP,ZQ,ZU,ZV,Yi,Yj,Yt,Yu,Yy,Yz,YA,YC,YF,YQ,YX,YZ,Xb,Xi,Xr,Xt,Xv,Ws,Wz,W0,W3,W4,W5,W6,W7,W8,WA,WI,WL,WN,WS,WT,Vg,Vh,Vi,Vu,Vw,Vx,Vz,V0,V2,V8,VE,VP,VS,VT,VY,VZ,Ua,Ub,Uc,Uf,Ug,Uh,Ui,Uj,Ul,Uq,Ut,Ux,Uy,U1,U2,U3,U4,U5,U6,U7,UE,Td,Te,Tf,Tg,Th,Ti,Tj,Tk,Ts,Tt,Tu,Tv,Tx,Ty,T0,T2,T6,T7,SB,SC,SD,SF,SG,SI,a1,hx,e,n0];all_goals tactic=>exact rfl))
theorem rQ (v:Va) {i:Nat} {p:Int×Int×Int} (hp:v.ps[i]?=some p):(hO v.F p.2.1 p.2.2≠0∧pE v i=hO v.F p.2.1 p.2.2)∨(hO v.F p.2.1 p.2.2=0∧btw 0 p.1 100=true∧pE v i=0)∨(hO v.F p.2.1 p.2.2=0∧btw 0 p.1 100=false∧pE v i=2):=by
 unfold pE
 rw[aO hp]
 by_cases h:hO v.F p.2.1 p.2.2=0
 ·cases h2:btw 0 p.1 100<;>simp[h]
 ·simp[h]
theorem aBQ (v:Va) (hF:1≤v.F∧v.F≤16) (hb:v.ps.length<1000000000) {i:Nat} (hi:i<v.ps.length) (h0:pE v i=0) :
 aS 0 [1,43,44,45] (execW aA 23 0 none (match pP with | .loop _ a=>a|c=>c) (aV [1,43,44,45] [.pt 0 0,rP v.ps,I v.ps.length,I (i:Nat)]) (bx v))=some ([.pt 0 0,rP v.ps,I v.ps.length,I (i+1:Nat)],bx v):=by
 obtain⟨x,hx⟩:=bC hi
 have a1:=dC hi
 have a2:=dN hi (by omega)
 have e:=w53 v hF x.2.1 x.2.2
 have e2:=w45 0 x.1 100
 rcases rQ v hx with ⟨h1,h2⟩|⟨h1,h2,_⟩|⟨h1,h2,h3⟩
 ·exact absurd (h2.symm.trans h0) h1
 ·rw[h1]at e
  rw[h2]at e2
  unfold pP
  dsimp only
  (sym=>(simp[Za,Zb,Zc,Zf,Zg,Zh,Zj,Zl,Zm,Zv,Zw,Z3,Z5,Z8,ZA,ZH,ZL,ZM,ZP,ZQ,ZU,ZV,ZZ,Yc,Yi,Yj,Yl,Yt,Yu,Yy,Yz,YX,YZ,Xb,Xd,Xi,Xr,Xs,Xt,Xv,Xx,Ws,Wz,W0,W3,W4,W5,W6,W7,W8,WA,WB,WF,WG,WI,WJ,WK,WL,WM,WN,WO,WP,WQ,WR,WS,WT,WW,WX,Vd,Vg,Vh,Vi,Vu,Vw,Vx,Vz,V0,V2,VP,VQ,VR,VS,VT,VU,VY,VZ,Ua,Ub,Uc,Ue,Uf,Ug,Uh,Ui,Uj,Ul,Uo,Ut,Uw,Ux,U1,U2,U3,U4,U5,U6,U7,UE,Td,Te,Tf,Tg,Th,Ti,Tj,Tk,Ts,Tt,Tv,Tx,Ty,T1,T5,T6,T7,TK,SB,SC,SD,SF,SG,SI,a1,a2,hx,e,e2];all_goals tactic=>exact rfl))
 ·rw[h0]at h3;simp at h3
theorem aKx (v:Va) (hF:1≤v.F∧v.F≤16) {i:Nat} (hi:i<v.ps.length) (h0:pE v i≠0):∃ e h,
 execW aA 23 0 none (match pP with | .loop _ a=>a|c=>c) (aV [1,43,44,45] [.pt 0 0,rP v.ps,I v.ps.length,I (i:Nat)]) (bx v)=some (.ret,e,h)∧bU none x23.res x23.ownR 0 (some (.ret,e,h))=some (I (pE v i),[]):=by
 obtain⟨x,hx⟩:=bC hi
 have a1:=dC hi
 have e:=w53 v hF x.2.1 x.2.2
 have e2:=w45 0 x.1 100
 rcases rQ v hx with ⟨h1,h2⟩|⟨h1,h2,h3⟩|⟨h1,h2,h3⟩
 ·have n0:=aKk h1
  rw[h2]
  generalize hO v.F x.2.1 x.2.2=er at *
  refine dX ?_ ?_
  ·unfold pP
   dsimp only
   (sym=>(simp[Za,Zb,Zc,Zf,Zg,Zh,Zj,Zl,Zm,Zv,Zw,Z3,Z8,ZA,ZH,ZL,ZM,ZP,ZQ,ZU,ZV,Yc,Yi,Yj,Yt,Yu,Yy,Yz,YX,YZ,Xb,Xi,Xr,Xt,Xv,Ws,Wz,W0,W3,W4,W5,W6,W7,W8,WA,WI,WL,WN,WS,WT,Vg,Vh,Vi,Vu,Vw,Vx,Vz,V0,V2,VP,VS,VT,VW,VY,VZ,Ua,Ub,Uc,Uf,Ug,Uh,Ui,Uj,Ul,Uq,Ut,Ux,Uy,U1,U2,U3,U4,U5,U6,U7,UE,Td,Te,Tf,Tg,Th,Ti,Tj,Tk,Ts,Tt,Tu,Tv,Tx,Ty,T0,T2,T6,T7,SB,SC,SD,SF,SG,SI,a1,hx,e,n0];all_goals tactic=>exact rfl))
  ·unfold pP
   dsimp only
   (sym=>(simp[Za,Zb,Zc,Zf,Zg,Zh,Zj,Zl,Zm,Zv,Zw,Z3,Z8,ZA,ZH,ZL,ZM,ZP,ZQ,ZU,ZV,Yc,Yi,Yj,Yt,Yu,Yy,Yz,YX,YZ,Xb,Xi,Xr,Xt,Xv,Ws,Wz,W0,W3,W4,W5,W6,W7,W8,WA,WI,WL,WN,WS,WT,Vg,Vh,Vi,Vu,Vw,Vx,Vz,V0,V2,V8,VE,VP,VS,VT,VY,VZ,Ua,Ub,Uc,Uf,Ug,Uh,Ui,Uj,Ul,Uq,Ut,Ux,Uy,U1,U2,U3,U4,U5,U6,U7,UE,Td,Te,Tf,Tg,Th,Ti,Tj,Tk,Ts,Tt,Tu,Tv,Tx,Ty,T0,T2,T6,T7,SB,SC,SD,SF,SG,SI,a1,hx,e,n0];all_goals tactic=>exact rfl))
 ·exact absurd h3 h0
 ·rw[h1]at e
  rw[h2]at e2
  rw[h3]
  refine dX ?_ ?_
  ·unfold pP
   dsimp only
   (sym=>(simp[Za,Zb,Zc,Zf,Zg,Zh,Zj,Zl,Zm,Zv,Zw,Z3,Z5,Z8,ZA,ZH,ZL,ZM,ZP,ZQ,ZU,ZV,ZZ,Yc,Yi,Yj,Yt,Yu,Yy,Yz,YX,YZ,Xb,Xi,Xr,Xs,Xt,Xv,Ws,Wz,W0,W3,W4,W5,W6,W7,W8,WA,WI,WL,WN,WS,WT,Vg,Vh,Vi,Vu,Vw,Vx,Vz,V0,V2,VP,VS,VT,VU,VW,VY,VZ,Ua,Ub,Uc,Uf,Ug,Uh,Ui,Uj,Ul,Uo,Uq,Ut,Ux,U1,U2,U3,U4,U5,U6,U7,UE,Td,Te,Tf,Tg,Th,Ti,Tj,Tk,Ts,Tt,Tu,Tv,Tx,Ty,T0,T2,T6,T7,SB,SC,SD,SF,SG,SI,a1,hx,e,e2];all_goals tactic=>exact rfl))
  ·unfold pP
   dsimp only
   (sym=>(simp[Za,Zb,Zc,Zf,Zg,Zh,Zj,Zl,Zm,Zv,Zw,Z3,Z5,Z8,ZA,ZH,ZL,ZM,ZP,ZQ,ZU,ZV,ZZ,Yc,Yi,Yj,Yt,Yu,Yy,Yz,YX,YZ,Xb,Xi,Xr,Xs,Xt,Xv,Ws,Wz,W0,W3,W4,W5,W6,W7,W8,WA,WI,WL,WN,WS,WT,Vg,Vh,Vi,Vu,Vw,Vx,Vz,V0,V2,V8,VE,VP,VS,VT,VU,VY,VZ,Ua,Ub,Uc,Uf,Ug,Uh,Ui,Uj,Ul,Uo,Uq,Ut,Ux,U1,U2,U3,U4,U5,U6,U7,UE,Td,Te,Tf,Tg,Th,Ti,Tj,Tk,Ts,Tt,Tu,Tv,Tx,Ty,T0,T2,T6,T7,SB,SC,SD,SF,SG,SI,a1,hx,e,e2];all_goals tactic=>exact rfl))
theorem aOe (v:Va) (hF:1≤v.F∧v.F≤16):IntKind.i64.wrap (1*2^min v.F.toNat IntKind.i64.bits)=2^v.F.toNat∧IntKind.i64.wrap (2^v.F.toNat-1)=v.A∧0<v.A∧v.A<65536:=by
 obtain⟨f,hf⟩:∃ f:Nat,v.F=f:=⟨v.F.toNat,by omega⟩
 unfold Va.A
 rw[hf]at hF ⊢
 simp only[Int.toNat_natCast]
 have h1:=jQ bY (i:=f) (by omega)
 have h2:(2:Nat)^f≤2^16:=Nat.pow_le_pow_right (by omega) (by omega)
 have h3:(2:Nat)^1≤2^f:=Nat.pow_le_pow_right (by omega) (by omega)
 have e:(2:Int)^f=((2^f:Nat):Int):=by norm_cast
 rw[h1,e]
 exact⟨rfl,aD (by omega) (by omega),by omega,by omega⟩
theorem aBD (v:Va):(btw 0 v.sick v.A=false∧sE v=2)∨(btw 0 v.sick v.A=true∧btw 0 v.nur v.A=false∧sE v=2)∨(btw 0 v.sick v.A=true∧btw 0 v.nur v.A=true∧btw 0 v.fix v.A=false∧sE v=2) ∨
 (btw 0 v.sick v.A=true∧btw 0 v.nur v.A=true∧btw 0 v.fix v.A=true∧sE v=0):=by
 unfold sE
 cases btw 0 v.sick v.A<;>cases btw 0 v.nur v.A<;>cases btw 0 v.fix v.A<;>simp
abbrev bx3 (v:Va):XH:=[some (.blk true (.cells true v.c)),some (.blk true (.cells true [I v.sick,I v.nur,I v.fix]))]
theorem aHv (v:Va) (hF:1≤v.F∧v.F≤16) {i:Nat} {s:Int} (hs:(i=0∧s=v.sick)∨(i=1∧s=v.nur)∨(i=2∧s=v.fix)) (h0:btw 0 s v.A=true) :
 aS 0 [1,69,70,71] (execW aA 23 0 none (match wM with | .loop _ a=>a|c=>c) (aV [1,69,70,71] [.pt 0 0,.sl 1 0 1 3,I 3,I (i:Nat)]) (bx3 v))=some ([.pt 0 0,.sl 1 0 1 3,I 3,I (i+1:Nat)],bx3 v):=by
 obtain⟨u1,u2,_,_⟩:=aOe v hF
 have e:=w45 0 s v.A
 have n0:(v.F<0)=False:=eq_false (by omega)
 rw[h0]at e
 rcases hs with ⟨rfl,rfl⟩|⟨rfl,rfl⟩|⟨rfl,rfl⟩
 all_goals
  unfold wM
  dsimp only
  (sym=>(simp[Za,Zb,Zf,Zg,Zh,Zj,Zl,Zm,Zv,Z3,Z5,Z8,ZA,ZH,ZP,ZQ,ZU,ZV,ZZ,Yc,Yh,Yl,Ym,Yq,Yu,Y1,Y2,Y3,YA,YB,YC,YD,YE,YF,YH,YX,Xc,Xd,Xr,Xs,Xw,Xx,XJ,We,Wz,W0,W3,W8,WA,WB,WC,WF,WG,WI,WJ,WK,WL,WM,WN,WO,WP,WQ,WR,WS,WT,WW,WX,Vd,Vg,Vh,Vi,Vu,Vw,Vx,Vy,VP,VQ,VR,VS,VT,VU,VY,VZ,Ua,Ub,Uc,Ue,Uf,Ug,Uj,Uo,Ut,Uw,Ux,U1,U2,U3,U4,U5,Td,Te,Ti,Ts,Tt,Tv,Tx,Ty,T1,T5,T6,T7,TK,Su,SB,SC,SE,SF,SG,SI,u1,u2,e,n0];all_goals tactic=>exact rfl))
theorem aKw (v:Va) (hF:1≤v.F∧v.F≤16) {i:Nat} {s:Int} (hs:(i=0∧s=v.sick)∨(i=1∧s=v.nur)∨(i=2∧s=v.fix)) (h0:btw 0 s v.A=false):∃ e h,
 execW aA 23 0 none (match wM with | .loop _ a=>a|c=>c) (aV [1,69,70,71] [.pt 0 0,.sl 1 0 1 3,I 3,I (i:Nat)]) (bx3 v)=some (.ret,e,h)∧bU none x23.res x23.ownR 0 (some (.ret,e,h))=some (I 2,[]):=by
 obtain⟨u1,u2,_,_⟩:=aOe v hF
 have e:=w45 0 s v.A
 have n0:(v.F<0)=False:=eq_false (by omega)
 rw[h0]at e
 rcases hs with ⟨rfl,rfl⟩|⟨rfl,rfl⟩|⟨rfl,rfl⟩
 all_goals
  refine dX ?_ ?_
  ·unfold wM
   dsimp only
   (sym=>(simp[Za,Zb,Zf,Zg,Zh,Zj,Zl,Zm,Zv,Z3,Z5,Z8,ZA,ZH,ZP,ZQ,ZU,ZV,ZZ,Yc,Yh,Ym,Yq,Yu,YA,YB,YC,YD,YE,YF,YH,YX,Xr,Xs,XJ,We,Wz,W0,W3,W8,WA,WI,WL,WN,WS,WT,Vg,Vh,Vi,Vu,Vw,Vx,Vy,VP,VS,VT,VW,VY,VZ,Ub,Uc,Uf,Ug,Uq,Ut,Ux,U1,U2,U3,U4,U5,Td,Te,Ti,Ts,Tt,Tu,Tv,Tx,Ty,T0,T2,T6,T7,Su,SB,SC,SE,SF,SG,SI,u1,u2,e,n0];all_goals tactic=>exact rfl))
  ·unfold wM
   dsimp only
   (sym=>(simp[Za,Zb,Zf,Zg,Zh,Zj,Zl,Zm,Zv,Z3,Z5,Z8,ZA,ZH,ZP,ZQ,ZU,ZV,ZZ,Yc,Yh,Ym,Yq,Yu,YA,YB,YC,YD,YE,YF,YH,YX,Xr,Xs,XJ,We,Wz,W0,W3,W8,WA,WI,WL,WN,WS,WT,Vg,Vh,Vi,Vu,Vw,Vx,Vy,V8,VE,VP,VS,VT,VY,VZ,Ub,Uc,Uf,Ug,Uq,Ut,Ux,U1,U2,U3,U4,U5,Td,Te,Ti,Ts,Tt,Tu,Tv,Tx,Ty,T0,T2,T6,T7,Su,SB,SC,SE,SF,SG,SI,u1,u2,e,n0];all_goals tactic=>exact rfl))
theorem w23 (v:Va) (hb:v.bs.length<1000000000) (hp:v.ps.length<1000000000):runW aA 23 [.agg v.c] []=some (I (vE v),[]):=by
 have e0:=w45 1 v.F 16
 rw[r23 (by simp)];unfold x23;dsimp only
 unfold vE
 cases hF:btw 1 v.F 16
 ·rw[hF]at e0
  rw[if_neg (by simp)]
  (sym=>(simp[Za,Zb,Zf,Zg,Zh,Zj,Zl,Zm,Zo,Zv,Zz,Z5,Z8,ZH,ZP,ZQ,ZU,ZV,ZZ,Yc,YX,Xi,Xk,Xl,Xr,Xs,XJ,We,Wg,Wi,Ws,Wz,W0,W3,W8,W9,WA,WI,WL,WM,WN,WO,WP,WQ,WS,WT,Vg,Vh,Vi,Vu,Vw,Vx,Vz,V0,V2,V8,V9,VB,VC,VD,VE,VF,VI,VJ,VK,VL,VN,VS,VT,VX,VY,VZ,Ub,Uc,Ue,Uf,Ug,Ul,Uq,U1,U2,U3,U4,U5,U6,U7,UC,UD,UN,UO,Td,Te,Ti,Tl,Tt,Tu,Tx,Ty,T0,T2,T6,T7,Su,SB,SC,SD,SF,SG,SI,e0];all_goals tactic=>exact rfl))
 ·rw[hF]at e0
  rw[if_pos rfl]
  have hF':=mU.1 hF
  unfold bsE
  by_cases h60:60<v.bs.length
  ·rw[if_pos h60,if_neg (by decide)]
   have c60:((60:Int)<(v.bs.length:Int))=True:=eq_true (by omega)
   (sym=>(simp[Za,Zb,Zf,Zg,Zh,Zj,Zl,Zm,Zo,Zv,Zz,Z3,Z5,Z8,ZG,ZH,ZP,ZQ,ZU,ZV,ZZ,Yc,Ye,Yw,YX,Xi,Xk,Xl,Xr,Xs,XJ,We,Wg,Wi,Ws,Wz,W0,W3,W8,W9,WA,WI,WL,WM,WN,WO,WP,WQ,WS,WT,Vg,Vh,Vi,Vu,Vw,Vx,Vz,V0,V2,V8,V9,VB,VC,VD,VE,VF,VI,VJ,VK,VL,VN,VS,VT,VU,VY,VZ,Ub,Uc,Ue,Uf,Ug,Uh,Ul,Uo,Ux,U1,U2,U3,U4,U5,U6,U7,UC,UD,UN,UO,Td,Te,Ti,Tl,Ts,Tt,Tu,Tx,Ty,T0,T2,T6,T7,Su,SB,SC,SD,SF,SG,SI,e0,c60];all_goals tactic=>exact rfl))
  ·rw[if_neg h60]
   have g60:((60:Int)<(v.bs.length:Int))=False:=eq_false (by omega)
   have z:=Tc (n:=(v.bs.length:Int))
   obtain⟨m,m1,m2,m3⟩:=dQ (bE v) v.bs.length
   rcases m3 with ⟨rfl,e⟩|⟨m3,m4,e⟩
   ·rw[e, if_pos rfl]
    unfold psE
    by_cases h20:20<v.ps.length
    ·rw[if_pos h20,if_neg (by decide)]
     have c20:((20:Int)<(v.ps.length:Int))=True:=eq_true (by omega)
     sym =>
      simp[Za,Zb,Zf,Zg,Zh,Zj,Zl,Zm,Zo,Zv,Zz,Z3,Z5,Z8,ZG,ZH,ZP,ZQ,ZU,ZV,ZZ,Yc,Ye,Yw,YX,Xi,Xk,Xl,Xr,Xs,We,Wg,Wi,Ws,Wz,W0,W3,W8,W9,WA,WI,WL,WN,WS,WT,Vg,Vh,Vi,Vu,Vw,Vx,Vz,V0,V2,VN,VS,VU,VY,VZ,Ub,Uc,Uf,Ug,Uh,Ul,Uo,Uy,U1,U2,U3,U4,U5,U6,U7,UC,UD,UN,UO,Td,Te,Ti,Tl,Ts,Tt,Tv,Tx,Ty,T1,T6,T7,SB,SC,SD,SF,SG,SI,e0,g60]
      tactic =>
       unfold qY
       rw[aE v.bs.length (fun i=>[.pt 0 0,rB v.bs,I v.bs.length,I (i:Nat)]) (fun _=>bx v)]
       ·(sym=>(simp[Za,Zb,Zf,Zh,Zl,Zm,Zv,Z3,Z8,ZG,ZH,Yc,Ye,Yu,Yw,YX,Xr,XJ,We,Wz,W0,W3,WA,WI,WM,WO,WP,WQ,Vu,V8,V9,VB,VC,VD,VE,VF,VI,VJ,VK,VL,VP,VS,VT,VU,VZ,Uc,Ue,Uh,Ux,Uy,U2,U3,Tc,Td,Te,Ti,Ts,Tt,Tu,Tw,Ty,Tz,T0,T4,T6,T7,Su,z,c20];all_goals tactic=>exact rfl))
       ·(sym=>(simp[Za,YB,YX,Xb,Xd,Xr,Xv,Xx,Wz,WB,WF,WG,WI,WJ,WK,WM,WO,WP,WQ,WR,WW,WX,Vd,VQ,VR,VY,VZ,Ub,Uc,Ue,Uj,Uw,U2,U3,U4,U5,T5,TK];all_goals tactic=>exact rfl))
       ·exact fun i hi=>xB v hF' hb hi (m2 i hi)
       ·(sym=>(simp[Za,Zb,Zf,Zh,Zl,Zm,Z3,Yu,VP,VS,VU,VV,Uy,Tc,Ts,Tt,Tw,Ty,Tz,T6,z];all_goals tactic=>exact rfl))
    ·rw[if_neg h20]
     have g20:((20:Int)<(v.ps.length:Int))=False:=eq_false (by omega)
     have z2:=Tc (n:=(v.ps.length:Int))
     obtain⟨k,k1,k2,k3⟩:=dQ (pE v) v.ps.length
     sym =>
      simp[Za,Zb,Zf,Zg,Zh,Zj,Zl,Zm,Zo,Zv,Zz,Z3,Z5,Z8,ZG,ZH,ZP,ZQ,ZU,ZV,ZZ,Yc,Ye,Yw,YX,Xi,Xk,Xl,Xr,Xs,We,Wg,Wi,Ws,Wz,W0,W3,W8,W9,WA,WI,WL,WN,WS,WT,Vg,Vh,Vi,Vu,Vw,Vx,Vz,V0,V2,VN,VS,VU,VX,VY,VZ,Ub,Uc,Uf,Ug,Uh,Ul,Uo,Uy,U1,U2,U3,U4,U5,U6,U7,UC,UD,UN,UO,Td,Te,Ti,Tl,Ts,Tt,Tv,Tx,Ty,T1,T6,T7,SB,SC,SD,SF,SG,SI,e0,g60]
      tactic =>
       unfold qY
       rw[aE v.bs.length (fun i=>[.pt 0 0,rB v.bs,I v.bs.length,I (i:Nat)]) (fun _=>bx v)]
       ·sym =>
        simp[Za,Zb,Zf,Zh,Zl,Zm,Zv,Z3,Z8,ZG,ZH,Yc,Ye,Yu,Yw,Wz,W0,W3,WA,VP,VS,VU,Uh,Uy,Tc,Td,Te,Ti,Ts,Tt,Tv,Tw,Tx,Ty,Tz,T4,T6,T7,z,g20]
        tactic =>
         rcases k3 with ⟨rfl,e3⟩|⟨k3,k4,e3⟩
         ·rw[e3, if_pos rfl]
          unfold pP
          rw[aE v.ps.length (fun i=>[.pt 0 0,rP v.ps,I v.ps.length,I (i:Nat)]) (fun _=>bx v)]
          ·sym =>
           simp[Za,Zb,Zd,Ze,Zf,Zg,Zh,Zj,Zl,Zm,Zo,Zv,Z1,Z3,Z8,ZG,ZH,Yc,Yf,Yu,YH,Xi,Wq,Wz,W0,W3,W5,W7,W8,WA,Vu,Vw,Vx,Vz,V0,V2,VP,VS,VU,VY,VZ,Ua,Ub,Uc,Uf,Ug,Ul,Ut,Uy,Uz,U0,U6,U7,UE,UF,UG,UH,UP,UQ,UR,US,Tc,Td,Te,Ti,Tl,Ts,Tt,Tw,Tx,Ty,Tz,T4,T6,T7,TT,SB,SC,SD,SF,SG,SI,z2]
           tactic =>
            have lf:=fun i s hs h0=>aKw v hF' (i:=i) (s:=s) hs h0
            have rd:=fun i s hs h0=>aHv v hF' (i:=i) (s:=s) hs h0
            unfold wM at lf rd ⊢
            dsimp only at lf rd
            rcases aBD v with ⟨h1,h⟩|⟨h1,h2,h⟩|⟨h1,h2,h3,h⟩|⟨h1,h2,h3,h⟩
            ·rw[h]
             obtain⟨eo,ho,q1,q2⟩:=lf 0 v.sick (by simp) h1
             rw[aE 0 (fun i=>[.pt 0 0,.sl 1 0 1 3,I 3,I (i:Nat)]) (fun _=>bx3 v)]
             ·rw[q1];exact q2
             ·(sym=>(simp[Za,YB,YX,Xc,Xd,Xr,Xw,Xx,Wz,WB,WC,WF,WG,WI,WJ,WK,WM,WO,WP,WQ,WR,WW,WX,Vd,VP,VQ,VR,VY,VZ,Ua,Ub,Uc,Ue,Uj,Uw,U2,U3,U4,U5,T5,TK];all_goals tactic=>exact rfl))
             ·intro i hi;omega
             ·rw[q1];rfl
            ·rw[h]
             obtain⟨eo,ho,q1,q2⟩:=lf 1 v.nur (by simp) h2
             rw[aE 1 (fun i=>[.pt 0 0,.sl 1 0 1 3,I 3,I (i:Nat)]) (fun _=>bx3 v)]
             ·rw[q1];exact q2
             ·(sym=>(simp[Za,YB,YX,Xc,Xd,Xr,Xw,Xx,Wz,WB,WC,WF,WG,WI,WJ,WK,WM,WO,WP,WQ,WR,WW,WX,Vd,VP,VQ,VR,VY,VZ,Ua,Ub,Uc,Ue,Uj,Uw,U2,U3,U4,U5,T5,TK];all_goals tactic=>exact rfl))
             ·intro i hi
              obtain rfl:i=0:=by omega
              exact rd 0 v.sick (by simp) h1
             ·rw[q1];rfl
            ·rw[h]
             obtain⟨eo,ho,q1,q2⟩:=lf 2 v.fix (by simp) h3
             rw[aE 2 (fun i=>[.pt 0 0,.sl 1 0 1 3,I 3,I (i:Nat)]) (fun _=>bx3 v)]
             ·rw[q1];exact q2
             ·(sym=>(simp[Za,YB,YX,Xc,Xd,Xr,Xw,Xx,Wz,WB,WC,WF,WG,WI,WJ,WK,WM,WO,WP,WQ,WR,WW,WX,Vd,VP,VQ,VR,VY,VZ,Ua,Ub,Uc,Ue,Uj,Uw,U2,U3,U4,U5,T5,TK];all_goals tactic=>exact rfl))
             ·intro i hi
              have:i=0∨i=1:=by omega
              rcases this with rfl|rfl
              ·exact rd 0 v.sick (by simp) h1
              ·exact rd 1 v.nur (by simp) h2
             ·rw[q1];rfl
            ·rw[h]
             rw[aE 3 (fun i=>[.pt 0 0,.sl 1 0 1 3,I 3,I (i:Nat)]) (fun _=>bx3 v)]
             ·(sym=>(simp[Za,Zb,Zf,Zh,Zl,Zm,Zv,Z3,Yu,YH,YX,Xr,XJ,We,WI,WM,WO,WP,WQ,Vu,V8,V9,VB,VC,VD,VE,VF,VI,VJ,VK,VL,VP,VS,VU,VZ,Uc,Ue,Uy,U2,U3,Ts,Tt,Tu,Tw,Ty,Tz,T4,T6,T7,Su];all_goals tactic=>exact rfl))
             ·(sym=>(simp[Za,YB,YX,Xc,Xd,Xr,Xw,Xx,Wz,WB,WC,WF,WG,WI,WJ,WK,WM,WO,WP,WQ,WR,WW,WX,Vd,VP,VQ,VR,VY,VZ,Ua,Ub,Uc,Ue,Uj,Uw,U2,U3,U4,U5,T5,TK];all_goals tactic=>exact rfl))
             ·intro i hi
              have:i=0∨i=1∨i=2:=by omega
              rcases this with rfl|rfl|rfl
              ·exact rd 0 v.sick (by simp) h1
              ·exact rd 1 v.nur (by simp) h2
              ·exact rd 2 v.fix (by simp) h3
             ·(sym=>(simp[Za,Zb,Zf,Zh,Zl,Zm,Z3,Yu,YH,VP,VS,VU,VV,Uy,Ts,Tt,Tw,Ty,Tz,T6];all_goals tactic=>exact rfl))
          ·(sym=>(simp[Za,YB,YX,Xb,Xd,Xr,Xv,Xx,Wz,WB,WF,WG,WI,WJ,WK,WM,WO,WP,WQ,WR,WW,WX,Vd,VP,VQ,VR,VY,VZ,Ub,Uc,Ue,Uj,Uw,U2,U3,U4,U5,T5,TK];all_goals tactic=>exact rfl))
          ·exact fun i hi=>aBQ v hF' hp hi (k2 i hi)
          ·(sym=>(simp[Za,Zb,Zf,Zh,Zl,Zm,Z3,Yu,VP,VS,VU,VV,Uy,Tc,Ts,Tt,Tw,Ty,Tz,T6,z2];all_goals tactic=>exact rfl))
         ·rw[e3,if_neg k4]
          obtain⟨eo,ho,q1,q2⟩:=aKx v hF' k3 k4
          unfold pP at q1 ⊢
          rw[aE k (fun i=>[.pt 0 0,rP v.ps,I v.ps.length,I (i:Nat)]) (fun _=>bx v)]
          ·dsimp only at q1;rw[q1];exact q2
          ·(sym=>(simp[Za,YB,YX,Xb,Xd,Xr,Xv,Xx,Wz,WB,WF,WG,WI,WJ,WK,WM,WO,WP,WQ,WR,WW,WX,Vd,VP,VQ,VR,VY,VZ,Ub,Uc,Ue,Uj,Uw,U2,U3,U4,U5,T5,TK];all_goals tactic=>exact rfl))
          ·exact fun i hi=>aBQ v hF' hp (by omega) (k2 i hi)
          ·dsimp only at q1;rw[q1];rfl
       ·(sym=>(simp[Za,YB,YX,Xb,Xd,Xr,Xv,Xx,Wz,WB,WF,WG,WI,WJ,WK,WM,WO,WP,WQ,WR,WW,WX,Vd,VQ,VR,VY,VZ,Ub,Uc,Ue,Uj,Uw,U2,U3,U4,U5,T5,TK];all_goals tactic=>exact rfl))
       ·exact fun i hi=>xB v hF' hb hi (m2 i hi)
       ·(sym=>(simp[Za,Zb,Zf,Zh,Zl,Zm,Z3,Yu,VP,VS,VU,VV,Uy,Tc,Ts,Tt,Tw,Ty,Tz,T6,z];all_goals tactic=>exact rfl))
   ·rw[e,if_neg m4]
    obtain⟨eo,ho,q1,q2⟩:=aKy v hF' m3 m4
    sym =>
     simp[Za,Zb,Zf,Zg,Zh,Zj,Zl,Zm,Zo,Zv,Zz,Z3,Z5,Z8,ZG,ZH,ZP,ZQ,ZU,ZV,ZZ,Yc,Ye,Yw,YX,Xi,Xk,Xl,Xr,Xs,We,Wg,Wi,Ws,Wz,W0,W3,W8,W9,WA,WI,WL,WN,WS,WT,Vg,Vh,Vi,Vu,Vw,Vx,Vz,V0,V2,VN,VS,VU,VX,VY,VZ,Ub,Uc,Uf,Ug,Uh,Ul,Uo,Uy,U1,U2,U3,U4,U5,U6,U7,UC,UD,UN,UO,Td,Te,Ti,Tl,Ts,Tt,Tv,Tx,Ty,T1,T6,T7,SB,SC,SD,SF,SG,SI,e0,g60]
     tactic =>
      unfold qY at q1 ⊢
      rw[aE m (fun i=>[.pt 0 0,rB v.bs,I v.bs.length,I (i:Nat)]) (fun _=>bx v)]
      ·dsimp only at q1;rw[q1];exact q2
      ·(sym=>(simp[Za,YB,YX,Xb,Xd,Xr,Xv,Xx,Wz,WB,WF,WG,WI,WJ,WK,WM,WO,WP,WQ,WR,WW,WX,Vd,VQ,VR,VY,VZ,Ub,Uc,Ue,Uj,Uw,U2,U3,U4,U5,T5,TK];all_goals tactic=>exact rfl))
      ·exact fun i hi=>xB v hF' hb (by omega) (m2 i hi)
      ·dsimp only at q1;rw[q1];rfl
structure Vn where
 F:Nat
 bs:List (Nat×Nat)
 ps:List (Nat×Nat×Nat)
 sick:Nat
 nur:Nat
 fix:Nat
abbrev bI (b:Nat×Nat):Int×Int:=(b.1,b.2)
abbrev pI (p:Nat×Nat×Nat):Int×Int×Int:=(p.1,p.2.1,p.2.2)
def Vn.v (x:Vn):Va:=⟨x.F,x.bs.map bI,x.ps.map pI,x.sick,x.nur,x.fix⟩
structure Vn.Ok (x:Vn):Prop where
 F1:1≤x.F
 F16:x.F≤16
 nb:x.bs.length≤60
 np:x.ps.length≤20
 b:∀ p∈x.bs,p.1<x.F∧p.2<x.F∧p.1≠p.2
 p:∀ p∈x.ps,p.1≤100∧p.2.1<x.F∧p.2.2<x.F∧p.2.1≠p.2.2
 s:x.sick<2^x.F
 n:x.nur<2^x.F
 f:x.fix<2^x.F
theorem vR {F a b:Int}:hO F a b=0↔(0≤a∧a<F)∧(0≤b∧b<F)∧a≠b:=by
 rcases uQ F a b with ⟨h1,h⟩|⟨h1,h2,h⟩|⟨h1,h2,h3,h⟩|⟨h1,h2,h3,h⟩
 ·rw[h];simp[btw]at h1;constructor
  ·intro h;simp at h
  ·intro h;have:=h1 h.1.1;omega
 ·rw[h];simp[btw]at h2;constructor
  ·intro h;simp at h
  ·intro h;have:=h2 h.2.1.1;omega
 ·rw[h];constructor
  ·intro h;simp at h
  ·intro h;exact absurd (of_eq_true h3) h.2.2
 ·rw[h]
  have g1:=mU.1 h1
  have g2:=mU.1 h2
  have g3:=of_eq_false h3
  simp only[true_iff]
  exact⟨by omega,by omega,g3⟩
theorem wE {α β:Type} (f:α→β) (P:β→Prop) (hf:∀ b,P b→∃ a,f a=b):∀ l:List β,(∀ x∈l,P x)→∃ k:List α,k.map f=l
 | [],_=>⟨[],rfl⟩
 | x::l,h=>by
   obtain⟨a,ha⟩:=hf x (h x (by simp))
   obtain⟨k,hk⟩:=wE f P hf l fun y hy=>h y (by simp[hy])
   exact⟨a::k,by simp[ha,hk]⟩
theorem aOA {v:Va} (h:vE v=0):∃ x:Vn,x.Ok∧v=x.v:=by
 unfold vE at h
 cases hF:btw 1 v.F 16
 ·rw[hF]at h;simp at h
 rw[hF,if_pos rfl]at h
 have hF':=mU.1 hF
 by_cases hb:bsE v=0
 ·rw[if_pos hb]at h
  by_cases hp:psE v=0
  ·rw[if_pos hp]at h
   unfold bsE at hb
   unfold psE at hp
   by_cases h60:60<v.bs.length
   ·rw[if_pos h60]at hb;simp at hb
   rw[if_neg h60]at hb
   by_cases h20:20<v.ps.length
   ·rw[if_pos h20]at hp;simp at hp
   rw[if_neg h20]at hp
   have hb':∀ b∈v.bs,(0≤b.1∧b.1<v.F)∧(0≤b.2∧b.2<v.F)∧b.1≠b.2:=fun b hm=>by
    obtain⟨i,hi⟩:=List.getElem?_of_mem hm
    have:=eE hb i (dB hi)
    unfold bE at this
    rw[aO hi]at this
    exact vR.1 this
   have hp':∀ p∈v.ps,(0≤p.1∧p.1≤100)∧(0≤p.2.1∧p.2.1<v.F)∧(0≤p.2.2∧p.2.2<v.F)∧p.2.1≠p.2.2:=fun p hm=>by
    obtain⟨i,hi⟩:=List.getElem?_of_mem hm
    have:=eE hp i (dB hi)
    rcases rQ v hi with ⟨g1,g2⟩|⟨g1,g2,_⟩|⟨g1,g2,g3⟩
    ·exact absurd (g2.symm.trans this) g1
    ·exact⟨mU.1 g2,vR.1 g1⟩
    ·rw[g3]at this;simp at this
   obtain⟨bs,hbs⟩:=wE bI (fun b=>0≤b.1∧0≤b.2) (fun b hh=>⟨(b.1.toNat,b.2.toNat),by
    obtain⟨b1,b2⟩:=b
    simp only[bI,Prod.mk.injEq]at hh ⊢
    omega⟩) v.bs fun b hm=>⟨(hb' b hm).1.1,(hb' b hm).2.1.1⟩
   obtain⟨ps,hps⟩:=wE pI (fun p=>0≤p.1∧0≤p.2.1∧0≤p.2.2) (fun p hh=>⟨(p.1.toNat,p.2.1.toNat,p.2.2.toNat),by
    obtain⟨p1,p2,p3⟩:=p
    simp only[pI,Prod.mk.injEq]at hh ⊢
    omega⟩) v.ps fun p hm=>⟨(hp' p hm).1.1,(hp' p hm).2.1.1,(hp' p hm).2.2.1.1⟩
   obtain⟨f,hf⟩:∃ f:Nat,v.F=f:=⟨v.F.toNat,by omega⟩
   have hA:v.A=((2^f-1:Nat):Int):=by
    unfold Va.A
    rw[hf]
    simp only[Int.toNat_natCast]
    have e:(2:Int)^f=((2^f:Nat):Int):=by norm_cast
    have:=Nat.two_pow_pos f
    rw[e];omega
   rcases aBD v with ⟨h1,hs⟩|⟨h1,h2,hs⟩|⟨h1,h2,h3,hs⟩|⟨h1,h2,h3,hs⟩
   ·rw[hs]at h;simp at h
   ·rw[hs]at h;simp at h
   ·rw[hs]at h;simp at h
   have g1:=mU.1 h1
   have g2:=mU.1 h2
   have g3:=mU.1 h3
   rw[hA]at g1 g2 g3
   have:=Nat.two_pow_pos f
   refine⟨⟨f,bs,ps,v.sick.toNat,v.nur.toNat,v.fix.toNat⟩,⟨by show 1≤f;omega,by show f≤16;omega,?_,?_,?_,?_,by show v.sick.toNat<2^f;omega,by show v.nur.toNat<2^f;omega,by show v.fix.toNat<2^f;omega⟩,?_⟩
   ·have:=congrArg List.length hbs
    simp only[List.length_map]at this
    show bs.length≤60
    omega
   ·have:=congrArg List.length hps
    simp only[List.length_map]at this
    show ps.length≤20
    omega
   ·intro b hm
    have:=hb' (bI b) (by rw[←hbs];exact List.mem_map_of_mem hm)
    rw[hf]at this
    simp only[bI]at this
    show b.1<f∧b.2<f∧b.1≠b.2
    omega
   ·intro p hm
    have:=hp' (pI p) (by rw[←hps];exact List.mem_map_of_mem hm)
    rw[hf]at this
    simp only[pI]at this
    show p.1≤100∧p.2.1<f∧p.2.2<f∧p.2.1≠p.2.2
    omega
   ·obtain⟨F,vb,vp,s,n,x⟩:=v
    simp only[Vn.v]at *
    rw[hbs,hps,hf]
    simp only[Va.mk.injEq,true_and]
    omega
  ·rw[if_neg hp]at h;exact absurd h hp
 ·rw[if_neg hb]at h;exact absurd h hb
abbrev Vn.c (x:Vn):List AV:=[I x.F,rB (x.bs.map bI),rP (x.ps.map pI),I x.sick,I x.nur,I x.fix]
def orB (s:Nat) (c:Bool) (k:Nat):Nat:=if c then s|||2^k else s
def brd (ill o:Nat) (b:Nat×Nat):Nat:=orB (orB o (ill.testBit b.1) b.2) (ill.testBit b.2) b.1
def plt (cl:Nat) (n:Int) (o:Nat) (p:Nat×Nat×Nat):Nat:=orB o (decide ((p.1:Int)=n)&&(o.testBit p.2.1 && !cl.testBit p.2.2)) p.2.2
def bor (x:Vn) (ill:Nat):Nat:=x.bs.foldl (brd ill) ill
def aJE (x:Vn) (ill cl:Nat) (n:Int):Nat:=x.ps.foldl (plt cl n) (eO (bor x ill) cl)
theorem aDf {s k n:Nat} {c:Bool} (hs:s<2^n) (hk:k<n):orB s c k<2^n:=by
 unfold orB
 split
 ·exact uR hs hk
 ·exact hs
theorem aML {ill o n:Nat} {b:Nat×Nat} (ho:o<2^n) (h1:b.1<n) (h2:b.2<n):brd ill o b<2^n:=aDf (aDf ho h2) h1
theorem sD {α:Type} {f:Nat→α→Nat} {n:Nat}:∀ {l:List α} {o:Nat},(∀ x∈l,∀ o,o<2^n→f o x<2^n)→o<2^n→l.foldl f o<2^n
 | [],_,_,h=>h
 | x::l,o,hf,h=>sD (l:=l) (o:=f o x) (fun y hy=>hf y (by simp[hy])) (hf x (by simp) o h)
theorem iG {α β:Type} {f:β→α→β} {l:List α} {i:Nat} {x:α} (h:l[i]?=some x) (o:β):(l.take (i+1)).foldl f o=f ((l.take i).foldl f o) x:=by
 rw[List.take_add_one,h];simp
theorem aU {n:Nat} (h:n≤16):2^n≤65536:=Nat.pow_le_pow_right (n:=2) (by omega) h
section
variable {x:Vn} (ok:x.Ok) {ill cl:Nat} {n:Int}
abbrev vI (x:Vn):XH:=[some (.blk true (.cells true x.c))]
def bF (x:Vn) (ill i:Nat):Nat:=(x.bs.take i).foldl (brd ill) ill
include ok in
theorem aJb (hi:ill<2^x.F) (i:Nat):bF x ill i<2^x.F:=sD (fun b hb o ho=>by
 have:=ok.b b (List.mem_of_mem_take hb)
 exact aML ho this.1 this.2.1) hi
include ok in
def pF (x:Vn) (cl:Nat) (n:Int) (o i:Nat):Nat:=(x.ps.take i).foldl (plt cl n) o
include ok in
theorem aLl {o:Nat} (ho:o<2^x.F) (i:Nat):pF x cl n o i<2^x.F:=sD (fun p hp o ho=>by
 have:=ok.p p (List.mem_of_mem_take hp)
 exact aDf ho this.2.2.1) ho
include ok in
end
def lY (a i:Nat):List Nat:=(List.range i).filter (a.testBit ·)
theorem aDA (a i:Nat):lY a (i+1)=if a.testBit i then lY a i++[i] else lY a i:=by
 unfold lY
 rw[List.range_succ,List.filter_append]
 cases h:a.testBit i<;>simp[h]
theorem aEX (a i:Nat):(lY a i).length≤i:=by
 have:=List.length_filter_le (fun k=>a.testBit k) (List.range i)
 simpa [lY]using this
theorem aAW (ks:List Nat) (k:Nat):cM (ks++[k])=cM ks++[(k:Int)]:=by simp[cM]
def cG (x:Vn) (cl:Nat):Nat→Nat
 | 0=>eO x.sick cl
 | n+1=>aJE x (cG x cl n) cl (n:Int)
theorem tU {a b n:Nat} (h:a<2^n):eO a b<2^n:=Nat.lt_of_le_of_lt (fS a b) h
theorem aJD {x:Vn} (ok:x.Ok) {ill cl:Nat} {n:Int} (h:ill<2^x.F):aJE x ill cl n<2^x.F:=by
 have h1:=aJb ok h x.bs.length
 have e1:bF x ill x.bs.length=bor x ill:=by unfold bF bor;rw[List.take_length]
 rw[e1]at h1
 have h2:=aLl (cl:=cl) (n:=n) ok (tU (b:=cl) h1) x.ps.length
 unfold pF at h2
 rw[List.take_length]at h2
 exact h2
theorem jS {x:Vn} (ok:x.Ok) (cl:Nat):∀ n,cG x cl n<2^x.F
 | 0=>tU ok.s
 | n+1=>aJD ok (jS ok cl n)
def prC (c:List Int):Nat→Int
 | 0 => -1
 | i+1=>c.getD i 0
def vH (x:Vn) (c:List Int) (i:Nat):Int:=if btw 0 (c.getD i 0) ((x.F:Int)-1) then (if c.getD i 0≤prC c i then 7 else if x.fix.testBit (c.getD i 0).toNat then 23 else 0) else 5
def kC (c:List Int) (i:Nat):Nat:=(c.take i).foldl (fun s f=>s|||2^f.toNat) 0
theorem aEs {c:List Int} {i:Nat} {f:Int} (h:c[i]?=some f):kC c (i+1)=kC c i|||2^f.toNat:=iG h 0
theorem qP (x:Vn) {c:List Int} {i:Nat} {f:Int} (h:c[i]?=some f):(btw 0 f ((x.F:Int)-1)=false∧vH x c i=5)∨(btw 0 f ((x.F:Int)-1)=true∧(f≤prC c i)=True∧vH x c i=7) ∨
 (btw 0 f ((x.F:Int)-1)=true∧(f≤prC c i)=False∧x.fix.testBit f.toNat=true∧vH x c i=23)∨(btw 0 f ((x.F:Int)-1)=true∧(f≤prC c i)=False∧x.fix.testBit f.toNat=false∧vH x c i=0):=by
 unfold vH
 rw[aO h]
 cases btw 0 f ((x.F:Int)-1)
 ·simp
 by_cases h2:f≤prC c i
 ·simp[h2]
 cases x.fix.testBit f.toNat<;>simp[h2]
theorem aLQ {c:List Int} {i:Nat} {f:Int} (h:c[i]?=some f):prC c (i+1)=f:=aO h
theorem aAN {x:Vn} {c:List Int}:∀ i,(∀ j,j<i→vH x c j=0)→i≤c.length→kC c i<2^x.F
 | 0,_,_=>Nat.two_pow_pos _
 | i+1,h,hl=>by
   obtain⟨f,hf⟩:=bC (l:=c) (i:=i) (by omega)
   have ih:=aAN i (fun j hj=>h j (by omega)) (by omega)
   have h0:=h i (by omega)
   rw[aEs hf]
   rcases qP x hf with ⟨_,e⟩|⟨_,_,e⟩|⟨_,_,_,e⟩|⟨h1,_,_,_⟩
   ·rw[e]at h0;simp at h0
   ·rw[e]at h0;simp at h0
   ·rw[e]at h0;simp at h0
   ·have:=mU.1 h1
    exact uR ih (by omega)
section
variable {x:Vn} (ok:x.Ok) {c:List Int} (hc:c.length<1000000000)
include ok hc in
theorem aEy {i:Nat} (hi:i<c.length) (h0:∀ j,j≤i→vH x c j=0) :
 aS 0 [2,7,8,16,17,18] (execW aA 54 0 none (match mW with | .loop _ a=>a|c=>c) (aV [2,7,8,16,17,18] [.pt 0 0,I (kC c i:Nat),I (prC c i),nL c,I c.length,I (i:Nat)]) (vI x))=some ([.pt 0 0,I (kC c (i+1):Nat),I (prC c (i+1)),nL c,I c.length,I (i+1:Nat)],vI x):=by
 obtain⟨f,hf⟩:=bC hi
 have a1:=dC hi
 have a2:=dN hi (by omega)
 have hF:=ok.F16
 have hF1:=ok.F1
 have hp:=aU hF
 have u:IntKind.i64.wrap ((x.F:Int)-1)=(x.F:Int)-1:=aD (by omega) (by omega)
 have e1:=w45 0 f ((x.F:Int)-1)
 have sl:=aAN (x:=x) i (fun j hj=>h0 j (by omega)) (by omega)
 rcases qP x hf with ⟨_,e⟩|⟨_,_,e⟩|⟨_,_,_,e⟩|⟨h1,h2,h3,_⟩
 ·rw[h0 i (by omega)]at e;simp at e
 ·rw[h0 i (by omega)]at e;simp at e
 ·rw[h0 i (by omega)]at e;simp at e
 rw[h1]at e1
 have hb:=mU.1 h1
 rw[aEs hf,aLQ hf]
 obtain⟨k,rfl⟩:∃ k:Nat,f=k:=⟨f.toNat,by omega⟩
 simp only[Int.toNat_natCast]at h3 ⊢
 have e2:=pK (a:=x.fix) (j:=k) (by have:=ok.f;omega) (by omega)
 rw[h3]at e2
 have e3:=w62 (j:=k) (by omega)
 have p1:(2:Nat)^k≤2^16:=Nat.pow_le_pow_right (by omega) (by omega)
 have o1:=dF bY (a:=kC c i) (b:=2^k) (by omega) (by omega)
 generalize kC c i=q at *
 generalize 2^k=q1 at *
 generalize prC c i=pr at *
 unfold mW
 dsimp only
 (sym=>(simp[Za,Zb,Zf,Zg,Zh,Zj,Zl,Zm,Zv,Z3,Z5,Z8,ZA,ZH,ZP,ZQ,ZU,ZV,ZZ,Yc,Yi,Yj,Yl,Ym,Yp,Yu,Yv,Yy,Yz,YX,Xb,Xd,Xr,Xs,Xv,Xx,Wz,W0,W3,W8,WA,WB,WF,WG,WI,WJ,WK,WL,WM,WN,WO,WP,WQ,WR,WS,WT,WW,WX,Vd,Vg,Vh,Vi,Vu,Vw,Vx,Vz,V0,V2,VP,VQ,VR,VS,VT,VU,VY,VZ,Ub,Uc,Ue,Uf,Ug,Uh,Ui,Uj,Uo,Ut,Uw,Ux,Uy,U1,U2,U3,U4,U5,Td,Te,Tf,Tg,Ti,Ts,Tt,Tv,Tx,Ty,T1,T5,T6,T7,TK,SB,SC,SD,SF,SG,SI,a1,a2,hf,u,e1,e2,e3,h2,o1];all_goals tactic=>exact rfl))
include ok in
theorem aMh {i:Nat} (hi:i<c.length) (h0:vH x c i≠0) (q:Nat):∃ e h,
 execW aA 54 0 none (match mW with | .loop _ a=>a|c=>c) (aV [2,7,8,16,17,18] [.pt 0 0,I q,I (prC c i),nL c,I c.length,I (i:Nat)]) (vI x)=some (.ret,e,h)∧bU none x54.res x54.ownR 0 (some (.ret,e,h))=some (.tup [I 0,I (vH x c i)],[]):=by
 obtain⟨f,hf⟩:=bC hi
 have a1:=dC hi
 have hF:=ok.F16
 have hF1:=ok.F1
 have hp:=aU hF
 have u:IntKind.i64.wrap ((x.F:Int)-1)=(x.F:Int)-1:=aD (by omega) (by omega)
 have e1:=w45 0 f ((x.F:Int)-1)
 rcases qP x hf with ⟨h1,e⟩|⟨h1,h2,e⟩|⟨h1,h2,h3,e⟩|⟨h1,h2,h3,e⟩
 ·rw[e];rw[h1]at e1
  refine dX ?_ ?_
  ·unfold mW;dsimp only; (sym=>(simp[Za,Zb,Zf,Zh,Zl,Zm,Zv,Z3,Z5,Z8,ZA,ZH,ZP,ZQ,ZU,ZV,ZZ,Yc,Yi,Yj,Ym,Yu,Yy,Yz,YX,Xr,Xs,Wz,W0,W3,W8,WA,WI,WL,WN,WS,WT,Vg,Vh,Vi,VP,VS,VT,VW,VY,VZ,Ub,Uc,Uf,Ug,Uh,Ui,Uj,Uq,Ut,Ux,U1,U2,U3,U4,U5,Td,Te,Tf,Tg,Ti,Ts,Tt,Tu,Tv,Tx,Ty,T0,T2,T6,T7,a1,hf,u,e1];all_goals tactic=>exact rfl))
  ·unfold mW;dsimp only; (sym=>(simp[Za,Zb,Zf,Zh,Zl,Zm,Zv,Z3,Z5,Z8,ZA,ZH,ZP,ZQ,ZU,ZV,ZZ,Yc,Yi,Yj,Ym,Yu,Yy,Yz,YX,Xr,Xs,Wz,W0,W3,W8,WA,WI,WL,WN,WS,WT,Vg,Vh,Vi,V8,VE,VP,VS,VT,VY,VZ,Ub,Uc,Uf,Ug,Uh,Ui,Uj,Uq,Ut,Ux,U1,U2,U3,U4,U5,Td,Te,Tf,Tg,Ti,Ts,Tt,Tu,Tv,Tx,Ty,T0,T2,T6,T7,a1,hf,u,e1];all_goals tactic=>exact rfl))
 ·rw[e];rw[h1]at e1
  generalize prC c i=pr at *
  refine dX ?_ ?_
  ·unfold mW;dsimp only; (sym=>(simp[Za,Zb,Zf,Zh,Zl,Zm,Zv,Z3,Z5,Z8,ZA,ZH,ZP,ZQ,ZU,ZV,ZZ,Yc,Yi,Yj,Ym,Yu,Yv,Yy,Yz,YX,Xr,Xs,Wz,W0,W3,W8,WA,WI,WL,WN,WS,WT,Vg,Vh,Vi,VP,VS,VT,VU,VW,VY,VZ,Ub,Uc,Uf,Ug,Uh,Ui,Uj,Uo,Ut,Ux,U1,U2,U3,U4,U5,Td,Te,Tf,Tg,Ti,Ts,Tt,Tu,Tv,Tx,Ty,T0,T2,T6,T7,a1,hf,u,e1,h2];all_goals tactic=>exact rfl))
  ·unfold mW;dsimp only; (sym=>(simp[Za,Zb,Zf,Zh,Zl,Zm,Zv,Z3,Z5,Z8,ZA,ZH,ZP,ZQ,ZU,ZV,ZZ,Yc,Yi,Yj,Ym,Yu,Yv,Yy,Yz,YX,Xr,Xs,Wz,W0,W3,W8,WA,WI,WL,WN,WS,WT,Vg,Vh,Vi,V8,VE,VP,VS,VT,VU,VY,VZ,Ub,Uc,Uf,Ug,Uh,Ui,Uj,Uo,Ut,Ux,U1,U2,U3,U4,U5,Td,Te,Tf,Tg,Ti,Ts,Tt,Tu,Tv,Tx,Ty,T0,T2,T6,T7,a1,hf,u,e1,h2];all_goals tactic=>exact rfl))
 ·rw[e];rw[h1]at e1
  have hb:=mU.1 h1
  obtain⟨k,rfl⟩:∃ k:Nat,f=k:=⟨f.toNat,by omega⟩
  simp only[Int.toNat_natCast]at h3
  have e2:=pK (a:=x.fix) (j:=k) (by have:=ok.f;omega) (by omega)
  rw[h3]at e2
  generalize prC c i=pr at *
  refine dX ?_ ?_
  ·unfold mW;dsimp only; (sym=>(simp[Za,Zb,Zf,Zg,Zh,Zj,Zl,Zm,Zv,Z3,Z5,Z8,ZA,ZH,ZP,ZQ,ZU,ZV,ZZ,Yc,Yi,Yj,Ym,Yu,Yv,Yy,Yz,YX,Xr,Xs,Wz,W0,W3,W8,WA,WI,WL,WN,WS,WT,Vg,Vh,Vi,Vu,Vw,Vx,Vz,V0,V2,VP,VS,VT,VU,VW,VY,VZ,Ub,Uc,Uf,Ug,Uh,Ui,Uj,Uo,Ut,Ux,Uy,U1,U2,U3,U4,U5,Td,Te,Tf,Tg,Ti,Ts,Tt,Tu,Tv,Tx,Ty,T0,T2,T6,T7,SB,SC,SD,SF,SG,SI,a1,hf,u,e1,h2,e2];all_goals tactic=>exact rfl))
  ·unfold mW;dsimp only; (sym=>(simp[Za,Zb,Zf,Zg,Zh,Zj,Zl,Zm,Zv,Z3,Z5,Z8,ZA,ZH,ZP,ZQ,ZU,ZV,ZZ,Yc,Yi,Yj,Ym,Yu,Yv,Yy,Yz,YX,Xr,Xs,Wz,W0,W3,W8,WA,WI,WL,WN,WS,WT,Vg,Vh,Vi,Vu,Vw,Vx,Vz,V0,V2,V8,VE,VP,VS,VT,VU,VY,VZ,Ub,Uc,Uf,Ug,Uh,Ui,Uj,Uo,Ut,Ux,Uy,U1,U2,U3,U4,U5,Td,Te,Tf,Tg,Ti,Ts,Tt,Tu,Tv,Tx,Ty,T0,T2,T6,T7,SB,SC,SD,SF,SG,SI,a1,hf,u,e1,h2,e2];all_goals tactic=>exact rfl))
 ·exact absurd e h0
end
abbrev aCw (x:Vn) (c:List Int):Int:=cJ (vH x c) c.length
theorem aOu {x:Vn} (ok:x.Ok) {c:List Int} (hc:c.length<1000000000) (h23:runW aA 23 [.agg x.c] []=some (I 0,[])) :
 runW aA 54 [.agg x.c,nL c] []=some (.tup (if aCw x c=0 then [I (kC c c.length:Nat),I 0] else [I 0,I (aCw x c)]),[]):=by
 have z:=Tc (n:=(c.length:Int))
 have p0:prC c 0 = -1:=rfl
 have s0:kC c 0=0:=rfl
 obtain⟨m,m1,m2,m3⟩:=dQ (vH x c) c.length
 rw[r54 (by simp)];unfold x54;dsimp only
 sym =>
  simp[Za,Zb,Zf,Zg,Zh,Zj,Zl,Zm,Zo,Zv,Zz,Z3,ZG,ZH,ZP,ZQ,ZU,ZV,Ye,Yt,YX,YZ,Xb,Xi,Xk,Xl,Xr,Xt,Xv,We,Wg,Wi,Ws,Wz,W0,W3,W5,W6,W7,W8,W9,WI,WL,WN,WS,WT,Vg,Vh,Vi,Vu,Vw,Vx,Vz,V0,V2,VN,VS,VU,VX,VY,VZ,Ub,Uc,Uf,Ug,Uh,Ul,Uo,Ux,U1,U2,U3,U4,U5,U6,U7,UC,UD,UN,UO,Td,Te,Th,Tl,Ts,Tt,Tv,Tx,Ty,T6,T7,SB,SC,SD,SF,SG,SI,h23]
  tactic =>
   rcases m3 with ⟨rfl,e⟩|⟨m3,m4,e⟩
   ·rw[if_pos e]
    unfold mW
    rw[aE c.length (fun i=>[.pt 0 0,I (kC c i:Nat),I (prC c i),nL c,I c.length,I (i:Nat)]) (fun _=>vI x)]
    ·generalize kC c c.length=q at *
     generalize prC c c.length=pr at *
     (sym=>(simp[Za,Zb,Zf,Zh,Zl,Zm,Zv,Z3,Yu,YX,Xa,Xr,Xu,XJ,XM,We,Wh,WI,WM,WO,WP,WQ,Vu,V8,V9,VB,VC,VD,VE,VH,VI,VJ,VK,VL,VP,VS,VU,VZ,Uc,Ue,Uy,U2,U3,U4,U5,U8,U9,UC,UD,Tc,Ts,Tt,Tu,Tw,Ty,Tz,T4,T6,T7,Su,z];all_goals tactic=>exact rfl))
    ·rw[p0,s0]; (sym=>(simp[Za,YB,YX,Xb,Xd,Xr,Xv,Xx,Wz,WB,WF,WG,WI,WJ,WK,WM,WO,WP,WQ,WR,WW,WX,Vd,VQ,VR,VY,VZ,Ub,Uc,Ue,Uj,Uw,U2,U3,U4,U5,T5,TK];all_goals tactic=>exact rfl))
    ·exact fun i hi=>aEy ok hc hi fun j hj=>m2 j (by omega)
    ·generalize kC c c.length=q at *
     generalize prC c c.length=pr at *
     (sym=>(simp[Za,Zb,Zf,Zh,Zl,Zm,Z3,Yu,VP,VS,VU,VV,Uy,Tc,Ts,Tt,Tw,Ty,Tz,T6,z];all_goals tactic=>exact rfl))
   ·rw[if_neg (by rw[e];exact m4),e]
    obtain⟨eo,ho,q1,q2⟩:=aMh ok m3 m4 (kC c m)
    unfold mW at q1 ⊢
    rw[aE m (fun i=>[.pt 0 0,I (kC c i:Nat),I (prC c i),nL c,I c.length,I (i:Nat)]) (fun _=>vI x)]
    ·dsimp only at q1;rw[q1];exact q2
    ·rw[p0,s0]; (sym=>(simp[Za,YB,YX,Xb,Xd,Xr,Xv,Xx,Wz,WB,WF,WG,WI,WJ,WK,WM,WO,WP,WQ,WR,WW,WX,Vd,VQ,VR,VY,VZ,Ub,Uc,Ue,Uj,Uw,U2,U3,U4,U5,T5,TK];all_goals tactic=>exact rfl))
    ·exact fun i hi=>aEy ok hc (by omega) fun j hj=>m2 j (by omega)
    ·dsimp only at q1;rw[q1];rfl
section
variable {x:Vn} (ok:x.Ok) {c:List Int} (hc:c.length<1000000000)
include ok hc in
end
abbrev aCX (L:List (Nat×Nat)):List (AV×AV):=L.map fun p=>(.nilifc,.agg [I p.1,I p.2])
abbrev chO (L:List (Nat×Nat)):Option XB:=some (.blk true (.map true ((.agg [.agg []],.fp [] 16 0)::aCX L)))
abbrev gS (L:List (Nat×Nat)):XH:=[some (.loop 77 0 [.pt 1 0] .ready),some (.blk false (.cells true [.ch 2])),chO L]
theorem aNJ (L:List (Nat×Nat)):aGh 3 (gS L):=by
 refine⟨fun _=>rfl,fun _ _=>rfl,fun _=>rfl,?_,?_⟩
 ·intro a e h0 h1
  (sym=>(simp[Xd,Xh,Xx,XI,WB,WG,WI,WK,WM,WN,WO,WP,WQ,WW,WX,WY,WZ,Vc,Vd,Ve,Vf,VQ,VR,VY,VZ,Ua,Ub,Uc,Ud,Ue,Uw,U1,U2,U3,U4,U5,T5,Rg,Ri,h0,h1];all_goals tactic=>exact rfl))
 ·intro a
  (sym=>(simp[Za,Xa,Xd,Xu,Xx,XM,Wh,WB,WG,WI,WK,WM,WN,WO,WP,WQ,WW,WX,WY,WZ,Vc,Vd,Ve,Vf,Vu,VB,VC,VD,VY,VZ,Ua,Ub,Uc,Ud,Ue,Uw,U1,U2,U3,U4,U5,U8,UC,Su,Rg,Ri];all_goals tactic=>exact rfl))
theorem yS (v:Nat) (L:List (Nat×Nat)) (hl:L.length<16):Yd (gS L) (gS (L++[(v,0)])) v true:=by
 have b1:(L.length<16)=True:=eq_true hl
 have y:runYW aA (.fn (.yield 0) [] []) [I (v:Nat)] (gS L)=some (.bool true,gS (L++[(v,0)])):=by
  rw[kD (K:=77) (d:=x77) (site:=0) (vs:=[.pt 1 0]) rfl rfl (by rfl) rfl]
  (sym=>(simp[Za,Zb,Zc,Zd,Ze,Zf,Zh,Zl,Zm,Zv,Z0,ZH,ZL,YB,YT,YY,Xd,Xi,Xk,Xs,Xx,Wq,Wz,W0,W3,W4,W5,W7,W8,WA,WB,WG,WI,WK,WM,WN,WO,WP,WQ,WW,WX,WY,WZ,Vc,Vd,Ve,Vf,VA,VD,VP,VY,VZ,Ua,Ub,Uc,Ud,Ue,Uf,Ug,Uh,Ul,Ut,Uw,U1,U2,U3,U4,U5,U6,U7,UE,UF,UG,UH,UL,UM,Td,Te,Ti,Tx,T1,T6,T7,TG,Sa,Sb,Sc,Sd,Sm,Sn,Sp,Sq,SM,SU,SV,Rg,Ri,b1];all_goals tactic=>exact rfl))
 intro a
 (sym=>(simp[Zd,Ze,YB,YX,Xd,Xh,Xr,Xs,Xx,XI,Wz,W4,W7,W8,WA,WB,WC,WE,WF,WH,WI,WJ,WK,WL,WN,WO,WS,WT,WU,WW,WX,WY,WZ,Vd,Ve,Vf,Vg,Vh,Vi,Vj,VY,VZ,Ua,Ub,Uc,Uf,Ug,Uj,Uw,U1,U2,U3,U4,U5,TG,Sl,Rg,Ri,y];all_goals tactic=>exact rfl))
theorem aNC {D:Nat→Option XFn} {K k:Nat} {rd:Option Nat} {L:List Nat} {a:XCode} {e:aG} {h:XH}:execW D K k rd (.loop L a) e h=pT (execW D K k rd a (aV L (yQ k L e h)) (mT k L e h)) (execW D K k rd (.loop L a)):=iU
section
variable {x:Vn} (ok:x.Ok) {ill cl:Nat} {L:List (Nat×Nat)} {sn n:Int}
abbrev h77 (x:Vn) (L:List (Nat×Nat)) (n:Int):XH:=[chO L,some (.blk true (.cells true x.c)),some (.blk false (.cells true [.ch 0])),some (.blk true (.cells true [I n]))]
include ok in
theorem aHb (hill:ill<2^x.F) {i:Nat} (hi:i<x.bs.length) :
 aS 1 [1,4,7,8,10,11,30,31,36,37,38] (execW aA 77 1 none (match aDV with | .loop _ a=>a|c=>c) (aV [1,4,7,8,10,11,30,31,36,37,38] [I cl,.pt 1 0,.pt 2 0,I (bF x ill i:Nat),.pt 3 0,I ill,I sn,I n,rB (x.bs.map bI),I x.bs.length,I (i:Nat)]) (h77 x L n)) =
  some ([I cl,.pt 1 0,.pt 2 0,I (bF x ill (i+1):Nat),.pt 3 0,I ill,I sn,I n,rB (x.bs.map bI),I x.bs.length,I (i+1:Nat)],h77 x L n):=by
 obtain⟨b,hx⟩:=bC hi
 have hb:=ok.b b (List.mem_of_getElem? hx)
 have hF:=ok.F16
 have hp:=aU hF
 have a1:=dC hi
 have a2:=dN hi (by have:=ok.nb;omega)
 have l0:=aJb ok hill i
 have up:bF x ill (i+1)=brd ill (bF x ill i) b:=iG hx ill
 rw[up]
 generalize bF x ill i=o at *
 have e1:=pK (a:=ill) (j:=b.1) (by omega) (by omega)
 have e2:=pK (a:=ill) (j:=b.2) (by omega) (by omega)
 have s1:=w62 (j:=b.1) (by omega)
 have s2:=w62 (j:=b.2) (by omega)
 have p1:(2:Nat)^b.1≤2^16:=Nat.pow_le_pow_right (by omega) (by omega)
 have p2:(2:Nat)^b.2≤2^16:=Nat.pow_le_pow_right (by omega) (by omega)
 have o1:=dF bY (a:=o) (b:=2^b.2) (by omega) (by omega)
 have o1':=uR (a:=o) (i:=b.2) (n:=x.F) (by omega) hb.2.1
 have o2:=dF bY (a:=o|||2^b.2) (b:=2^b.1) (by omega) (by omega)
 have o3:=dF bY (a:=o) (b:=2^b.1) (by omega) (by omega)
 unfold brd orB
 generalize 2^b.1=q1 at *
 generalize 2^b.2=q2 at *
 cases h1:ill.testBit b.1<;>cases h2:ill.testBit b.2
 all_goals
  rw[h1]at e1
  rw[h2]at e2
  unfold aDV aLi
  dsimp only
  (sym=>(simp[Za,Zb,Zc,Zd,Ze,Zf,Zg,Zh,Zj,Zl,Zm,Zv,Zw,Z3,Z9,ZA,ZB,ZH,ZL,ZM,ZP,ZQ,ZU,ZV,Yi,Yj,Yl,Ym,Yp,Yu,Yy,Yz,Y0,Y1,Y2,YA,YC,YF,YQ,YU,YX,YZ,Xb,Xd,Xi,Xr,Xs,Xt,Xv,Xx,XJ,We,Ws,Wz,W0,W3,W4,W5,W6,W7,W8,WA,WB,WC,WF,WG,WI,WJ,WK,WL,WM,WN,WO,WP,WQ,WR,WS,WT,WW,WX,WY,Vc,Vd,Ve,Vg,Vh,Vi,Vu,Vw,Vx,Vy,VP,VQ,VR,VS,VT,VU,VX,VY,VZ,Ua,Ub,Uc,Ud,Ue,Uf,Ug,Uh,Ui,Uj,Ul,Ut,Uw,Ux,Uy,U1,U2,U3,U4,U5,U6,U7,UE,Td,Te,Tf,Tg,Th,Ti,Tj,Tk,Ts,Tt,Tv,Tw,Tx,Ty,Tz,T1,T4,T5,T6,T7,Su,SB,SC,SE,SF,SG,SI,Rg,Ri,a1,a2,hx,e1,e2,s1,s2,o1,o2,o3,aNC];all_goals tactic=>exact rfl))
end
theorem aKN {k cl:Nat} (hk:k<16) (hc:cl<65536):eO (2^k) cl=if cl.testBit k then 0 else 2^k:=by
 apply Nat.eq_of_testBit_eq
 intro i
 rw[bX (by omega),Nat.testBit_two_pow]
 by_cases hi:k=i
 ·subst hi
  cases h:cl.testBit k
  ·simp[Nat.testBit_two_pow];omega
  ·simp
 ·cases h:cl.testBit k
  ·simp[Nat.testBit_two_pow,hi]
  ·simp[hi]
section
variable {x:Vn} (ok:x.Ok) {ill cl:Nat} {L:List (Nat×Nat)} {sn n:Int}
include ok in
theorem aHa {o0:Nat} (ho:o0<2^x.F) (hcl:cl<2^x.F) {i:Nat} (hi:i<x.ps.length) :
 aS 1 [1,4,7,8,10,11,30,31,63,64,65] (execW aA 77 1 none (match zP with | .loop _ a=>a|c=>c) (aV [1,4,7,8,10,11,30,31,63,64,65] [I cl,.pt 1 0,.pt 2 0,I (pF x cl n o0 i:Nat),.pt 3 0,I ill,I sn,I n,rP (x.ps.map pI),I x.ps.length,I (i:Nat)]) (h77 x L n)) =
  some ([I cl,.pt 1 0,.pt 2 0,I (pF x cl n o0 (i+1):Nat),.pt 3 0,I ill,I sn,I n,rP (x.ps.map pI),I x.ps.length,I (i+1:Nat)],h77 x L n):=by
 obtain⟨p,hx⟩:=bC hi
 have hb:=ok.p p (List.mem_of_getElem? hx)
 have hF:=ok.F16
 have hp:=aU hF
 have a1:=dC hi
 have a2:=dN hi (by have:=ok.np;omega)
 have l0:=aLl (cl:=cl) (n:=n) ok ho i
 have up:pF x cl n o0 (i+1)=plt cl n (pF x cl n o0 i) p:=iG hx o0
 rw[up]
 generalize pF x cl n o0 i=o at *
 have e1:=pK (a:=o) (j:=p.2.1) (by omega) (by omega)
 have s1:=w62 (j:=p.2.2) (by omega)
 have p1:(2:Nat)^p.2.2≤2^16:=Nat.pow_le_pow_right (by omega) (by omega)
 have d0:=aKN (k:=p.2.2) (cl:=cl) (by omega) (by omega)
 have d1:=iI bY (a:=2^p.2.2) (b:=cl) (by omega) (by omega)
 rw[d0]at d1
 have o1:=dF bY (a:=o) (b:=2^p.2.2) (by omega) (by omega)
 have o2:=dF bY (a:=o) (b:=0) (by omega) (by omega)
 rw[Nat.or_zero]at o2
 have o2:cD .or .i64 (o:Int) 0=(o:Int):=o2
 unfold plt orB
 generalize 2^p.2.2=q1 at *
 by_cases hn:(p.1:Int)=n
 ·have c1:((p.1:Int)=n)=True:=eq_true hn
  have g1:decide ((p.1:Int)=n)=true:=decide_eq_true hn
  rw[g1]
  cases h1:o.testBit p.2.1
  ·rw[h1]at e1
   unfold zP
   dsimp only
   (sym=>(simp[Za,Zb,Zc,Zd,Ze,Zf,Zg,Zh,Zj,Zl,Zm,Zp,Zq,Zv,Zw,Zy,Z3,Z8,ZA,ZH,ZL,ZM,ZP,ZQ,ZU,ZV,ZW,Yc,Yi,Yj,Yl,Ys,Yu,Yy,Yz,YX,Xb,Xd,Xi,Xr,Xs,Xv,Xx,Ws,Wz,W0,W3,W4,W5,W6,W7,W8,WA,WB,WC,WF,WG,WI,WJ,WK,WL,WM,WN,WO,WP,WQ,WR,WS,WT,WW,WX,WY,Vc,Vd,Ve,Vg,Vh,Vi,Vu,Vw,Vx,Vz,V0,V2,VP,VQ,VR,VS,VT,VU,VX,VY,VZ,Ua,Ub,Uc,Ud,Ue,Uf,Ug,Uh,Ui,Uj,Ul,Um,Un,Ut,Uw,Ux,U1,U2,U3,U4,U5,U6,U7,UE,Td,Te,Tf,Tg,Th,Ti,Tj,Tk,Ts,Tt,Tv,Tx,Ty,T1,T5,T6,T7,SB,SC,SD,SF,SG,SI,Rg,Ri,a1,a2,hx,e1,c1];all_goals tactic=>exact rfl))
  ·rw[h1]at e1
   cases h2:cl.testBit p.2.2
   all_goals
    rw[h2]at d1
    unfold zP
    dsimp only
    (sym=>(simp[Za,Zb,Zc,Zd,Ze,Zf,Zg,Zh,Zj,Zl,Zm,Zp,Zq,Zv,Zw,Zy,Z3,Z8,ZA,ZH,ZL,ZM,ZP,ZQ,ZU,ZV,ZW,Yc,Yi,Yj,Yl,Yp,Ys,Yu,Yy,Yz,YB,YX,Xb,Xd,Xi,Xr,Xs,Xv,Xx,Ws,Wz,W0,W3,W4,W5,W6,W7,W8,WA,WB,WC,WF,WG,WI,WJ,WK,WL,WM,WN,WO,WP,WQ,WR,WS,WT,WW,WX,WY,Vc,Vd,Ve,Vg,Vh,Vi,Vu,Vw,Vx,Vz,V0,V2,VP,VQ,VR,VS,VT,VX,VY,VZ,Ua,Ub,Uc,Ud,Ue,Uf,Ug,Uh,Ui,Uj,Ul,Un,Uo,Uq,Ut,Uw,Ux,U1,U2,U3,U4,U5,U6,U7,UE,Td,Te,Tf,Tg,Th,Ti,Tj,Tk,Ts,Tt,Tv,Tx,Ty,T1,T5,T6,T7,SA,SB,SC,SD,SF,SG,SI,Rg,Ri,a1,a2,hx,e1,c1,s1,d1,o1,o2];all_goals tactic=>exact rfl))
 ·have c1:((p.1:Int)=n)=False:=eq_false hn
  have g1:decide ((p.1:Int)=n)=false:=decide_eq_false hn
  rw[g1]
  unfold zP
  dsimp only
  (sym=>(simp[Za,Zb,Zc,Zd,Ze,Zf,Zg,Zh,Zj,Zl,Zm,Zp,Zs,Zv,Zw,Zy,Z3,Z8,ZA,ZH,ZL,ZM,ZX,Yc,Yi,Yj,Yl,Ys,Yu,Yy,Yz,YX,Xb,Xd,Xi,Xr,Xv,Xx,Ws,Wz,W0,W3,W4,W5,W6,W7,W8,WA,WB,WC,WF,WG,WI,WJ,WK,WM,WO,WP,WQ,WR,WW,WX,WY,Vc,Vd,Ve,Vu,Vw,Vx,Vz,V0,V2,VP,VQ,VR,VS,VT,VU,VX,VY,VZ,Ua,Ub,Uc,Ud,Ue,Uf,Ug,Uh,Ui,Uj,Ul,Um,Ut,Uw,Ux,Uy,U2,U3,U4,U5,U6,U7,UE,Td,Te,Tf,Tg,Th,Ti,Tj,Tk,Ts,Tt,Tv,Tx,Ty,T1,T5,T6,T7,SB,SC,SD,SF,SG,SI,Rg,Ri,a1,a2,hx,c1];all_goals tactic=>exact rfl))
end
abbrev gT (n:Nat) (L:List (Nat×Nat)):XH:=[some (.loop 77 1 [.pt 1 0,.pt 3 0] .ready),some (.blk false (.cells true [.ch 2])),chO L,some (.blk true (.cells true [I n]))]
theorem aNI (n:Nat) (L:List (Nat×Nat)):aGh 4 (gT n L):=by
 refine⟨fun _=>rfl,fun _ _=>rfl,fun _=>rfl,?_,?_⟩
 ·intro a e h0 h1
  (sym=>(simp[Xd,Xh,Xx,XI,WB,WG,WI,WK,WM,WN,WO,WP,WQ,WW,WX,WY,WZ,Vc,Vd,Ve,Vf,VQ,VR,VY,VZ,Ua,Ub,Uc,Ud,Ue,Uw,U1,U2,U3,U4,U5,T5,Rg,Ri,h0,h1];all_goals tactic=>exact rfl))
 ·intro a
  (sym=>(simp[Za,Xa,Xd,Xu,Xx,XM,Wh,WB,WG,WI,WK,WM,WN,WO,WP,WQ,WW,WX,WY,WZ,Vc,Vd,Ve,Vf,Vu,VB,VC,VD,VY,VZ,Ua,Ub,Uc,Ud,Ue,Uw,U1,U2,U3,U4,U5,U8,UC,Su,Rg,Ri];all_goals tactic=>exact rfl))
theorem yT (v n:Nat) (L:List (Nat×Nat)) (hl:L.length<16) (hn:n≤1000):Yd (gT n L) (gT n (L++[(v,n+1)])) v true:=by
 have b1:(L.length<16)=True:=eq_true hl
 have a2:IntKind.i64.wrap ((n:Int)+1)=(n:Int)+1:=aD (by omega) (by omega)
 have y:runYW aA (.fn (.yield 0) [] []) [I (v:Nat)] (gT n L)=some (.bool true,gT n (L++[(v,n+1)])):=by
  rw[kD (K:=77) (d:=x77) (site:=1) (vs:=[.pt 1 0,.pt 3 0]) rfl rfl (by rfl) rfl]
  (sym=>(simp[Za,Zb,Zc,Zd,Ze,Zf,Zh,Zl,Zm,Zv,Z0,Z3,ZH,ZL,Yl,YT,YY,Xd,Xi,Xk,Xs,Xx,Wq,Wz,W0,W3,W4,W5,W7,W8,WA,WB,WG,WI,WK,WM,WN,WO,WP,WQ,WW,WX,WY,WZ,Vc,Vd,Ve,Vf,VA,VD,VP,VY,VZ,Ua,Ub,Uc,Ud,Ue,Uf,Ug,Uh,Ul,Ut,Uw,U1,U2,U3,U4,U5,U6,U7,UE,UF,UG,UH,UL,UM,Td,Te,Ti,Ts,Tx,T1,T6,T7,TG,Sa,Sb,Sc,Sd,Sm,Sn,Sp,Sq,SM,SU,SV,Rg,Ri,b1,a2];all_goals tactic=>exact rfl))
 intro a
 (sym=>(simp[Zd,Ze,YX,Xd,Xh,Xr,Xs,Xx,XI,Wz,W4,W7,W8,WA,WB,WC,WE,WF,WH,WI,WJ,WK,WL,WN,WO,WS,WT,WU,WW,WX,WY,WZ,Vd,Ve,Vf,Vg,Vh,Vi,Vj,VY,VZ,Ua,Ub,Uc,Uf,Ug,Uj,Uw,U1,U2,U3,U4,U5,TG,Sl,Rg,Ri,y];all_goals tactic=>exact rfl))
theorem tQ {p q:Nat→Bool} (h:∀ k,p k=true→q k=false):∀ l:List Nat,(l.filter fun k=>p k||q k).length=(l.filter p).length+(l.filter q).length
 | []=>rfl
 | k::l=>by
   have ih:=tQ h l
   simp only[List.filter_cons]
   cases hp:p k
   ·cases hq:q k
    ·simpa using ih
    ·simp only[Bool.false_or,if_true,Bool.false_eq_true,if_false,List.length_cons];omega
   ·have hq:=h k hp
    rw[hq]
    simp only[Bool.true_or,if_true,Bool.false_eq_true,if_false,List.length_cons];omega
def nA (x:Vn) (cl:Nat):Nat→List (Nat×Nat)
 | 0=>(el (cG x cl 0)).map fun k=>(k,0)
 | n+1=>nA x cl n++(el (eO (cG x cl (n+1)) (cG x cl n))).map fun k=>(k,n+1)
theorem vT (s k i:Nat) (c:Bool):(orB s c k).testBit i=(s.testBit i||(c&&decide (k=i))):=by
 unfold orB
 cases c
 ·simp
 ·rw[if_pos rfl,eU];simp
theorem xZ {α:Type} {f:Nat→α→Nat} (hf:∀ o x i,o.testBit i=true→(f o x).testBit i=true):∀ (l:List α) (o i:Nat),o.testBit i=true→(l.foldl f o).testBit i=true
 | [],_,_,h=>h
 | x::l,o,i,h=>xZ hf l (f o x) i (hf o x i h)
theorem aKX {ill:Nat} (o:Nat) (b:Nat×Nat) (i:Nat) (h:o.testBit i=true):(brd ill o b).testBit i=true:=by
 unfold brd
 rw[vT,vT,h];simp
theorem aKd {cl:Nat} {n:Int} (o:Nat) (p:Nat×Nat×Nat) (i:Nat) (h:o.testBit i=true):(plt cl n o p).testBit i=true:=by
 unfold plt
 rw[vT,h];simp
theorem aCg {x:Vn} (ok:x.Ok) {cl:Nat} (hcl:cl<2^x.F):∀ n i,(cG x cl n).testBit i=true→(cG x cl (n+1)).testBit i=true:=by
 have hp:=aU ok.F16
 have dj:∀ n i,(cG x cl n).testBit i=true→cl.testBit i=false:=by
  intro n
  induction n with
  | zero =>
    intro i hi
    unfold cG at hi
    rw[bX (by omega)]at hi
    simp only[Bool.and_eq_true,Bool.not_eq_true']at hi
    exact hi.2.2
  | succ n ih =>
    intro i hi
    rw[cG,aJE]at hi
    have main:∀ (l:List (Nat×Nat×Nat)) (o:Nat),(∀ i,o.testBit i=true→cl.testBit i=false)→∀ i,(l.foldl (plt cl (n:Int)) o).testBit i=true→cl.testBit i=false:=by
     intro l
     induction l with
     | nil=>exact fun o h=>h
     | cons p l ihl =>
       intro o h
       refine ihl (plt cl n o p) fun i hi=>?_
       unfold plt at hi
       rw[vT,Bool.or_eq_true]at hi
       rcases hi with hi|hi
       ·exact h i hi
       ·simp only[Bool.and_eq_true,Bool.not_eq_true',decide_eq_true_eq]at hi
        rw[←hi.2];exact hi.1.2.2
    refine main x.ps _ (fun i hi=>?_) i hi
    rw[bX (by omega)]at hi
    simp only[Bool.and_eq_true,Bool.not_eq_true']at hi
    exact hi.2.2
 intro n i hi
 rw[cG,aJE]
 refine xZ aKd _ _ _ ?_
 have hlt:=uB (jS ok cl n) (i:=i)
 have hi64:i<64:=by
  by_cases h:i<64
  ·exact h
  ·rw[hlt (by have:=ok.F16;omega)]at hi;simp at hi
 rw[bX (by omega),dj n i hi]
 have:(bor x (cG x cl n)).testBit i=true:=xZ aKX _ _ _ hi
 simp[this,hi64]
theorem aEU {x:Vn} (ok:x.Ok) {cl:Nat} (hcl:cl<2^x.F):∀ n,(nA x cl n).length=(el (cG x cl n)).length
 | 0=>by simp[nA]
 | n+1=>by
   have hp:=aU ok.F16
   have hl:=jS ok cl n
   rw[nA,List.length_append,List.length_map,aEU ok hcl n]
   have e:el (cG x cl (n+1))=(List.range 16).filter fun k=>(cG x cl n).testBit k||(eO (cG x cl (n+1)) (cG x cl n)).testBit k:=by
    unfold el
    refine List.filter_congr fun k hk=>?_
    rw[List.mem_range]at hk
    rw[bX (by omega)]
    cases h:(cG x cl n).testBit k
    ·cases (cG x cl (n+1)).testBit k<;>simp;omega
    ·rw[aCg ok hcl n k h];rfl
   rw[e,tQ]
   ·rfl
   ·intro k hk
    rw[bX (by omega),hk];simp
theorem aMu {x:Vn} (ok:x.Ok) {cl:Nat} (hcl:cl<2^x.F) (n:Nat):(nA x cl n).length≤16:=by
 rw[aEU ok hcl];exact yG _
theorem aNQ {a n:Nat} {L:List (Nat×Nat)} (ha:a<65536) (hn:n≤1000) (hl:L.length+(el a).length≤16) :
 runW aA 86 [.fn (.yield 0) [] [],.pt 4 0] (gT n L++[cI a])=some (.tup [],gT n (L++(el a).map fun k=>(k,n+1))++[cI 0]):=by
 have e:=sG (n:=4) (G:=fun i=>gT n (L++((el a).take i).map fun k=>(k,n+1))) ha (fun i _=>aNI n _) (by
  intro i v hv
  have h1:=yT v n (L++((el a).take i).map fun k=>(k,n+1)) (by have:=dB hv;simp;omega) hn
  have e1:(L++((el a).take i).map fun k=>(k,n+1))++[(v,n+1)]=L++((el a).take (i+1)).map fun k=>(k,n+1):=by
   rw[List.take_add_one,hv];simp
  rw[e1]at h1
  exact h1)
 rw[List.take_length]at e
 simpa using e
theorem aNR {a:Nat} (ha:a<65536):runW aA 86 [.fn (.yield 0) [] [],.pt 3 0] (gS []++[cI a])=some (.tup [],gS ((el a).map fun k=>(k,0))++[cI 0]):=by
 have hl:=yG a
 have e:=sG (n:=3) (G:=fun i=>gS (((el a).take i).map fun k=>(k,0))) ha (fun i _=>aNJ _) (by
  intro i v hv
  have h1:=yS v (((el a).take i).map fun k=>(k,0)) (by have:=dB hv;simp;omega)
  have e1:(((el a).take i).map fun k=>(k,0))++[(v,0)]=((el a).take (i+1)).map fun k=>(k,0):=by
   rw[List.take_add_one,hv];simp
  rw[e1]at h1
  exact h1)
 rw[List.take_length]at e
 simpa using e
abbrev g77 (x:Vn) (L:List (Nat×Nat)):XH:=[chO L,some (.blk true (.cells true x.c)),some (.blk false (.cells true [.ch 0]))]
theorem aJI {x:Vn} (ok:x.Ok) {cl:Nat} (hcl:cl<2^x.F) {sn:Int} {n:Nat} (hn:n≤1000) (hs:(n:Int)<sn) :
 aS 1 [1,4,7,8,30,31] (execW aA 77 1 none (match aDU with | .loop _ a=>a|c=>c) (aV [1,4,7,8,30,31] [I cl,.pt 1 0,.pt 2 0,I (cG x cl n:Nat),I sn,I (n:Nat)]) (g77 x (nA x cl n))) =
  some ([I cl,.pt 1 0,.pt 2 0,I (cG x cl (n+1):Nat),I sn,I (n+1:Nat)],g77 x (nA x cl (n+1))):=by
 have hp:=aU ok.F16
 have hi:=jS ok cl n
 have hi2:=jS ok cl (n+1)
 have c1:((n:Int)<sn)=True:=eq_true hs
 have a2:IntKind.i64.wrap ((n:Int)+1)=(n:Int)+1:=aD (by omega) (by omega)
 have lb:=aJb ok hi x.bs.length
 have eb:bF x (cG x cl n) x.bs.length=bor x (cG x cl n):=by unfold bF bor;rw[List.take_length]
 rw[eb]at lb
 have d1:=iI bY (a:=bor x (cG x cl n)) (b:=cl) (by omega) (by omega)
 have dl:=fS (bor x (cG x cl n)) cl
 have ep:pF x cl (n:Int) (eO (bor x (cG x cl n)) cl) x.ps.length=cG x cl (n+1):=by unfold pF;rw[List.take_length];rfl
 have z:=Tc (n:=(x.bs.length:Int))
 have z2:=Tc (n:=(x.ps.length:Int))
 have d2:=iI bY (a:=cG x cl (n+1)) (b:=cG x cl n) (by omega) (by omega)
 have dl2:=fS (cG x cl (n+1)) (cG x cl n)
 have w8:=w80 (a:=eO (cG x cl (n+1)) (cG x cl n))
 have e86:=aNQ (a:=eO (cG x cl (n+1)) (cG x cl n)) (n:=n) (L:=nA x cl n) (by omega) hn (by
  have:=aMu ok hcl (n+1)
  rw[nA,List.length_append,List.length_map]at this
  exact this)
 rw[show nA x cl n++(el (eO (cG x cl (n+1)) (cG x cl n))).map (fun k=>(k,n+1))=nA x cl (n+1) from rfl]at e86
 have e86:runW aA 86 [.fn (.yield 0) [] [],.pt 4 0] [some (.loop 77 1 [.pt 1 0,.pt 3 0] .ready),some (.blk false (.cells true [.ch 2])),chO (nA x cl n),some (.blk true (.cells true [I n])),cI (eO (cG x cl (n+1)) (cG x cl n))] =
  some (.tup [],[some (.loop 77 1 [.pt 1 0,.pt 3 0] .ready),some (.blk false (.cells true [.ch 2])),chO (nA x cl (n+1)),some (.blk true (.cells true [I n])),some (.blk true (.cells true [.int .i64 0]))]):=e86
 have rb:=fun i hh=>aHa (L:=nA x cl n) (ill:=cG x cl n) (sn:=sn) (n:=(n:Int)) ok (o0:=eO (bor x (cG x cl n)) cl) (by omega) hcl (i:=i) hh
 have ra:=fun i hh=>aHb (L:=nA x cl n) (cl:=cl) (sn:=sn) (n:=(n:Int)) ok hi (i:=i) hh
 unfold aDU
 dsimp only
 sym =>
  simp[Za,Zb,Zc,Zf,Zh,Zl,Zm,Zv,Zw,Z3,Z8,ZG,ZH,ZL,ZM,Yc,Ye,Yu,Xi,Wq,Wz,W0,W3,W4,W5,W7,W8,WA,VP,VS,VT,Ua,Ub,Uc,Uf,Ug,Uh,Ul,Ut,Ux,U6,U7,UE,Td,Te,Ti,Tj,Tk,Ts,Tt,Tv,Tx,Ty,T6,T7,c1]
  tactic =>
   unfold aDV
   rw[aE x.bs.length (fun i=>[I cl,.pt 1 0,.pt 2 0,I (bF x (cG x cl n) i:Nat),.pt 3 0,I (cG x cl n:Nat),I sn,I (n:Nat),rB (x.bs.map bI),I x.bs.length,I (i:Nat)]) (fun _=>h77 x (nA x cl n) n)]
   ·rw[eb]
    sym =>
     simp[Za,Zb,Zf,Zh,Zl,Zm,Zv,Z3,Z8,ZG,ZH,Yc,Ye,Yu,Wz,W0,W3,WA,VP,VS,VU,Uh,Uy,Tc,Td,Te,Ti,Ts,Tt,Tw,Tx,Ty,Tz,T4,T6,T7,SA,z,d1]
     tactic =>
      unfold zP
      rw[aE x.ps.length (fun i=>[I cl,.pt 1 0,.pt 2 0,I (pF x cl (n:Int) (eO (bor x (cG x cl n)) cl) i:Nat),.pt 3 0,I (cG x cl n:Nat),I sn,I (n:Nat),rP (x.ps.map pI),I x.ps.length,I (i:Nat)]) (fun _=>h77 x (nA x cl n) n)]
      ·rw[ep]
       generalize eO (cG x cl (n+1)) (cG x cl n)=df at *
       generalize cG x cl (n+1)=q1 at *
       generalize nA x cl (n+1)=L2 at *
       generalize cG x cl n=q0 at *
       generalize nA x cl n=L1 at *
       (sym=>(simp[Za,Zb,Zf,Zh,Zl,Zm,Zv,Z3,ZP,ZQ,ZU,ZV,Yl,Yu,YX,Xd,Xh,Xr,Xu,Xx,X0,XI,Wz,W4,W7,W8,WA,WB,WC,WE,WF,WG,WH,WI,WJ,WK,WL,WM,WN,WO,WP,WQ,WR,WS,WT,WU,WW,WX,WY,WZ,Vc,Vd,Ve,Vf,Vg,Vh,Vi,Vj,VP,VQ,VR,VS,VU,VY,VZ,Ua,Ub,Uc,Ud,Ue,Uf,Ug,Uj,Ul,Uw,Uy,U1,U2,U3,U4,U5,Tc,Ts,Tt,Tw,Tx,Ty,Tz,T1,T4,T5,T6,T7,Sa,Sb,Se,Sf,Sg,Si,Sj,Sk,SA,Rg,Ri,z2,d2,w8,e86,a2];all_goals tactic=>exact rfl))
      ·(sym=>(simp[Za,YB,YX,Xb,Xd,Xr,Xv,Xx,Wz,WB,WC,WF,WG,WI,WJ,WK,WM,WO,WP,WQ,WR,WW,WX,WY,Vc,Vd,Ve,VP,VQ,VR,VY,VZ,Ua,Ub,Uc,Ud,Ue,Uj,Uw,U2,U3,U4,U5,T5,Rg,Ri];all_goals tactic=>exact rfl))
      ·exact rb
      ·rw[ep]
       generalize cG x cl (n+1)=q1 at *
       (sym=>(simp[Za,Zb,Zf,Zh,Zl,Zm,Z3,Yu,VP,VS,VU,VV,Uy,Tc,Ts,Tt,Tw,Ty,Tz,T6,z2];all_goals tactic=>exact rfl))
   ·(sym=>(simp[Za,YB,YX,Xb,Xd,Xr,Xv,Xx,Wz,WB,WC,WF,WG,WI,WJ,WK,WM,WO,WP,WQ,WR,WW,WX,WY,Vc,Vd,Ve,VP,VQ,VR,VY,VZ,Ua,Ub,Uc,Ud,Ue,Uj,Uw,U2,U3,U4,U5,T5,Rg,Ri];all_goals tactic=>exact rfl))
   ·exact ra
   ·(sym=>(simp[Za,Zb,Zf,Zh,Zl,Zm,Z3,Yu,VP,VS,VU,VV,Uy,Tc,Ts,Tt,Tw,Ty,Tz,T6,z];all_goals tactic=>exact rfl))
theorem aJf {run:gF} {runY:iL} {l:List DOper} {e:aG} {h:XH}:eX run runY l e h=xo none run runY l e h:=rfl
abbrev chC (L:List (Nat×Nat)):Option XB:=some (.blk true (.map true ((.agg [.agg []],.fp [] 16 1)::aCX L)))
theorem w77 {x:Vn} (ok:x.Ok) {cl:Nat} (hcl:cl<2^x.F) {sn:Nat} (hs:sn≤1000):runW aA 77 [.agg x.c,I cl,I sn,.ch 0] [chO []]=some (.tup [],[chC (nA x cl sn)]):=by
 have hp:=aU ok.F16
 have hi:=jS ok cl 0
 have hk:=ok.s
 have d1:=iI bY (a:=x.sick) (b:=cl) (by omega) (by omega)
 rw[show eO x.sick cl=cG x cl 0 from rfl]at d1
 have w8:=w80 (a:=cG x cl 0)
 have e86:runW aA 86 [.fn (.yield 0) [] [],.pt 3 0] [some (.loop 77 0 [.pt 1 0] .ready),some (.blk false (.cells true [.ch 2])),some (.blk true (.map true [(.agg [.agg []],.fp [] 16 0)])),cI (cG x cl 0)] =
  some (.tup [],[some (.loop 77 0 [.pt 1 0] .ready),some (.blk false (.cells true [.ch 2])),chO (nA x cl 0),some (.blk true (.cells true [.int .i64 0]))]):=aNR (a:=cG x cl 0) (by omega)
 have z:=Tc (n:=(sn:Int))
 rw[r77 (by simp)]
 unfold x77
 dsimp only
 rw[aJf]
 have rd:=fun i (hh:i<sn)=>aJI (x:=x) ok hcl (sn:=(sn:Int)) (n:=i) (by omega) (by omega)
 generalize hf0:nA x cl 0=L0 at e86
 generalize hi0:cG x cl 0=q0 at e86 w8 d1
 sym =>
  simp[Za,Zb,Zf,Zh,Zl,Zm,Zo,Zv,Zz,Z3,Z8,ZH,ZP,ZQ,ZU,ZV,Yc,YX,Xd,Xh,Xi,Xk,Xl,Xr,Xu,Xx,X0,XI,We,Wg,Wi,Ws,Wz,W0,W3,W4,W7,W8,W9,WA,WB,WC,WE,WF,WH,WI,WJ,WK,WL,WN,WO,WS,WT,WU,WW,WX,WY,WZ,Vd,Ve,Vf,Vg,Vh,Vi,Vj,VN,VX,VY,VZ,Ua,Ub,Uc,Uf,Ug,Uj,Ul,Uw,U1,U2,U3,U4,U5,U6,U7,UC,UD,UN,UO,Td,Te,Ti,Tl,Ts,Tt,Tx,Ty,T1,T6,T7,Sa,Sb,Se,Sf,Sg,Si,Sj,Sk,SA,Rc,Rd,Rg,Rh,Ri,Rk,Rl,d1,w8,e86]
  tactic =>
   unfold aDU
   rw[aE sn (fun i=>[I cl,.pt 1 0,.pt 2 0,I (cG x cl i:Nat),I sn,I (i:Nat)]) (fun i=>g77 x (nA x cl i))]
   ·generalize cG x cl sn=q at *
    generalize nA x cl sn=L at *
    (sym=>(simp[Za,Zb,Zf,Zh,Zl,Zm,Z3,Yu,Xa,Xu,XM,Wh,Wz,W4,WI,WM,WO,WP,WQ,WW,WX,Vc,Vd,Vu,V9,VB,VC,VD,VE,VG,VI,VP,VS,VU,VY,VZ,Uc,Ud,Ue,Uy,U2,U3,U4,U8,UC,Tc,Ts,Tt,Tw,Ty,Tz,T4,T6,Su,Ra,Rb,Re,Rf,z];all_goals tactic=>exact rfl))
   ·rw[hf0,hi0]; (sym=>(simp[Za,YB,YX,Xd,Xr,Xx,Wz,W9,WB,WC,WF,WG,WI,WJ,WK,WM,WO,WP,WQ,WR,WW,WX,WY,Vc,Vd,Ve,VN,VQ,VR,VY,VZ,Ua,Ub,Uc,Ud,Ue,Uj,Uw,U2,U3,U4,U5,T5,Rg,Ri];all_goals tactic=>exact rfl))
   ·exact rd
   ·generalize cG x cl sn=q at *
    generalize nA x cl sn=L at *
    (sym=>(simp[Za,Zb,Zf,Zh,Zl,Zm,Z3,Yu,VP,VS,VU,VV,Uy,Tc,Ts,Tt,Tw,Ty,Tz,T6,z];all_goals tactic=>exact rfl))
abbrev nev:Int:=1125899906842624
theorem w50:∀ F,F<16→runW aA 50 [.sl 0 0 1 1,I ((F+1:Nat):Int)] [some (.blk true (.cells true [I nev]))]=some (.sl 1 0 1 (F+1),[some (.blk true (.cells true [I nev])),some (.blk true (.cells true ((List.replicate (F+1) nev).map I)))])
 | 0,_=>aX.2 ⟨400,by kernel_rfl⟩
 | 1,_=>aX.2 ⟨400,by kernel_rfl⟩
 | 2,_=>aX.2 ⟨400,by kernel_rfl⟩
 | 3,_=>aX.2 ⟨400,by kernel_rfl⟩
 | 4,_=>aX.2 ⟨400,by kernel_rfl⟩
 | 5,_=>aX.2 ⟨400,by kernel_rfl⟩
 | 6,_=>aX.2 ⟨400,by kernel_rfl⟩
 | 7,_=>aX.2 ⟨400,by kernel_rfl⟩
 | 8,_=>aX.2 ⟨400,by kernel_rfl⟩
 | 9,_=>aX.2 ⟨400,by kernel_rfl⟩
 | 10,_=>aX.2 ⟨400,by kernel_rfl⟩
 | 11,_=>aX.2 ⟨400,by kernel_rfl⟩
 | 12,_=>aX.2 ⟨400,by kernel_rfl⟩
 | 13,_=>aX.2 ⟨400,by kernel_rfl⟩
 | 14,_=>aX.2 ⟨400,by kernel_rfl⟩
 | 15,_=>aX.2 ⟨400,by kernel_rfl⟩
 | _+16,h=>absurd h (by omega)

abbrev gW (x:Vn) (cl sn:Nat) (l:List Int) (c:Option XB):XH:=[some (.loop 20 0 [.pt 1 0] .ready),some (.blk false (.cells true [.sl 2 0 1 l.length])),some (.blk true (.cells true (l.map I))),some (.blk true (.cells true x.c)),some (.blk true (.cells true [I cl])),some (.blk true (.cells true [I sn])),c]
theorem y20 {l:List Int} {v n:Nat} (hv:v<l.length) (hl:l.length≤16):runYW aA (.fn (.yield 0) [] []) [.agg [I (v:Nat),I (n:Nat)]] [some (.loop 20 0 [.pt 1 0] .ready),some (.blk false (.cells true [.sl 2 0 1 l.length])),some (.blk true (.cells true (l.map I)))]=some (.bool true,[some (.loop 20 0 [.pt 1 0] .ready),some (.blk false (.cells true [.sl 2 0 1 l.length])),some (.blk true (.cells true ((l.set v n).map I)))]):=by
 have e0:((0:Int)≤(v:Int))=True:=eq_true (by omega)
 have e1:((v:Int)<((l.length:Nat):Int))=True:=eq_true (by omega)
 have e6:(v+1≤l.length)=True:=eq_true (by omega)
 rw[←aGO hv]
 generalize hk:l.length=k at *
 rw[kD (K:=20) (d:=x20) (site:=0) (vs:=[.pt 1 0]) rfl rfl (by rfl) rfl]
 (sym=>(simp[Za,Zb,Zc,Zf,Zh,Zl,Zm,Zw,Z8,ZA,ZH,ZL,ZM,Yc,Yh,Yy,Yz,YY,Xc,Xd,Xi,Xs,Xw,Xx,Wq,Ws,Wz,W0,W3,W4,W5,W7,W8,WA,WB,WG,WI,WK,WM,WO,WP,WQ,WW,WX,WY,WZ,Vc,Vd,Ve,Vf,VA,VD,VP,VY,VZ,Ua,Ub,Uc,Ud,Ue,Uf,Ug,Uh,Ul,Ut,Uw,U2,U3,U4,U5,U6,U7,UE,UL,UM,Td,Te,Ti,Tj,Tk,Tx,T1,T6,TI,TJ,TN,Sa,Sb,Sc,Sd,Sm,Sn,Sp,Sq,e0,e1,e6,hk];all_goals tactic=>exact rfl))
theorem aHc {x:Vn} {cl sn k:Nat} {l:List Int} {p:Nat×Nat} {L:List (Nat×Nat)} (hl:l.length=k) (hk:k≤16) (hv:p.1<k) :
 aS 6 [0,13] (execW aA 76 6 none (match aDW with | .loop _ a=>a|c=>c) (aV [0,13] [.fn (.yield 0) [] [],.ch 6]) (gW x cl sn l (chC (p::L))))=some ([.fn (.yield 0) [] [],.ch 6],gW x cl sn (l.set p.1 p.2) (chC L)):=by
 have y:=y20 (n:=p.2) (l:=l) (v:=p.1) (by omega) (by omega)
 rw[gW,gW,List.length_set,hl]at *
 unfold aDW
 dsimp only
 have e1:chC (p::L)=some (.blk true (.map true ((.agg [.agg []],.fp [] 16 1)::(.nilifc,.agg [I p.1,I p.2])::aCX L))):=rfl
 rw[e1,show chC L=some (.blk true (.map true ((.agg [.agg []],.fp [] 16 1)::aCX L))) from rfl]
 generalize aCX L=sl
 generalize l.set p.1 (p.2:Int)=l2 at *
 (sym=>(simp[Za,Zb,Zc,Zf,Zg,Zh,Zj,Zl,Zm,Zv,Zw,Z5,ZF,ZH,ZL,ZM,ZP,ZQ,ZZ,Yk,YX,YZ,Xc,Xd,Xh,Xi,Xr,Xs,Xt,Xw,Xx,XI,Ws,Wz,W0,W3,W4,W5,W6,W7,W8,WA,WB,WC,WE,WF,WG,WH,WI,WJ,WK,WL,WM,WN,WO,WP,WQ,WR,WS,WT,WU,WW,WX,WY,WZ,Vc,Vd,Ve,Vf,Vg,Vh,Vi,Vj,Vu,Vw,Vx,Vz,V0,V2,VP,VQ,VR,VS,VT,VU,VY,VZ,Ua,Ub,Uc,Ud,Ue,Uf,Ug,Uj,Ul,Uo,Ut,Uw,U1,U2,U3,U4,U5,U6,U7,UE,Td,Te,Th,Tj,Tk,Tt,Tv,Tx,Ty,T1,T5,T6,Sl,SB,SC,SD,SF,SG,SI,SN,SW,SX,SZ,Rg,Ri,y];all_goals tactic=>exact rfl))
def whL (F:Nat) (L:List (Nat×Nat)):List Int:=L.foldl (fun o p=>o.set p.1 (p.2:Int)) (List.replicate F nev)
theorem vJ {F:Nat} {L:List (Nat×Nat)}:(whL F L).length=F:=by
 have:∀ (M:List (Nat×Nat)) (o:List Int),(M.foldl (fun o p=>o.set p.1 (p.2:Int)) o).length=o.length:=by
  intro M
  induction M with
  | nil=>intro o;rfl
  | cons p M ih=>intro o;rw[List.foldl_cons,ih,List.length_set]
 rw[whL,this,List.length_replicate]
theorem aGp {F:Nat} {L:List (Nat×Nat)} {i:Nat} {p:Nat×Nat} (h:L[i]?=some p):whL F (L.take (i+1))=(whL F (L.take i)).set p.1 (p.2:Int):=by
 rw[whL,List.take_add_one,h,List.foldl_append];rfl
theorem aOr {x:Vn} (ok:x.Ok) {cl sn:Nat} (hcl:cl<2^x.F) (hs:sn≤1000) (hm:∀ p∈nA x cl sn,p.1<x.F) :
 runW aA 76 [.fn (.yield 0) [] [],.pt 3 0,.pt 4 0,.pt 5 0] [some (.loop 20 0 [.pt 1 0] .ready),some (.blk false (.cells true [.sl 2 0 1 x.F])),some (.blk true (.cells true ((List.replicate x.F nev).map I))),some (.blk true (.cells true x.c)),some (.blk true (.cells true [I cl])),some (.blk true (.cells true [I sn]))] =
  some (.tup [],[some (.loop 20 0 [.pt 1 0] .ready),some (.blk false (.cells true [.sl 2 0 1 x.F])),some (.blk true (.cells true ((whL x.F (nA x cl sn)).map I))),some (.blk true (.cells true x.c)),some (.blk true (.cells true [I cl])),some (.blk true (.cells true [I sn]))]):=by
 have w:=w77 ok hcl hs
 have hF:=ok.F16
 generalize hL:nA x cl sn=L at *
 have rd:=fun(i:Nat) (hi:i<L.length)=>aHc (x:=x) (cl:=cl) (sn:=sn) (L:=L.drop (i+1)) (p:=L[i]) (vJ (F:=x.F) (L:=L.take i)) hF (hm _ (List.getElem_mem hi))
 have z:(whL x.F (L.take 0))=List.replicate x.F nev:=rfl
 generalize hr:(List.replicate x.F nev)=rp at *
 have zl:rp.length=x.F:=by rw[←hr,List.length_replicate]
 have zw:(whL x.F L).length=x.F:=vJ
 rw[r76 (by simp)];unfold x76;dsimp only
 have w:runW aA 77 [.agg x.c,I cl,I sn,.ch 0] [some (.blk true (.map true [(.agg [.agg []],.fp [] 16 0)]))]=some (.tup [],[some (.blk true (.map true ((.agg [.agg []],.fp [] 16 1)::aCX L)))]):=w
 generalize hs0:aCX L=sl at *
 generalize hwl:whL x.F L=wl at *
 sym =>
  simp[Za,Zb,Zf,Zg,Zh,Zj,Zl,Zm,Zv,ZH,ZP,ZQ,ZU,ZV,YX,YZ,Xb,Xr,Xt,Xu,Xv,Wl,Wp,Wz,W0,W3,W4,W5,W6,W7,W8,W9,WA,WB,WE,WF,WI,WJ,WK,WL,WN,WO,WS,WT,WU,WW,WX,Vd,Vg,Vh,Vi,Vj,Vu,Vw,Vx,Vy,Vz,V0,V2,VN,VX,VY,VZ,Ua,Ub,Uc,Uf,Ug,Uw,U1,U2,U3,U4,U5,UC,UD,Td,Te,Th,Ti,Tt,Tx,Ty,T6,T7,Su,SB,SC,SD,SE,SF,SG,SI,SO,Rg,Ri,Rj,Rk,w]
  tactic =>
   unfold aDW
   rw[aE L.length (fun _=>[.fn (.yield 0) [] [],.ch 6]) (fun i=>gW x cl sn (whL x.F (L.take i)) (chC (L.drop i)))]
   ·rw[show whL x.F (L.take L.length)=wl from by rw[List.take_length];exact hwl,show chC (L.drop L.length)=some (.blk true (.map true [(.agg [.agg []],.fp [] 16 1)])) from by rw[List.drop_length];rfl,gW,zw]; (sym=>(simp[Za,Zb,Zf,Zh,Zl,Zm,ZF,ZP,Yk,Xa,Xc,Xd,Xu,Xw,Xx,XM,Wh,Wz,W4,WA,WB,WG,WI,WK,WM,WO,WP,WQ,WW,WX,WY,WZ,Vc,Vd,Ve,Vf,Vu,V7,V9,VB,VC,VD,VE,VG,VI,VP,VS,VU,VY,VZ,Ua,Ub,Uc,Ud,Ue,Uw,U2,U3,U4,U5,U8,UC,Tt,Tw,Ty,Tz,T4,T6,Su,SN,SW,SY,SZ];all_goals tactic=>exact rfl))
   ·rw[z,show chC (L.drop 0)=some (.blk true (.map true ((.agg [.agg []],.fp [] 16 1)::sl))) from by rw[←hs0];rfl,gW,zl]; (sym=>(simp[Za,Xc,Xd,Xh,Xw,Xx,XI,Wz,W9,WB,WC,WF,WG,WI,WJ,WK,WM,WO,WP,WQ,WR,WW,WX,WY,WZ,Vc,Vd,Ve,Vf,VN,VQ,VR,VY,VZ,Ua,Ub,Uc,Ud,Ue,Uj,Uw,U2,U3,U4,U5,T5,SC,SE,Rg,Ri];all_goals tactic=>exact rfl))
   ·intro i hi
    have h:=rd i hi
    rw[←aGp (List.getElem?_eq_getElem hi),List.getElem_cons_drop]at h
    exact h
   ·rw[show whL x.F (L.take L.length)=wl from by rw[List.take_length];exact hwl,show chC (L.drop L.length)=some (.blk true (.map true [(.agg [.agg []],.fp [] 16 1)])) from by rw[List.drop_length];rfl,gW,zw]; (sym=>(simp[Za,Zb,Zf,Zh,Zl,Zm,ZF,ZP,Yk,Wz,W4,WA,VP,VS,VU,VV,Tt,Tw,Ty,Tz,T6,SN,SW,SY,SZ];all_goals tactic=>exact rfl))
end Go.Proofs.YtiabjdfdkiijmaaDoor
namespace Go.Proofs.YtiabjdfdkiijmaaDoor
open Go Go.DL

theorem aFL {x:Vn} (ok:x.Ok) {cl:Nat} (hcl:cl<2^x.F) {i:Nat} {m n:Nat} (h:m≤n) (hi:(cG x cl m).testBit i=true):(cG x cl n).testBit i=true:=by
 induction n with
 | zero=>rw[show m=0 by omega]at hi;exact hi
 | succ n ih =>
   by_cases e:m=n+1
   ·rw[←e];exact hi
   ·exact aCg ok hcl n i (ih (by omega))
theorem eJ {a F i:Nat} (h:a<2^F) (hi:a.testBit i=true):i<F:=by
 by_cases e:i<F
 ·exact e
 ·rw[uB h (by omega)]at hi;simp at hi
theorem aLq {x:Vn} (ok:x.Ok) {cl:Nat}:∀ n,∀ p∈nA x cl n,p.1<x.F
 | 0=>by
   intro p hp
   simp only[nA,List.mem_map,iV]at hp
   obtain⟨k,hk,rfl⟩:=hp
   exact eJ (jS ok cl 0) hk.2
 | n+1=>by
   intro p hp
   rw[nA,List.mem_append]at hp
   rcases hp with hp|hp
   ·exact aLq ok n p hp
   ·simp only[List.mem_map,iV]at hp
    obtain⟨k,hk,rfl⟩:=hp
    exact eJ (tU (jS ok cl (n+1))) hk.2
def whO (x:Vn) (cl n f:Nat):Int:=match (List.range (n+1)).find? (fun m=>(cG x cl m).testBit f)with
 | some m=>(m:Int)
 | none=>nev
theorem aAL {c:Int} (f:Nat):∀ (ks:List Nat) (l:List Int),((ks.map fun k=>(k,c)).foldl (fun o p=>o.set p.1 p.2) l)[f]?=if f∈ks∧f<l.length then some c else l[f]?
 | [],l=>by simp
 | k::ks,l=>by
   rw[List.map_cons,List.foldl_cons,aAL f ks,List.length_set,List.getElem?_set]
   by_cases h1:f∈ks
   ·by_cases h2:f<l.length
    ·simp[h1,h2]
    ·have:l[f]?=none:=List.getElem?_eq_none (by omega)
     simp only[h1,h2,and_false,if_false,List.mem_cons,or_true,this]
     split
     ·next h=>rw[if_neg (by omega)]
     ·rfl
   ·by_cases hk:k=f
    ·subst hk
     simp only[h1,false_and,if_false,if_true,List.mem_cons,true_or,true_and]
     split
     ·rfl
     ·rw[List.getElem?_eq_none (by omega)]
    ·have:¬f∈k::ks:=by simp[h1];omega
     simp[h1,hk];intro h;omega
theorem aGo {x:Vn} (ok:x.Ok) {cl:Nat} (hcl:cl<2^x.F) (n f:Nat):whO x cl (n+1) f=if (cG x cl (n+1)).testBit f && !(cG x cl n).testBit f then ((n+1:Nat):Int) else whO x cl n f:=by
 unfold whO
 rw[List.range_succ,List.find?_append]
 by_cases h1:(cG x cl n).testBit f=true
 ·rw[h1]
  have:∃ m,(List.range (n+1)).find? (fun m=>(cG x cl m).testBit f)=some m:=by
   cases h:(List.range (n+1)).find? (fun m=>(cG x cl m).testBit f)with
   | some m=>exact⟨m,rfl⟩
   | none =>
     rw[List.find?_eq_none]at h
     exact absurd h1 (h n (List.mem_range.2 (by omega)))
  obtain⟨m,hm⟩:=this
  rw[hm];simp
 ·have:(List.range (n+1)).find? (fun m=>(cG x cl m).testBit f)=none:=by
   rw[List.find?_eq_none]
   intro m hm h
   rw[List.mem_range]at hm
   exact h1 (aFL ok hcl (by omega) h)
  rw[this]
  simp only[Bool.not_eq_true]at h1
  rw[h1,List.find?_singleton]
  cases (cG x cl (n+1)).testBit f<;>simp
theorem aJg {x:Vn} (ok:x.Ok) {cl:Nat} (hcl:cl<2^x.F):∀ n,whL x.F (nA x cl n)=(List.range x.F).map (whO x cl n):=by
 have hF:=ok.F16
 have hp:=aU hF
 intro n
 apply List.ext_getElem?
 intro f
 rw[List.getElem?_map]
 by_cases hf:f<x.F
 ·rw[List.getElem?_range hf]
  show _=some (whO x cl n f)
  induction n with
  | zero =>
    rw[whL,nA]
    have:=aAL (c:=0) f (el (cG x cl 0)) (List.replicate x.F nev)
    rw[List.foldl_map]at this ⊢
    rw[show (fun(o:List Int) (k:Nat)=>o.set (k,0).1 ((k,0).2:Nat))=(fun(o:List Int) (k:Nat)=>o.set (k,(0:Int)).1 (k,(0:Int)).2) from rfl,this]
    rw[List.length_replicate,List.getElem?_replicate]
    simp only[iV]
    unfold whO
    rw[List.range_succ,List.range_zero,List.nil_append,List.find?_singleton]
    cases (cG x cl 0).testBit f
    ·simp[hf]
    ·have:f<16:=by omega
     simp[hf,this]
  | succ n ih =>
    have hl:=jS ok cl n
    rw[aGo ok hcl]
    have:=aAL (c:=((n+1:Nat):Int)) f (el (eO (cG x cl (n+1)) (cG x cl n))) (whL x.F (nA x cl n))
    rw[whL,nA,List.foldl_append]
    rw[List.foldl_map]at this ⊢
    rw[show (fun(o:List Int) (k:Nat)=>o.set (k,n+1).1 ((k,n+1).2:Nat))=(fun(o:List Int) (k:Nat)=>o.set (k,((n+1:Nat):Int)).1 (k,((n+1:Nat):Int)).2) from rfl]
    rw[show List.foldl (fun(o:List Int) (p:Nat×Nat)=>o.set p.1 (p.2:Int)) (List.replicate x.F nev) (nA x cl n)=whL x.F (nA x cl n) from rfl,this,ih,vJ]
    simp only[iV,bX (show cG x cl n<2^64 by omega)]
    have h16:f<16:=by omega
    have h64:f<64:=by omega
    simp only[h16,h64,hf,true_and,and_true,decide_true,Bool.true_and]
    split<;>rfl
 ·rw[List.getElem?_eq_none (by rw[vJ];omega),List.getElem?_eq_none (by rw[List.length_range];omega)];rfl
end Go.Proofs.YtiabjdfdkiijmaaDoor
namespace Go.Proofs.YtiabjdfdkiijmaaDoor
open Go Go.DL
set_option maxRecDepth 100000
set_option maxHeartbeats 4000000
theorem w51 (x:Vn) (cl sn:Nat):runW aA 51 [.agg x.c,I cl,I sn] []=some (.fn (.func 76) [] [.pt 0 0,.pt 1 0,.pt 2 0],[some (.blk true (.cells true x.c)),some (.blk true (.cells true [I cl])),some (.blk true (.cells true [I sn]))]):=by
 rw[r51 (by simp)];unfold x51;dsimp only
 (sym=>(simp[Za,Zb,Zf,Zh,Zl,Zo,Zv,Zx,Zz,Xd,Xg,Xi,Xk,Xl,Xx,X0,XV,We,Wg,Wi,Wo,Wq,Ws,Wz,W9,WB,WC,WF,WG,WI,WJ,WK,WM,WO,WP,WQ,WR,WW,WX,Vd,Vu,V8,V9,VB,VC,VD,VE,VF,VI,VJ,VK,VL,VN,VX,VY,VZ,Ua,Ub,Uc,Ue,Uf,Ug,Uj,Ul,Uw,U2,U3,U4,U5,U6,U7,UC,UD,UN,UO,Tl,Tt,Tu,Ty,T6,T7,TK,Su];all_goals tactic=>exact rfl))
def aEg (x:Vn):List Int:=(List.range x.F).map (whO x 0 117)
theorem w20 (v:Va) (hb:v.bs.length<1000000000) (hp:v.ps.length<1000000000) :
 (vE v≠0∧runW aA 20 [.agg v.c] []=some (.tup [.fs [],I (vE v)],[]))∨(vE v=0∧∃ (x:Vn),x.Ok∧v=x.v∧runW aA 20 [.agg v.c] []=some (.tup [nL (aEg x),I 0],[])):=by
 have e0:=w23 v hb hp
 by_cases hv:vE v=0
 ·right
  refine⟨hv,?_⟩
  rw[hv]at e0
  obtain⟨x,ok,rfl⟩:=aOA hv
  refine⟨x,ok,rfl,?_⟩
  have e0:runW aA 23 [.agg x.c] []=some (I 0,[]):=e0
  have h0:0<2^x.F:=Nat.two_pow_pos _
  have e1:runW aA 51 [.agg x.c,I 0,I 117] []=some (.fn (.func 76) [] [.pt 0 0,.pt 1 0,.pt 2 0],[some (.blk true (.cells true x.c)),some (.blk true (.cells true [I 0])),some (.blk true (.cells true [I 117]))]):=w51 x 0 117
  have e2:=aOr ok h0 (sn:=117) (by omega) (fun p hp=>aLq ok 117 p hp)
  have e5:=w50 (x.F-1) (by have:=ok.F16;omega)
  rw[show x.F-1+1=x.F by have:=ok.F1;omega]at e5
  rw[aJg ok h0]at e2
  show runW aA 20 [.agg x.c] []=_
  rw[show nL (aEg x)=nL ((List.range x.F).map (whO x 0 117)) from rfl]
  have hz:((List.range x.F).map (whO x 0 117)).length=x.F:=by simp
  generalize (List.range x.F).map (whO x 0 117)=os at *
  generalize hr:List.replicate x.F nev=rp at *
  have e2:runW aA 76 [.fn (.yield 0) [] [],.pt 3 0,.pt 4 0,.pt 5 0] [some (.loop 20 0 [.pt 1 0] .ready),some (.blk false (.cells true [.sl 2 0 1 x.F])),some (.blk true (.cells true (rp.map I))),some (.blk true (.cells true x.c)),some (.blk true (.cells true [I 0])),some (.blk true (.cells true [I 117]))] =
   some (.tup [],[some (.loop 20 0 [.pt 1 0] .ready),some (.blk false (.cells true [.sl 2 0 1 x.F])),some (.blk true (.cells true (os.map I))),some (.blk true (.cells true x.c)),some (.blk true (.cells true [I 0])),some (.blk true (.cells true [I 117]))]):=e2
  have z1:(x.F≤os.length)=True:=eq_true (by omega)
  have z2:bZ (os.map I) 0 1 x.F=os.map fun v=>[I v]:=by rw[←hz];exact TO
  rw[r20 (by simp)];unfold x20;dsimp only
  (sym=>(simp[Za,Zb,Zc,Zd,Ze,Zf,Zg,Zh,Zj,Zl,Zm,Zo,Zv,Zw,Zz,Z1,Z3,Z8,ZH,ZL,ZM,ZP,ZQ,ZU,ZV,Yc,Yt,YX,YZ,Xa,Xb,Xc,Xd,Xh,Xi,Xk,Xl,Xm,Xo,Xr,Xt,Xu,Xv,Xw,Xx,X0,XI,XJ,XM,XO,XX,XZ,Wb,We,Wg,Wh,Wi,Wq,Ws,Wu,Wz,W0,W3,W4,W5,W6,W7,W8,W9,WA,WB,WC,WE,WF,WH,WI,WJ,WK,WL,WM,WN,WO,WP,WQ,WS,WT,WU,WW,WX,WY,WZ,Vd,Ve,Vf,Vg,Vh,Vi,Vj,Vr,Vs,Vt,Vu,Vv,Vw,Vx,Vz,V0,V2,V3,V4,V5,V6,V8,V9,VB,VC,VD,VE,VH,VI,VJ,VK,VL,VN,VS,VU,VX,VY,VZ,Ua,Ub,Uc,Ue,Uf,Ug,Uh,Uj,Ul,Un,Uo,Ut,Uw,Ux,Uz,U0,U1,U2,U3,U4,U5,U6,U7,U8,U9,UA,UB,UC,UD,UE,UF,UG,UH,UN,UO,UP,UQ,UR,US,Td,Te,Th,Ti,Tj,Tk,Tl,Ts,Tt,Tu,Tv,Tx,Ty,T1,T6,T7,TI,TJ,TR,Sa,Sb,Se,Sf,Sg,Si,Sj,Sk,Su,Sv,Sw,SB,SC,SD,SF,SG,SI,e0,e1,e2,e5,z1,z2];all_goals tactic=>exact rfl))
 ·left
  refine⟨hv,?_⟩
  have n0:=aKk hv
  generalize vE v=er at *
  rw[r20 (by simp)];unfold x20;dsimp only
  (sym=>(simp[Za,Zb,Zf,Zg,Zh,Zj,Zl,Zm,Zo,Zv,Zz,Z3,ZH,ZP,ZQ,ZU,ZV,Yt,YX,YZ,Xa,Xb,Xi,Xk,Xl,Xr,Xt,Xu,Xv,XJ,XM,XQ,We,Wg,Wh,Wi,Wm,Ws,Wz,W0,W3,W5,W6,W7,W8,W9,WI,WL,WM,WN,WO,WP,WQ,WS,WT,Vg,Vh,Vi,Vu,Vw,Vx,Vz,V0,V2,V8,V9,VB,VC,VD,VE,VH,VI,VJ,VK,VL,VN,VS,VT,VX,VY,VZ,Ub,Uc,Ue,Uf,Ug,Ul,Uq,Uy,U1,U2,U3,U4,U5,U6,U7,U8,U9,UC,UD,UN,UO,Td,Te,Th,Tl,Ts,Tt,Tu,Ty,T0,T6,T7,Su,SB,SC,SD,SF,SG,SI,e0,n0];all_goals tactic=>exact rfl))
abbrev gO (x:Vn):List Int→XH
 | []=>[some (.blk true (.cells true x.c))]
 | a::r=>[some (.blk true (.cells true x.c)),some (.blk true (.cells true (I a::r.map I)))]
theorem aKO {x:Vn} {c:List Int} (h:aCw x c=0):kC c c.length<2^x.F:=aAN _ (fun j hj=>eE h j hj) (Nat.le_refl _)
section
variable {x:Vn} (ok:x.Ok) {c:List Int} (hc:c.length<1000000000)
include ok hc
end
def eZ (x:Vn) (st:Nat→Nat):List AV:=x.c++(List.range 16).map fun k=>I (st k)
theorem eM (x:Vn) (st:Nat→Nat):(eZ x st).length=22:=by simp[eZ]
theorem iS {x:Vn} {st:Nat→Nat} {k:Nat} (h:k<16):(eZ x st)[6+k]?=some (I (st k)):=by
 rw[eZ,List.getElem?_append_right (by simp),show 6+k-x.c.length=k by simp,List.getElem?_map,List.getElem?_range h];rfl
theorem fX {l:List AV} {o:Nat} {v:AV} (h:o<l.length):cB l o [v]=l.set o v:=by
 rw[List.set_eq_take_append_cons_drop,if_pos h,cB];simp
def jC (st:Nat→Nat) (k v:Nat):Nat→Nat:=fun j=>if j=k then v else st j
theorem vV {x:Vn} {st:Nat→Nat} {k v:Nat} (h:k<16):cB (eZ x st) (6+k) [I v]=eZ x (jC st k v):=by
 rw[fX (by rw[eM];omega)]
 apply List.ext_getElem?
 intro j
 rw[List.getElem?_set,eM]
 by_cases hj:6+k=j
 ·subst hj
  rw[if_pos rfl,if_pos (by omega),iS h,jC,if_pos rfl]
 ·rw[if_neg hj]
  by_cases h6:j<6
  ·rw[eZ,eZ,List.getElem?_append_left (by simpa using h6),List.getElem?_append_left (by simpa using h6)]
  ·by_cases h22:j<22
   ·obtain⟨i,rfl⟩:∃ i,j=6+i:=⟨j-6,by omega⟩
    rw[iS (by omega),iS (by omega),jC,if_neg (by omega)]
   ·rw[List.getElem?_eq_none (by rw[eM];omega),List.getElem?_eq_none (by rw[eM];omega)]
def addS (st:Nat→Nat) (a b:Nat):Nat→Nat:=jC st a (st a|||2^b)
def wX (x:Vn) (i:Nat):Nat→Nat:=(x.bs.take i).foldl (fun st b=>addS (addS st b.1 b.2) b.2 b.1) fun _=>0
def wW (x:Vn) (i:Nat):Nat→Nat:=(x.ps.take i).foldl (fun st p=>addS st p.2.1 p.2.2) (wX x x.bs.length)
def cE (x:Vn):Nat→Nat:=wW x x.ps.length
theorem aBp {n:Nat} {st:Nat→Nat} {a b:Nat} (h:∀ k,st k<2^n) (hb:b<n):∀ k,addS st a b k<2^n:=by
 intro k
 unfold addS jC
 split
 ·exact uR (h a) hb
 ·exact h k
theorem aCT {x:Vn} (ok:x.Ok):∀ i k,wX x i k<2^x.F:=by
 intro i
 have:∀ (l:List (Nat×Nat)) (st:Nat→Nat),(∀ b∈l,b.1<x.F∧b.2<x.F)→(∀ k,st k<2^x.F)→∀ k,(l.foldl (fun st b=>addS (addS st b.1 b.2) b.2 b.1) st) k<2^x.F:=by
  intro l
  induction l with
  | nil=>intro st _ h;exact h
  | cons b l ih =>
    intro st hl h
    have hb:=hl b List.mem_cons_self
    exact ih _ (fun c hc=>hl c (List.mem_cons_of_mem _ hc)) (aBp (aBp h hb.2) hb.1)
 exact this _ _ (fun b hb=>by have:=ok.b b (List.mem_of_mem_take hb);exact⟨this.1,this.2.1⟩) (fun _=>Nat.two_pow_pos _)
theorem dR {x:Vn} (ok:x.Ok):∀ i k,wW x i k<2^x.F:=by
 intro i
 have:∀ (l:List (Nat×Nat×Nat)) (st:Nat→Nat),(∀ b∈l,b.2.2<x.F)→(∀ k,st k<2^x.F)→∀ k,(l.foldl (fun st p=>addS st p.2.1 p.2.2) st) k<2^x.F:=by
  intro l
  induction l with
  | nil=>intro st _ h;exact h
  | cons b l ih =>
    intro st hl h
    exact ih _ (fun c hc=>hl c (List.mem_cons_of_mem _ hc)) (aBp h (hl b List.mem_cons_self))
 exact this _ _ (fun b hb=>(ok.p b (List.mem_of_mem_take hb)).2.2.1) (aCT ok _)
abbrev gL (x:Vn) (st:Nat→Nat):XH:=[some (.blk true (.cells true x.c)),some (.blk true (.cells true (eZ x st)))]
theorem aHf {x:Vn} (ok:x.Ok) {i:Nat} (hi:i<x.bs.length) :
 aS 0 [1,5,19,20,21] (execW aA 56 0 none (match aDZ with | .loop _ a=>a|c=>c) (aV [1,5,19,20,21] [.pt 0 0,.pt 1 0,rB (x.bs.map bI),I x.bs.length,I (i:Nat)]) (gL x (wX x i)))=some ([.pt 0 0,.pt 1 0,rB (x.bs.map bI),I x.bs.length,I (i+1:Nat)],gL x (wX x (i+1))):=by
 obtain⟨b,hx⟩:=bC hi
 have hb:=ok.b b (List.mem_of_getElem? hx)
 have hF:=ok.F16
 have hp:=aU hF
 have a1:=dC hi
 have a2:=dN hi (by have:=ok.nb;omega)
 have l0:=aCT ok i
 have up:wX x (i+1)=addS (addS (wX x i) b.1 b.2) b.2 b.1:=iG hx _
 rw[up]
 generalize wX x i=st at *
 have e1:=w62 (j:=b.1) (by omega)
 have e2:=w62 (j:=b.2) (by omega)
 have n1:((0:Int)≤b.1)=True:=eq_true (by omega)
 have n2:((0:Int)≤b.2)=True:=eq_true (by omega)
 have m1:((b.1:Int)<16)=True:=eq_true (by omega)
 have m2:((b.2:Int)<16)=True:=eq_true (by omega)
 have p1:(2:Nat)^b.1≤2^16:=Nat.pow_le_pow_right (by omega) (by omega)
 have p2:(2:Nat)^b.2≤2^16:=Nat.pow_le_pow_right (by omega) (by omega)
 have k1:=l0 b.1
 have k2:=l0 b.2
 have o1:=dF bY (a:=st b.1) (b:=2^b.2) (by omega) (by omega)
 have q1:=iS (x:=x) (st:=st) (k:=b.1) (by omega)
 have s1:=vV (x:=x) (st:=st) (k:=b.1) (v:=st b.1|||2^b.2) (by omega)
 have q2:=iS (x:=x) (st:=addS st b.1 b.2) (k:=b.2) (by omega)
 have r2:addS st b.1 b.2 b.2=st b.2:=by unfold addS jC;rw[if_neg (fun h=>hb.2.2 h.symm)]
 have o2:=dF bY (a:=st b.2) (b:=2^b.1) (by omega) (by omega)
 have s2:=vV (x:=x) (st:=addS st b.1 b.2) (k:=b.2) (v:=st b.2|||2^b.1) (by omega)
 rw[show jC st b.1 (st b.1|||2^b.2)=addS st b.1 b.2 from rfl]at s1
 rw[show jC (addS st b.1 b.2) b.2 (st b.2|||2^b.1)=addS (addS st b.1 b.2) b.2 b.1 by rw[addS.eq_def (addS st b.1 b.2),r2]]at s2
 rw[r2]at q2
 have z1:=eM x st
 have z2:=eM x (addS st b.1 b.2)
 have t1:(6+b.1+1≤22)=True:=eq_true (by omega)
 have t2:(6+b.2+1≤22)=True:=eq_true (by omega)
 generalize addS (addS st b.1 b.2) b.2 b.1=st2 at *
 generalize addS st b.1 b.2=st1 at *
 unfold aDZ
 dsimp only
 (sym=>(simp[Za,Zb,Zc,Zd,Ze,Zf,Zh,Zi,Zl,Zm,Zv,Zw,Z2,Z3,Z8,Z9,ZA,ZH,ZI,ZK,ZL,ZM,ZN,ZO,ZR,ZS,ZU,ZV,Yc,Yi,Yj,Yl,Yp,Yu,Yy,Yz,YA,YC,YF,YQ,YV,YX,Xb,Xd,Xi,Xr,Xv,Xx,Wq,Ws,Wy,Wz,W0,W3,W4,W5,W6,W7,W8,WA,WB,WC,WF,WG,WI,WJ,WK,WL,WM,WN,WO,WP,WQ,WR,WS,WT,WW,WX,Vd,Vg,Vh,Vi,Vk,Vl,Vm,Vo,VP,VQ,VR,VS,VT,VY,VZ,Ua,Ub,Uc,Ue,Uf,Ug,Uh,Ui,Uj,Ul,Uq,Ur,Us,Ut,Uw,Ux,Uz,U0,U1,U2,U3,U4,U5,U6,U7,UE,Td,Te,Tf,Tg,Th,Ti,Tj,Tk,Ts,Tt,Tv,Tx,Ty,T1,T5,T6,T7,TI,TK,Ss,S6,a1,a2,hx,e1,e2,n1,n2,m1,m2,o1,o2,q1,q2,s1,s2,z1,z2,t1,t2];all_goals tactic=>exact rfl))
abbrev gL1 (x:Vn) (st:Nat→Nat):XH:=[some (.blk true (.cells true (eZ x st)))]
theorem aHe {x:Vn} (ok:x.Ok) {i:Nat} (hi:i<x.ps.length) :
 aS 0 [5,55,56,57] (execW aA 56 0 none (match aDY with | .loop _ a=>a|c=>c) (aV [5,55,56,57] [.pt 0 0,rP (x.ps.map pI),I x.ps.length,I (i:Nat)]) (gL1 x (wW x i)))=some ([.pt 0 0,rP (x.ps.map pI),I x.ps.length,I (i+1:Nat)],gL1 x (wW x (i+1))):=by
 obtain⟨b,hx⟩:=bC hi
 have hb:=ok.p b (List.mem_of_getElem? hx)
 have hF:=ok.F16
 have hp:=aU hF
 have a1:=dC hi
 have a2:=dN hi (by have:=ok.np;omega)
 have l0:=dR ok i
 have up:wW x (i+1)=addS (wW x i) b.2.1 b.2.2:=iG hx _
 rw[up]
 generalize wW x i=st at *
 have e2:=w62 (j:=b.2.2) (by omega)
 have n1:((0:Int)≤b.2.1)=True:=eq_true (by omega)
 have m1:((b.2.1:Int)<16)=True:=eq_true (by omega)
 have p2:(2:Nat)^b.2.2≤2^16:=Nat.pow_le_pow_right (by omega) (by omega)
 have k1:=l0 b.2.1
 have o1:=dF bY (a:=st b.2.1) (b:=2^b.2.2) (by omega) (by omega)
 have q1:=iS (x:=x) (st:=st) (k:=b.2.1) (by omega)
 have s1:=vV (x:=x) (st:=st) (k:=b.2.1) (v:=st b.2.1|||2^b.2.2) (by omega)
 rw[show jC st b.2.1 (st b.2.1|||2^b.2.2)=addS st b.2.1 b.2.2 from rfl]at s1
 have z1:=eM x st
 have t1:(6+b.2.1+1≤22)=True:=eq_true (by omega)
 generalize addS st b.2.1 b.2.2=st1 at *
 unfold aDY
 dsimp only
 (sym=>(simp[Za,Zb,Zc,Zd,Ze,Zf,Zg,Zh,Zk,Zl,Zm,Zv,Zw,Z2,Z3,Z8,Z9,ZA,ZH,ZI,ZK,ZL,ZM,ZN,ZO,ZR,ZS,ZU,ZV,Yc,Yi,Yj,Yl,Yp,Yu,Yy,Yz,YQ,YV,YX,Xb,Xd,Xi,Xr,Xv,Xx,Wq,Ws,Wy,Wz,W0,W3,W4,W5,W6,W7,W8,WA,WB,WF,WG,WI,WJ,WK,WL,WM,WN,WO,WP,WQ,WR,WS,WT,WW,WX,Vd,Vg,Vh,Vi,Vk,Vl,Vm,Vo,Vu,Vw,Vx,Vz,V0,V2,VP,VQ,VR,VS,VT,VY,VZ,Ua,Ub,Uc,Ue,Uf,Ug,Uh,Ui,Uj,Ul,Uq,Ur,Us,Ut,Uw,Ux,Uz,U0,U1,U2,U3,U4,U5,U6,U7,UE,Td,Te,Tf,Tg,Th,Ti,Tj,Tk,Ts,Tt,Tv,Tx,Ty,T1,T5,T6,T7,TI,TK,Ss,S6,SB,SC,SD,SF,SG,SI,a1,a2,hx,e2,n1,m1,o1,q1,s1,z1,t1];all_goals tactic=>exact rfl))
theorem aND (x:Vn):eZ x (fun _=>0)=[I x.F,rB (x.bs.map bI),rP (x.ps.map pI),I x.sick,I x.nur,I x.fix,I 0,I 0,I 0,I 0,I 0,I 0,I 0,I 0,I 0,I 0,I 0,I 0,I 0,I 0,I 0,I 0]:=rfl
theorem w56 {x:Vn} (ok:x.Ok) (h23:runW aA 23 [.agg x.c] []=some (I 0,[])) :
 runW aA 56 [.agg x.c] []=some (.tup [.pt 0 0,I 0],[some (.blk true (.cells true (eZ x (cE x))))]):=by
 have rd:=fun i (hi:i<x.bs.length)=>aHf ok hi
 have rd2:=fun i (hi:i<x.ps.length)=>aHe ok hi
 have z:=Tc (n:=(x.bs.length:Int))
 have zp:=Tc (n:=(x.ps.length:Int))
 have n1:(x.bs.map bI).length=x.bs.length:=List.length_map ..
 have n2:(x.ps.map pI).length=x.ps.length:=List.length_map ..
 rw[r56 (by simp)];unfold x56;dsimp only
 sym =>
  simp[Za,Zb,Zd,Ze,Zf,Zg,Zh,Zj,Zl,Zm,Zo,Zv,Zz,Z0,Z3,Z8,ZG,ZH,ZP,ZQ,ZU,ZV,Yc,Ye,Yt,YT,YX,YZ,Xb,Xi,Xk,Xl,Xr,Xt,Xv,We,Wg,Wi,Ws,Wz,W0,W3,W5,W6,W7,W8,W9,WA,WI,WL,WN,WS,WT,Vg,Vh,Vi,Vu,Vw,Vx,Vz,V0,V2,VN,VS,VU,VX,VY,VZ,Ua,Ub,Uc,Uf,Ug,Uh,Ul,Uo,Ut,Ux,U1,U2,U3,U4,U5,U6,U7,UC,UD,UE,UF,UG,UH,UN,UO,Td,Te,Th,Ti,Tl,Ts,Tt,Tv,Tx,Ty,T6,T7,SB,SC,SD,SF,SG,SI,h23]
  tactic =>
   unfold aDZ
   rw[aE x.bs.length (fun i=>[.pt 0 0,.pt 1 0,rB (x.bs.map bI),I x.bs.length,I (i:Nat)]) (fun i=>gL x (wX x i))]
   ·rw[show wX x x.bs.length=wW x 0 from rfl]
    generalize hst:wW x 0=st
    sym =>
     simp[Za,Zb,Zf,Zh,Zl,Zm,Zv,Z3,Z8,ZG,ZH,Yc,Ye,Yu,Wz,W0,W3,WA,VP,VS,VU,Uh,Uy,Tc,Td,Te,Ti,Ts,Tt,Tw,Tx,Ty,Tz,T4,T6,T7,z,zp]
     tactic =>
      unfold aDY
      rw[aE x.ps.length (fun i=>[.pt 0 0,rP (x.ps.map pI),I x.ps.length,I (i:Nat)]) (fun i=>gL1 x (wW x i))]
      ·rw[show wW x x.ps.length=cE x from rfl]
       generalize cE x=st2
       (sym=>(simp[Za,Zb,Zf,Zh,Zl,Zm,Zv,Z3,Yu,YX,Xa,Xd,Xr,Xu,Xx,XJ,XM,XP,We,Wh,Wl,Wz,WB,WF,WG,WI,WJ,WK,WM,WO,WP,WQ,WR,WW,WX,Vd,Vu,V8,V9,VB,VC,VD,VE,VH,VI,VJ,VK,VL,VP,VS,VU,VZ,Ub,Uc,Ue,Uj,Uw,Uy,U2,U3,U4,U5,U8,U9,UC,UD,Tc,Ts,Tt,Tu,Tw,Ty,Tz,T4,T6,T7,TK,Su,zp];all_goals tactic=>exact rfl))
      ·rw[hst]
       (sym=>(simp[Za,YB,YX,Xb,Xd,Xr,Xv,Xx,Wz,WB,WF,WG,WI,WJ,WK,WM,WO,WP,WQ,WR,WW,WX,Vd,VP,VQ,VR,VY,VZ,Ub,Uc,Ue,Uj,Uw,U2,U3,U4,U5,T5,TK,zp];all_goals tactic=>exact rfl))
      ·exact rd2
      ·rw[show wW x x.ps.length=cE x from rfl]
       generalize cE x=st2
       (sym=>(simp[Za,Zb,Zf,Zh,Zl,Zm,Z3,Yu,VP,VS,VU,VV,Uy,Tc,Ts,Tt,Tw,Ty,Tz,T6,zp];all_goals tactic=>exact rfl))
   ·rw[show wX x 0=(fun _=>0) from rfl,gL,aND]
    (sym=>(simp[Za,YB,YX,Xb,Xd,Xr,Xv,Xx,Wz,WB,WC,WF,WG,WI,WJ,WK,WM,WO,WP,WQ,WR,WW,WX,Vd,VQ,VR,VY,VZ,Ua,Ub,Uc,Ue,Uj,Uw,U2,U3,U4,U5,T5,TK,z];all_goals tactic=>exact rfl))
   ·exact rd
   ·generalize wX x x.bs.length=st
    (sym=>(simp[Za,Zb,Zf,Zh,Zl,Zm,Z3,Yu,VP,VS,VU,VV,Uy,Tc,Ts,Tt,Tw,Ty,Tz,T6,z];all_goals tactic=>exact rfl))
end Go.Proofs.YtiabjdfdkiijmaaDoor
namespace Go.Proofs.YtiabjdfdkiijmaaDoor
open Go Go.DL

def bK (a:Nat):Nat:=(el a).length
theorem pA {p q:Nat→Bool}:∀ l:List Nat,(∀ k∈l,p k=true→q k=true)→(l.filter p).length≤(l.filter q).length
 | [],_=>Nat.le_refl _
 | k::l,h=>by
   have ih:=pA l (fun j hj=>h j (List.mem_cons_of_mem _ hj))
   have hk:=h k List.mem_cons_self
   simp only[List.filter_cons]
   cases hp:p k
   ·cases hq:q k
    ·simpa using ih
    ·simp only[Bool.false_eq_true,if_false,if_true,List.length_cons];omega
   ·rw[hk hp];simpa using ih
theorem tR {p q:Nat→Bool} {i:Nat} (hp:p i=false) (hq:q i=true):∀ l:List Nat,i∈l→(∀ k∈l,p k=true→q k=true)→(l.filter p).length<(l.filter q).length
 | [],hi,_=>by simp at hi
 | k::l,hi,h=>by
   simp only[List.filter_cons]
   by_cases hk:k=i
   ·subst hk
    have:=pA l (fun j hj=>h j (List.mem_cons_of_mem _ hj))
    rw[hp,hq]
    simp only[Bool.false_eq_true,if_false,if_true,List.length_cons];omega
   ·have ih:=tR hp hq l (by rcases List.mem_cons.1 hi with rfl|h;exact absurd rfl hk;exact h) (fun j hj=>h j (List.mem_cons_of_mem _ hj))
    have hk:=h k List.mem_cons_self
    cases hp:p k
    ·cases hq:q k
     ·simpa using ih
     ·simp only[Bool.false_eq_true,if_false,if_true,List.length_cons];omega
    ·rw[hk hp];simpa using ih
def sub (a b:Nat):Prop:=∀ i,a.testBit i=true→b.testBit i=true
theorem dG (a:Nat):sub a a:=fun _ h=>h
theorem oO {a b c:Nat} (h:sub a b) (g:sub b c):sub a c:=fun i hi=>g i (h i hi)
theorem aLC (a k:Nat):sub a (a|||2^k):=fun i hi=>by rw[eU,hi];rfl
theorem jP {a b:Nat} (h:sub a b) (g:sub b a):a=b:=by
 apply Nat.eq_of_testBit_eq
 intro i
 rw[Bool.eq_iff_iff]
 exact⟨h i,g i⟩
theorem pG {a b:Nat} (h:sub a b):bK a≤bK b:=pA _ fun k _ hk=>h k hk
theorem aBk {a b i:Nat} (h:sub a b) (hi:i<16) (ha:a.testBit i=false) (hb:b.testBit i=true):bK a<bK b:=tR ha hb _ (List.mem_range.2 hi) fun k _ hk=>h k hk
theorem lB (a:Nat):bK a≤16:=yG a
theorem fU {a i:Nat} (ha:a<65536) (hi:a.testBit i=true):i<16:=eJ (F:=16) ha hi
theorem aBl {a b:Nat} (h:sub a b) (hb:b<65536) (hc:bK b≤bK a):a=b:=by
 refine jP h fun i hi=>?_
 cases ha:a.testBit i
 ·have:=aBk h (fU hb hi) ha hi
  omega
 ·rfl
theorem aDM {a F:Nat} (ha:a<2^F) (hF:F≤16):bK a≤F:=by
 have e:el a=(List.range F).filter (a.testBit ·):=by
  unfold el
  rw[show (16:Nat)=F+(16-F) by omega,List.range_add,List.filter_append]
  rw[(List.filter_eq_nil_iff (l:=List.map (F + ·) (List.range (16-F)))).2,List.append_nil]
  intro k hk
  rw[List.mem_map]at hk
  obtain⟨j,_,rfl⟩:=hk
  rw[uB ha (by omega)];simp
 rw[bK,e]
 have:=List.length_filter_le (fun k=>a.testBit k) (List.range F)
 simpa using this
theorem aDN:bK 0=0:=rfl
theorem aIT {a i:Nat} (hi:i<16) (h:a.testBit i=true):0<bK a:=by
 have:=aBk (a:=0) (b:=a) (fun _ h=>by simp at h) hi (by simp) h
 omega
theorem aBj {a b:Nat} (h:∀ i,a.testBit i=true→b.testBit i=false):bK (a|||b)=bK a+bK b:=by
 unfold bK el
 rw[←tQ h]
 congr 2
 funext k
 rw[Nat.testBit_or]
theorem aCD {i:Nat} (hi:i<16):bK (2^i)=1:=by
 match i,hi with
 | 0,_=>rfl
 | 1,_=>rfl
 | 2,_=>rfl
 | 3,_=>rfl
 | 4,_=>rfl
 | 5,_=>rfl
 | 6,_=>rfl
 | 7,_=>rfl
 | 8,_=>rfl
 | 9,_=>rfl
 | 10,_=>rfl
 | 11,_=>rfl
 | 12,_=>rfl
 | 13,_=>rfl
 | 14,_=>rfl
 | 15,_=>rfl
 | _+16,h=>exact absurd h (by omega)
theorem rN (i j:Nat):(2^i).testBit j=decide (i=j):=by rw[Nat.testBit_two_pow]
theorem mR {a i:Nat} (hi:i<16) (ha:a.testBit i=false):bK (a|||2^i)=bK a+1:=by
 rw[aBj,aCD hi]
 intro j hj
 rw[rN]
 have:i≠j:=fun h=>by rw[h,hj]at ha;simp at ha
 simp[this]
inductive Rch (st:Nat→Nat) (s cl:Nat):Nat→Prop
 | base {f:Nat}:s.testBit f=true→cl.testBit f=false→Rch st s cl f
 | step {a b:Nat}:Rch st s cl a→(st a).testBit b=true→cl.testBit b=false→Rch st s cl b
theorem Rch.free {st:Nat→Nat} {s cl f:Nat} (h:Rch st s cl f):cl.testBit f=false:=by cases h<;>assumption
theorem Rch.lt {st:Nat→Nat} {s cl f F:Nat} (hs:s<2^F) (hst:∀ k,st k<2^F) (h:Rch st s cl f):f<F:=by
 cases h with
 | base h _=>exact eJ hs h
 | step _ h _=>exact eJ (hst _) h
def Clo (st:Nat→Nat) (cl m:Nat):Prop:=∀ a b,m.testBit a=true→(st a).testBit b=true→cl.testBit b=false→m.testBit b=true
theorem Rch.sub {st:Nat→Nat} {s cl m f:Nat} (h0:∀ i,s.testBit i=true→cl.testBit i=false→m.testBit i=true) (hc:Clo st cl m) (h:Rch st s cl f):m.testBit f=true:=by
 induction h with
 | base h g=>exact h0 _ h g
 | step _ h g ih=>exact hc _ _ ih h g
theorem Rch.mono {st st':Nat→Nat} {s s' cl cl' f:Nat} (h0:Go.Proofs.YtiabjdfdkiijmaaDoor.sub s s') (h1:∀ k,Go.Proofs.YtiabjdfdkiijmaaDoor.sub (st k) (st' k)) (h2:Go.Proofs.YtiabjdfdkiijmaaDoor.sub cl' cl) (h:Rch st s cl f):Rch st' s' cl' f:=by
 have g:∀ i,cl.testBit i=false→cl'.testBit i=false:=fun i hi=>by
  cases h:cl'.testBit i
  ·rfl
  ·rw[h2 i h]at hi;simp at hi
 induction h with
 | base h q=>exact .base (h0 _ h) (g _ q)
 | step _ h q ih=>exact .step ih (h1 _ _ h) (g _ q)
theorem aLo {F:Nat} {M:Nat→Nat} {P:Nat→Prop} (hF:F≤16) (hl:∀ k,M k<2^F) (hm:∀ k,sub (M k) (M (k+1))) (hp:∀ k,M (k+1)=M k→P (M k)) (hk:∀ k,P (M k)→P (M (k+1))) (hfull:P (2^F-1)):P (M F):=by
 have up:∀ k,P (M k)∨k≤bK (M k):=by
  intro k
  induction k with
  | zero=>exact .inr (Nat.zero_le _)
  | succ k ih =>
    rcases ih with ih|ih
    ·exact .inl (hk k ih)
    ·by_cases e:M (k+1)=M k
     ·exact .inl (hk k (hp k e))
     ·right
      have h16:M (k+1)<65536:=Nat.lt_of_lt_of_le (hl _) (aU hF)
      by_cases hc:bK (M (k+1))≤bK (M k)
      ·exact absurd (aBl (hm k) h16 hc).symm e
      ·omega
 rcases up F with h|h
 ·exact h
 ·have e:M F=2^F-1:=by
   refine aBl ?_ ?_ ?_
   ·intro i hi
    rw[Nat.testBit_two_pow_sub_one]
    simpa using eJ (hl F) hi
   ·have:=aU hF
    have:=Nat.two_pow_pos F
    omega
   ·have:=aDM (a:=2^F-1) (F:=F) (by have:=Nat.two_pow_pos F;omega) hF
    omega
  rw[e];exact hfull
end Go.Proofs.YtiabjdfdkiijmaaDoor
namespace Go.Proofs.YtiabjdfdkiijmaaDoor
open Go Go.DL
set_option maxRecDepth 100000
set_option maxHeartbeats 4000000
theorem aGQ {σ:Type} (n:Nat) (Inv:Nat→σ→Prop) (St:Nat→σ→σ→Prop) (s0:σ) (h0:Inv 0 s0) (hs:∀ i s,i<n→Inv i s→∃ s',Inv (i+1) s'∧St i s s'):∃ F:Nat→σ,F 0=s0∧(∀ i,i≤n→Inv i (F i))∧∀ i,i<n→St i (F i) (F (i+1)):=by
 induction n with
 | zero=>exact⟨fun _=>s0,rfl,fun i hi=>by obtain rfl:i=0:=(by omega);exact h0,fun i hi=>by omega⟩
 | succ n ih =>
   obtain⟨F,h1,h2,h3⟩:=ih fun i s hi=>hs i s (by omega)
   obtain⟨s',h4,h5⟩:=hs n (F n) (by omega) (h2 n (Nat.le_refl _))
   refine⟨fun i=>if i≤n then F i else s',(if_pos (Nat.zero_le n)).trans h1,fun i hi=>?_,fun i hi=>?_⟩
   ·dsimp only
    by_cases h:i≤n
    ·rw[if_pos h];exact h2 i h
    ·obtain rfl:i=n+1:=by omega
     rw[if_neg h];exact h4
   ·dsimp only
    by_cases h:i+1≤n
    ·rw[if_pos h,if_pos (by omega)];exact h3 i (by omega)
    ·obtain rfl:i=n:=by omega
     rw[if_neg h,if_pos (Nat.le_refl _)];exact h5
abbrev gV (M:Nat) (ci:Int) (l:List AV):XH:=[cI M,some (.blk true (.cells true [I ci])),some (.blk false (.cells true [.pt 3 0])),some (.blk true (.cells true l)),some (.blk false (.cells true [.fn (.func 84) [] [.pt 0 0,.pt 1 0,.pt 2 0,.pt 4 0]]))]
abbrev gX (K:Nat) (M:Nat) (ci:Int) (l:List AV):XH:=[some (.loop K 0 [.pt 1 0] .ready),some (.blk false (.cells true [.fn (.func 84) [] [.pt 2 0,.pt 3 0,.pt 4 0,.pt 1 0]])),cI M,some (.blk true (.cells true [I ci])),some (.blk false (.cells true [.pt 5 0])),some (.blk true (.cells true l))]
theorem aLn (K M:Nat) (ci:Int) (l:List AV):aGh 6 (gX K M ci l):=by
 refine⟨fun _=>rfl,fun _ _=>rfl,fun _=>rfl,?_,?_⟩
 ·intro a e h0 h1
  (sym=>(simp[Xd,Xg,Xh,Xx,X0,XI,WB,WG,WI,WK,WM,WN,WO,WP,WQ,WW,WX,WY,WZ,Vc,Vd,Ve,Vf,VQ,VR,VY,VZ,Ua,Ub,Uc,Ud,Ue,Uw,U1,U2,U3,U4,U5,T5,h0,h1];all_goals tactic=>exact rfl))
 ·intro a
  (sym=>(simp[Za,Xa,Xd,Xg,Xu,Xx,X0,XM,Wh,WB,WG,WI,WK,WM,WN,WO,WP,WQ,WW,WX,WY,WZ,Vc,Vd,Ve,Vf,Vu,VB,VC,VD,VY,VZ,Ua,Ub,Uc,Ud,Ue,Uw,U1,U2,U3,U4,U5,U8,UC,Su];all_goals tactic=>exact rfl))
structure aOc (st:Nat→Nat) (cl M M' f:Nat):Prop where
 sub:sub M M'
 lt:M'<65536
 has:cl.testBit f=true∨M'.testBit f=true
 new:∀ a,M'.testBit a=true→M.testBit a=false→Rch st (2^f) cl a∧∀ b,(st a).testBit b=true→cl.testBit b=false→M'.testBit b=true
def Clr (ci:Int) (cl:Nat):Prop:=∀ f:Nat,f<16→runW aA 60 [I ci,I f] []=some (.bool (cl.testBit f),[])
theorem aKV {cl:Nat} (h:cl<65536):Clr (cl:Int) cl:=fun f hf=>pK (by omega) (by omega)
def yZ (l:List AV) (ci:Int) (M M' f:Nat):Prop:=runW aA 84 [I (f:Nat),.pt 0 0,.pt 1 0,.pt 2 0,.pt 4 0] (gV M ci l)=some (.tup [],gV M' ci l)
theorem aOf {l:List AV} {ci:Int} {M M' v:Nat} (h:yZ l ci M M' v):Yd (gX 84 M ci l) (gX 84 M' ci l) v true:=by
 unfold yZ at h
 have y:runYW aA (.fn (.yield 0) [] []) [I (v:Nat)] (gX 84 M ci l)=some (.bool true,gX 84 M' ci l):=by
  rw[kD (K:=84) (d:=x84) (site:=0) (vs:=[.pt 1 0]) rfl rfl (by rfl) rfl]
  (sym=>(simp[Za,Zb,Zf,Zg,Zh,Zj,Zl,Zm,Zv,ZH,ZP,ZQ,ZU,ZV,YX,YY,Xd,Xg,Xr,Xs,Xu,Xx,X0,XJ,We,Wz,W0,W3,W4,W7,W8,WA,WB,WC,WE,WF,WG,WH,WI,WJ,WK,WL,WM,WN,WO,WP,WQ,WS,WT,WU,WW,WX,WY,WZ,Vc,Vd,Ve,Vf,Vg,Vh,Vi,Vj,Vu,Vw,Vx,Vy,VA,VD,VP,VY,VZ,Ua,Ub,Uc,Ud,Ue,Uf,Ug,Uj,Uv,Uw,U1,U2,U3,U4,U5,UL,UM,Td,Te,Ti,Tx,T1,T6,Sa,Sb,Sc,Sd,Sm,Sn,Sp,Sq,Su,SB,SC,SE,SF,SG,SI,h];all_goals tactic=>exact rfl))
 intro a
 (sym=>(simp[YX,Xd,Xg,Xh,Xr,Xs,Xx,X0,XI,Wz,W4,W7,W8,WA,WB,WC,WE,WF,WH,WI,WJ,WK,WL,WN,WO,WS,WT,WU,WW,WX,WY,WZ,Vd,Ve,Vf,Vg,Vh,Vi,Vj,VY,VZ,Ua,Ub,Uc,Uf,Ug,Uj,Uv,Uw,U1,U2,U3,U4,U5,Sl,y];all_goals tactic=>exact rfl))
theorem aGs {st:Nat→Nat} {l:List AV} {ci:Int} {cl:Nat} {M0:Nat} (h0:M0<65536) (a:Nat) (hv:∀ M v,M<65536→sub M0 M→v∈el a→∃ M',aOc st cl M M' v∧yZ l ci M M' v) :
 ∃ F:Nat→Nat,F 0=M0∧(∀ i v,(el a)[i]?=some v→yZ l ci (F i) (F (i+1)) v)∧sub M0 (F (el a).length)∧F (el a).length<65536∧(∀ v∈el a,cl.testBit v=true∨(F (el a).length).testBit v=true) ∧
   (∀ b,(F (el a).length).testBit b=true→M0.testBit b=false→(∃ v∈el a,Rch st (2^v) cl b)∧∀ c,(st b).testBit c=true→cl.testBit c=false→(F (el a).length).testBit c=true):=by
 obtain⟨F,f0,f1,f2⟩:=aGQ (el a).length
  (fun i M=>sub M0 M∧M<65536∧(∀ j v,j<i→(el a)[j]?=some v→cl.testBit v=true∨M.testBit v=true) ∧
   (∀ b,M.testBit b=true→M0.testBit b=false→(∃ v∈el a,Rch st (2^v) cl b)∧∀ c,(st b).testBit c=true→cl.testBit c=false→M.testBit c=true))
  (fun i M M'=>∀ v,(el a)[i]?=some v→yZ l ci M M' v) M0
  ⟨dG _,h0,fun j v hj=>absurd hj (by omega),fun b h1 h2=>by rw[h1]at h2;simp at h2⟩
  (by
   rintro i M hi ⟨g1,g2,g3,g4⟩
   obtain⟨v,hx⟩:=bC hi
   have hm:=List.mem_of_getElem? hx
   obtain⟨M',p,k⟩:=hv M v g2 g1 hm
   refine⟨M',⟨oO g1 p.sub,p.lt,?_,?_⟩,fun w hw=>by rw[hx]at hw;rw[←Option.some.inj hw];exact k⟩
   ·intro j w hj hw
    by_cases e:j=i
    ·subst e
     rw[hx]at hw
     rw[←Option.some.inj hw];exact p.has
    ·rcases g3 j w (by omega) hw with h|h
     ·exact .inl h
     ·exact .inr (p.sub _ h)
   ·intro b h1 h2
    cases hb:M.testBit b
    ·have:=p.new b h1 hb
     exact⟨⟨v,hm,this.1⟩,this.2⟩
    ·obtain⟨q1,q2⟩:=g4 b hb h2
     exact⟨q1,fun c hc hd=>p.sub _ (q2 c hc hd)⟩)
 obtain⟨e1,e2,e3,e4⟩:=f1 _ (Nat.le_refl _)
 refine⟨F,f0,fun i v hx=>f2 i (dB hx) v hx,e1,e2,?_,e4⟩
 intro v hm
 obtain⟨j,hj⟩:=List.getElem?_of_mem hm
 exact e3 j v (dB hj) hj
theorem aJZ {st:Nat→Nat} {cl f v b:Nat} (hf:cl.testBit f=false) (hv:(st f).testBit v=true) (h:Rch st (2^v) cl b):Rch st (2^f) cl b:=by
 induction h with
 | base h g =>
   rw[rN]at h
   obtain rfl:=of_decide_eq_true h
   exact .step (.base (by rw[rN];simp) hf) hv g
 | step _ h g ih=>exact .step ih h g
theorem w84 {l:List AV} {st:Nat→Nat} {ci:Int} {cl:Nat} (hl:∀ k,k<16→l[6+k]?=some (I (st k))) (hst:∀ k,st k<65536) (hc:Clr ci cl) :
 ∀ n M f,M<65536→f<16→16≤bK M+n→∃ M',aOc st cl M M' f∧yZ l ci M M' f:=by
 intro n
 induction n with
 | zero =>
   intro M f hM hf hn
   have e1:=pK (a:=M) (j:=f) (by omega) (by omega)
   cases h:M.testBit f
   ·have:=mR hf h
    have:=lB (M|||2^f)
    omega
   ·refine⟨M,⟨dG _,hM,.inr h,fun a h1 h2=>by rw[h1]at h2;simp at h2⟩,?_⟩
    rw[h]at e1
    unfold yZ
    rw[r84 (by simp)];unfold x84;dsimp only
    (sym=>(simp[Za,Zb,Zf,Zg,Zj,Zl,Zm,Zp,Zt,Zv,Zy,ZH,ZP,ZQ,ZU,ZV,ZW,YX,Xa,Xd,Xg,Xr,Xs,Xu,Xx,X0,XM,We,Wh,Wl,Wz,W0,W3,W8,W9,WA,WB,WG,WI,WK,WL,WM,WN,WO,WP,WQ,WS,WT,WW,WX,WY,Vc,Vd,Ve,Vg,Vh,Vi,Vu,Vw,Vx,Vz,V0,V2,V8,V9,VB,VC,VD,VE,VG,VI,VN,VS,VT,VX,VY,VZ,Ua,Ub,Uc,Ud,Ue,Uf,Ug,Uw,U1,U2,U3,U4,U5,U8,UC,UD,Td,Te,Ti,Tt,Tu,Ty,T0,T6,T7,Su,SB,SC,SD,SF,SG,SI,e1];all_goals tactic=>exact rfl))
 | succ n ih =>
   intro M f hM hf hn
   have e1:=pK (a:=M) (j:=f) (by omega) (by omega)
   have e2:=hc f hf
   cases h:M.testBit f
   ·cases h2:cl.testBit f
    ·rw[h]at e1
     rw[h2]at e2
     have e3:=w62 (j:=f) (by omega)
     have hp:2^f<65536:=Nat.pow_lt_pow_of_lt (a:=2) (n:=f) (m:=16) (by omega) hf
     have o1:=dF bY (a:=M) (b:=2^f) (by omega) (Nat.lt_trans hp (by omega))
     have hM1:M|||2^f<65536:=Nat.or_lt_two_pow (n:=16) hM hp
     have hcu:=mR hf h
     obtain⟨F,f0,f1,f2,f3,f4,f5⟩:=aGs (st:=st) (l:=l) (ci:=ci) (cl:=cl) hM1 (st f) (fun M' v h1 h2 h3=>ih M' v h1 (iV.1 h3).1 (by have:=pG h2;omega))
     have ea:=sG (n:=6) (G:=fun i=>gX 84 (F i) ci l) (hst f) (fun i _=>aLn 84 _ _ _) (fun i v hx=>aOf (f1 i v hx))
     rw[f0]at ea
     have w8:=w80 (a:=st f)
     have k1:=hl f hf
     have n1:((0:Int)≤f)=True:=eq_true (by omega)
     have m1:((f:Int)<16)=True:=eq_true (by omega)
     refine⟨F (el (st f)).length,⟨oO (aLC M f) f2,f3,.inr (f2 f (by rw[eU];simp)),?_⟩,?_⟩
     ·intro a h3 h4
      by_cases ha:f=a
      ·subst ha
       refine⟨.base (by rw[rN];simp) h2,fun b hb hd=>?_⟩
       rcases f4 b (iV.2 ⟨fU (hst f) hb,hb⟩)with q|q
       ·rw[hd]at q;simp at q
       ·exact q
      ·obtain⟨⟨v,hv,q1⟩,q2⟩:=f5 a h3 (by rw[eU,h4];simp[ha])
       exact⟨aJZ h2 (iV.1 hv).2 q1,q2⟩
     ·unfold yZ
      generalize M|||2^f=M1 at *
      generalize F (el (st f)).length=M2 at *
      have ea:runW aA 86 [.fn (.yield 0) [] [],.pt 6 0] [some (.loop 84 0 [.pt 1 0] .ready),some (.blk false (.cells true [.fn (.func 84) [] [.pt 2 0,.pt 3 0,.pt 4 0,.pt 1 0]])),cI M1,some (.blk true (.cells true [I ci])),some (.blk false (.cells true [.pt 5 0])),some (.blk true (.cells true l)),cI (st f)] =
       some (.tup [],[some (.loop 84 0 [.pt 1 0] .ready),some (.blk false (.cells true [.fn (.func 84) [] [.pt 2 0,.pt 3 0,.pt 4 0,.pt 1 0]])),cI M2,some (.blk true (.cells true [I ci])),some (.blk false (.cells true [.pt 5 0])),some (.blk true (.cells true l)),some (.blk true (.cells true [.int .i64 0]))]):=ea
      rw[r84 (by simp)];unfold x84;dsimp only
      (sym=>(simp[Za,Zb,Zc,Ze,Zf,Zg,Zh,Zi,Zj,Zl,Zm,Zp,Zr,Zv,Zy,Z2,Z3,Z8,Z9,ZH,ZI,ZK,ZL,ZN,ZO,ZP,ZQ,ZR,ZS,ZU,ZV,ZX,Yc,Yp,Yy,Yz,YQ,YV,YX,Xa,Xd,Xg,Xh,Xi,Xr,Xs,Xu,Xx,X0,XI,XM,We,Wh,Wl,Wq,Wy,Wz,W0,W3,W4,W5,W7,W8,W9,WA,WB,WC,WE,WF,WG,WH,WI,WJ,WK,WL,WM,WN,WO,WP,WQ,WS,WT,WU,WW,WX,WY,WZ,Vc,Vd,Ve,Vf,Vg,Vh,Vi,Vj,Vk,Vl,Vm,Vo,Vu,Vw,Vx,Vz,V0,V2,V7,V9,VB,VC,VD,VE,VG,VI,VN,VS,VU,VX,VY,VZ,Ua,Ub,Uc,Ud,Ue,Uf,Ug,Uj,Ul,Uq,Ur,Us,Ut,Uv,Uw,Uz,U0,U1,U2,U3,U4,U5,U6,U7,U8,UC,UD,UE,Td,Te,Ti,Tj,Tk,Ts,Tt,Tv,Tx,Ty,T1,T6,T7,TI,Sa,Sb,Se,Sf,Sg,Si,Sj,Sk,Ss,Su,S6,SB,SC,SD,SF,SG,SI,e1,e2,e3,o1,w8,k1,n1,m1,ea];all_goals tactic=>exact rfl))
    ·refine⟨M,⟨dG _,hM,.inl h2,fun a h1 h2=>by rw[h1]at h2;simp at h2⟩,?_⟩
     rw[h]at e1
     rw[h2]at e2
     unfold yZ
     rw[r84 (by simp)];unfold x84;dsimp only
     (sym=>(simp[Za,Zb,Zf,Zg,Zj,Zl,Zm,Zp,Zr,Zv,Zy,ZH,ZP,ZQ,ZU,ZV,ZX,YX,Xa,Xd,Xg,Xr,Xs,Xu,Xx,X0,XM,We,Wh,Wl,Wz,W0,W3,W8,W9,WA,WB,WG,WI,WK,WL,WM,WN,WO,WP,WQ,WS,WT,WW,WX,WY,Vc,Vd,Ve,Vg,Vh,Vi,Vu,Vw,Vx,Vz,V0,V2,V8,V9,VB,VC,VD,VE,VG,VI,VN,VS,VT,VX,VY,VZ,Ua,Ub,Uc,Ud,Ue,Uf,Ug,Uw,U1,U2,U3,U4,U5,U8,UC,UD,Td,Te,Ti,Tt,Tu,Ty,T0,T6,T7,Su,SB,SC,SD,SF,SG,SI,e1,e2];all_goals tactic=>exact rfl))
   ·refine⟨M,⟨dG _,hM,.inr h,fun a h1 h2=>by rw[h1]at h2;simp at h2⟩,?_⟩
    rw[h]at e1
    unfold yZ
    rw[r84 (by simp)];unfold x84;dsimp only
    (sym=>(simp[Za,Zb,Zf,Zg,Zj,Zl,Zm,Zp,Zt,Zv,Zy,ZH,ZP,ZQ,ZU,ZV,ZW,YX,Xa,Xd,Xg,Xr,Xs,Xu,Xx,X0,XM,We,Wh,Wl,Wz,W0,W3,W8,W9,WA,WB,WG,WI,WK,WL,WM,WN,WO,WP,WQ,WS,WT,WW,WX,WY,Vc,Vd,Ve,Vg,Vh,Vi,Vu,Vw,Vx,Vz,V0,V2,V8,V9,VB,VC,VD,VE,VG,VI,VN,VS,VT,VX,VY,VZ,Ua,Ub,Uc,Ud,Ue,Uf,Ug,Uw,U1,U2,U3,U4,U5,U8,UC,UD,Td,Te,Ti,Tt,Tu,Ty,T0,T6,T7,Su,SB,SC,SD,SF,SG,SI,e1];all_goals tactic=>exact rfl))
def kJ (st:Nat→Nat) (cl:Nat) (m a:Nat):Nat:=if m.testBit a then m|||eO (st a) cl else m
def aNy (st:Nat→Nat) (cl:Nat) (m:Nat):Nat:=(List.range 16).foldl (kJ st cl) m
def rM (st:Nat→Nat) (s cl:Nat):Nat→Nat
 | 0=>eO s cl
 | n+1=>aNy st cl (rM st s cl n)
def eT (st:Nat→Nat) (s cl:Nat):Nat:=rM st s cl 16
section
variable {st:Nat→Nat} {s cl:Nat} (hst:∀ k,st k<65536) (hs:s<65536) (hcl:cl<65536)
theorem xL (m a:Nat):sub m (kJ st cl m a):=fun i hi=>by
 unfold kJ
 split
 ·rw[Nat.testBit_or,hi];rfl
 ·exact hi
include hst in
theorem aKa {m:Nat} (a:Nat) (h:m<65536):kJ st cl m a<65536:=by
 unfold kJ
 split
 ·exact Nat.or_lt_two_pow (n:=16) h (Nat.lt_of_le_of_lt (fS _ _) (hst a))
 ·exact h
theorem oZ (l:List Nat) (m:Nat):sub m (l.foldl (kJ st cl) m):=by
 induction l generalizing m with
 | nil=>exact dG _
 | cons a l ih=>exact oO (xL m a) (ih _)
include hst in
theorem aIw (l:List Nat) {m:Nat} (h:m<65536):l.foldl (kJ st cl) m<65536:=by
 induction l generalizing m with
 | nil=>exact h
 | cons a l ih=>exact ih (aKa hst a h)
include hst hs in
theorem vP:∀ n,rM st s cl n<2^16
 | 0=>Nat.lt_of_le_of_lt (fS _ _) hs
 | n+1=>aIw hst _ (vP n)
include hcl in
theorem aHP:∀ n i,(rM st s cl n).testBit i=true→Rch st s cl i:=by
 have main:∀ (l:List Nat) (m:Nat),(∀ i,m.testBit i=true→Rch st s cl i)→∀ i,(l.foldl (kJ st cl) m).testBit i=true→Rch st s cl i:=by
  intro l
  induction l with
  | nil=>intro m h;exact h
  | cons a l ih =>
    intro m h
    refine ih _ fun i hi=>?_
    unfold kJ at hi
    split at hi
    ·next ha =>
     rw[Nat.testBit_or,Bool.or_eq_true]at hi
     rcases hi with hi|hi
     ·exact h i hi
     ·rw[bX (by omega)]at hi
      simp only[Bool.and_eq_true,Bool.not_eq_true']at hi
      exact .step (h a ha) hi.1 hi.2.2
    ·exact h i hi
 intro n
 induction n with
 | zero =>
   intro i hi
   rw[rM,bX (by omega)]at hi
   simp only[Bool.and_eq_true,Bool.not_eq_true']at hi
   exact .base hi.1 hi.2.2
 | succ n ih=>exact main _ _ ih
include hst hcl in
theorem aFG {m:Nat} (hm:m<65536) (h:aNy st cl m=m):Clo st cl m:=by
 intro a b ha hb hc
 have h16:=fU hm ha
 have main:∀ (l:List Nat) (m:Nat),m.testBit a=true→a∈l→(l.foldl (kJ st cl) m).testBit b=true:=by
  intro l
  induction l with
  | nil=>intro m _ h;simp at h
  | cons k l ih =>
    intro m hm hk
    by_cases e:a=k
    ·subst e
     refine oZ l _ b ?_
     unfold kJ
     rw[if_pos hm,Nat.testBit_or,bX (by omega),hb,hc]
     have:=fU (hst a) hb
     simp;omega
    ·exact ih _ (xL m k a hm) (by rcases List.mem_cons.1 hk with h|h;exact absurd h e;exact h)
 have:=main (List.range 16) m ha (List.mem_range.2 h16)
 rw[show (List.range 16).foldl (kJ st cl) m=m from h]at this
 exact this
include hst hs hcl in
theorem kI (i:Nat):(eT st s cl).testBit i=true↔Rch st s cl i:=by
 constructor
 ·exact aHP hcl 16 i
 ·intro h
  refine h.sub (m:=eT st s cl) (fun j hj hc=>?_) ?_
  ·have:∀ n,(rM st s cl n).testBit j=true:=by
    intro n
    induction n with
    | zero =>
      rw[rM,bX (by omega),hj,hc]
      have:=fU hs hj
      simp;omega
    | succ n ih=>exact oZ _ _ j ih
   exact this 16
  ·refine aLo (F:=16) (M:=rM st s cl) (P:=Clo st cl) (by omega) (vP hst hs) (fun k=>oZ _ _) (fun k hk=>aFG hst hcl (vP hst hs k) hk) (fun k hk=>?_) ?_
   ·have e:rM st s cl (k+1)=rM st s cl k:=by
     have hin:∀ (l:List Nat),l.foldl (kJ st cl) (rM st s cl k)=rM st s cl k:=by
      intro l
      induction l with
      | nil=>rfl
      | cons a l ih =>
        have:kJ st cl (rM st s cl k) a=rM st s cl k:=by
         unfold kJ
         split
         ·next ha =>
          refine jP (fun i hi=>?_) (fun i hi=>by rw[Nat.testBit_or,hi];rfl)
          rw[Nat.testBit_or,Bool.or_eq_true]at hi
          rcases hi with hi|hi
          ·exact hi
          ·rw[bX (by omega)]at hi
           simp only[Bool.and_eq_true,Bool.not_eq_true']at hi
           exact hk a i ha hi.1 hi.2.2
         ·rfl
        rw[List.foldl_cons,this,ih]
     exact hin _
    rw[e];exact hk
   ·intro a b _ hb _
    rw[Nat.testBit_two_pow_sub_one]
    simpa using fU (hst a) hb
include hst hs in
theorem aFF:eT st s cl<65536:=vP hst hs 16
end
theorem w78 {l:List AV} {st:Nat→Nat} {ci:Int} {s cl:Nat} (hl:∀ k,k<16→l[6+k]?=some (I (st k))) (h3:l[3]?=some (I s)) (hst:∀ k,st k<65536) (hs:s<65536) (hcl:cl<65536) (hc:Clr ci cl) :
 runW aA 78 [.pt 0 0,I ci] [some (.blk true (.cells true l))]=some (I (eT st s cl:Nat),[some (.blk true (.cells true l))]):=by
 obtain⟨F,f0,f1,f2,f3,f4,f5⟩:=aGs (st:=st) (l:=l) (ci:=ci) (cl:=cl) (M0:=0) (by omega) s (fun M' v h1 h2 h3=>w84 hl hst hc 16 M' v h1 (iV.1 h3).1 (by omega))
 have er:F (el s).length=eT st s cl:=by
  apply Nat.eq_of_testBit_eq
  intro i
  rw[Bool.eq_iff_iff,kI hst hs hcl]
  constructor
  ·intro h
   obtain⟨⟨v,hv,q⟩,_⟩:=f5 i h (by simp)
   refine q.mono (fun j hj=>?_) (fun _=>dG _) (dG _)
   rw[rN]at hj
   rw[←of_decide_eq_true hj];exact(iV.1 hv).2
  ·intro h
   refine h.sub (fun j hj hd=>?_) (fun a b ha hb hd=>(f5 a ha (by simp)).2 b hb hd)
   rcases f4 j (iV.2 ⟨fU hs hj,hj⟩)with q|q
   ·rw[hd]at q;simp at q
   ·exact q
 have ea:=sG (n:=6) (G:=fun i=>gX 78 (F i) ci l) hs (fun i _=>aLn 78 _ _ _) (fun i v hx=>by
  have h:=f1 i v hx
  generalize F i=M at *
  generalize F (i+1)=M' at *
  unfold yZ at h
  have y:runYW aA (.fn (.yield 0) [] []) [I (v:Nat)] (gX 78 M ci l)=some (.bool true,gX 78 M' ci l):=by
   rw[kD (K:=78) (d:=x78) (site:=0) (vs:=[.pt 1 0]) rfl rfl (by rfl) rfl]
   (sym=>(simp[Za,Zb,Zf,Zg,Zh,Zj,Zl,Zm,Zv,ZH,ZP,ZQ,ZU,ZV,YX,YY,Xd,Xg,Xr,Xs,Xu,Xx,X0,XJ,We,Wz,W0,W3,W4,W7,W8,WA,WB,WC,WE,WF,WG,WH,WI,WJ,WK,WL,WM,WN,WO,WP,WQ,WS,WT,WU,WW,WX,WY,WZ,Vc,Vd,Ve,Vf,Vg,Vh,Vi,Vj,Vu,Vw,Vx,Vy,VA,VD,VP,VY,VZ,Ua,Ub,Uc,Ud,Ue,Uf,Ug,Uj,Uv,Uw,U1,U2,U3,U4,U5,UL,UM,Td,Te,Ti,Tx,T1,T6,Sa,Sb,Sc,Sd,Sm,Sn,Sp,Sq,Su,SB,SC,SE,SF,SG,SI,h];all_goals tactic=>exact rfl))
  intro a
  (sym=>(simp[YX,Xd,Xg,Xh,Xr,Xs,Xx,X0,XI,Wz,W4,W7,W8,WA,WB,WC,WE,WF,WH,WI,WJ,WK,WL,WN,WO,WS,WT,WU,WW,WX,WY,WZ,Vd,Ve,Vf,Vg,Vh,Vi,Vj,VY,VZ,Ua,Ub,Uc,Uf,Ug,Uj,Uv,Uw,U1,U2,U3,U4,U5,Sl,y];all_goals tactic=>exact rfl)))
 rw[f0]at ea
 have w8:=w80 (a:=s)
 rw[er]at ea
 generalize eT st s cl=M2 at *
 have ea:runW aA 86 [.fn (.yield 0) [] [],.pt 6 0] [some (.loop 78 0 [.pt 1 0] .ready),some (.blk false (.cells true [.fn (.func 84) [] [.pt 2 0,.pt 3 0,.pt 4 0,.pt 1 0]])),some (.blk true (.cells true [.int .i64 0])),some (.blk true (.cells true [I ci])),some (.blk false (.cells true [.pt 5 0])),some (.blk true (.cells true l)),cI s] =
  some (.tup [],[some (.loop 78 0 [.pt 1 0] .ready),some (.blk false (.cells true [.fn (.func 84) [] [.pt 2 0,.pt 3 0,.pt 4 0,.pt 1 0]])),cI M2,some (.blk true (.cells true [I ci])),some (.blk false (.cells true [.pt 5 0])),some (.blk true (.cells true l)),some (.blk true (.cells true [.int .i64 0]))]):=ea
 rw[r78 (by simp)];unfold x78;dsimp only
 (sym=>(simp[Za,Zb,Zc,Zf,Zh,Zl,Zm,Zo,Zv,Zw,Zx,Zz,Z2,Z8,ZH,ZL,ZM,ZP,ZQ,ZU,ZV,Yc,YV,YX,Xd,Xg,Xh,Xi,Xn,Xp,Xq,Xr,Xu,Xx,X0,XI,XJ,We,Wl,Wq,Wv,Wx,Wz,W0,W3,W4,W5,W7,W8,W9,WA,WB,WC,WE,WF,WH,WI,WJ,WK,WL,WM,WN,WO,WP,WQ,WS,WT,WU,WW,WX,WY,WZ,Vc,Vd,Ve,Vf,Vg,Vh,Vi,Vj,Vu,V8,V9,VB,VC,VD,VE,VF,VI,VJ,VK,VL,VN,VX,VY,VZ,Ua,Ub,Uc,Ud,Ue,Uf,Ug,Uj,Ul,Un,Ut,Uv,Uw,U1,U2,U3,U4,U5,U6,U7,UC,UD,UE,UN,UO,Td,Te,Ti,Tj,Tk,Tl,Tt,Tu,Tx,Ty,T1,T6,T7,Sa,Sb,Se,Sf,Sg,Si,Sj,Sk,Su,w8,h3,ea];all_goals tactic=>exact rfl))
def dH (st:Nat→Nat) (s nur cl:Nat):Bool:=decide (eT st s cl&&&nur=0)
theorem zU:∀ l:List AV,(∀ e∈l,cR e e=true)→eV l l=true
 | [],_=>by simp[eV]
 | x::l,h=>by
   have:=zU l (fun e he=>h e (List.mem_cons_of_mem _ he))
   simp[eV,this,h x List.mem_cons_self]
theorem sY:∀ l:List (List AV),(∀ e∈l,eV e e=true)→rE l l=true
 | [],_=>by simp[rE]
 | x::l,h=>by
   have:=sY l (fun e he=>h e (List.mem_cons_of_mem _ he))
   simp[rE,this,h x List.mem_cons_self]
theorem aCb (x:Vn) (st:Nat→Nat):eV (eZ x st) (eZ x st)=true:=by
 refine zU _ fun e he=>?_
 rw[eZ,List.mem_append]at he
 rcases he with he|he
 ·simp only[List.mem_cons,List.not_mem_nil,or_false]at he
  rcases he with rfl|rfl|rfl|rfl|rfl|rfl
  ·simp[cR]
  ·rw[cR]
   refine sY _ fun r hr=>?_
   rw[List.mem_map]at hr
   obtain⟨b,_,rfl⟩:=hr
   simp[eV,cR]
  ·rw[cR]
   refine sY _ fun r hr=>?_
   rw[List.mem_map]at hr
   obtain⟨b,_,rfl⟩:=hr
   simp[eV,cR]
  ·simp[cR]
  ·simp[cR]
  ·simp[cR]
 ·rw[List.mem_map]at he
  obtain⟨b,_,rfl⟩:=he
  simp[cR]
theorem w57 {l:List AV} {st:Nat→Nat} {ci:Int} {s nur cl:Nat} (hsm:eV l l=true) (hl:∀ k,k<16→l[6+k]?=some (I (st k))) (h3:l[3]?=some (I s)) (h4:l[4]?=some (I nur)) (hst:∀ k,st k<65536) (hs:s<65536) (hn:nur<65536) (hcl:cl<65536) (hc:Clr ci cl) :
 runW aA 57 [.pt 0 0,I ci] [some (.blk true (.cells true l))]=some (.bool (dH st s nur cl),[some (.blk true (.cells true l))]):=by
 have e:=w78 hl h3 hst hs hcl hc
 have hr:=aFF (cl:=cl) hst hs
 have b1:=kS bY (a:=eT st s cl) (b:=nur) (by omega) (by omega)
 unfold dH
 generalize eT st s cl=R at *
 by_cases h:R&&&nur=0
 ·have c1:(((R&&&nur:Nat):Int)=0)=True:=eq_true (by omega)
  rw[decide_eq_true h]
  rw[r57 (by simp)];unfold x57;dsimp only
  (sym=>(simp[Za,Zb,Zd,Ze,Zf,Zg,Zh,Zk,Zl,Zm,Zv,Z2,Z3,Z8,ZI,ZK,ZN,ZR,ZS,ZU,ZV,Yc,Yo,Ys,YV,YX,YY,Xd,Xr,Xs,Xx,XJ,XK,XP,We,Wf,Wl,Wz,W0,W3,W4,W7,W8,W9,WB,WE,WF,WI,WJ,WK,WL,WM,WN,WO,WP,WQ,WS,WT,WU,WW,WX,Vc,Vd,Vg,Vh,Vi,Vj,Vl,Vm,Vo,Vp,Vu,Vw,Vx,Vy,V8,V9,VB,VC,VD,VE,VF,VI,VJ,VK,VL,VN,VX,VY,VZ,Ub,Uc,Ud,Ue,Uf,Ug,Ul,Uo,Us,Uw,Ux,Uz,U0,U1,U2,U3,U4,U5,UC,UD,Td,Te,Ti,Ts,Tt,Tu,Ty,T6,T7,Su,Sx,SB,SC,SE,SF,SG,SI,e,b1,h4,c1,hsm];all_goals tactic=>exact rfl))
 ·have c1:(((R&&&nur:Nat):Int)=0)=False:=eq_false (by omega)
  rw[decide_eq_false h]
  rw[r57 (by simp)];unfold x57;dsimp only
  (sym=>(simp[Za,Zb,Zd,Ze,Zf,Zg,Zh,Zk,Zl,Zm,Zv,Z2,Z3,Z8,ZI,ZK,ZN,ZR,ZS,ZU,ZV,Yc,Yo,Ys,YV,YX,YY,Xd,Xr,Xs,Xx,XJ,XK,XP,We,Wf,Wl,Wz,W0,W3,W4,W7,W8,W9,WB,WE,WF,WI,WJ,WK,WL,WM,WN,WO,WP,WQ,WS,WT,WU,WW,WX,Vc,Vd,Vg,Vh,Vi,Vj,Vl,Vm,Vo,Vp,Vu,Vw,Vx,Vy,V8,V9,VB,VC,VD,VE,VF,VI,VJ,VK,VL,VN,VX,VY,VZ,Ub,Uc,Ud,Ue,Uf,Ug,Ul,Uo,Us,Uw,Uy,Uz,U0,U1,U2,U3,U4,U5,UC,UD,Td,Te,Ti,Ts,Tt,Tu,Ty,T6,T7,Su,Sx,SB,SC,SE,SF,SG,SI,e,b1,h4,c1,hsm];all_goals tactic=>exact rfl))
def bMt (b:Nat×Nat) (a c:Nat):Bool:=(b.1==a&&b.2==c)||(b.1==c&&b.2==a)
def pMt (p:Nat×Nat×Nat) (a c:Nat):Bool:=p.2.1==a&&p.2.2==c
def bB (x:Vn) (a c i:Nat):Int:=if bMt (x.bs.getD i (0,0)) a c then 1 else 0
def pB (x:Vn) (a c i:Nat):Int:=if pMt (x.ps.getD i (0,0,0)) a c then 1 else 0
theorem aIn {a b:Nat}:((a:Int)=(b:Int))=(a=b):=by rw[Int.ofNat_inj]
theorem mY (b a:Nat):(((b:Int)=a)=True∧(b==a)=true∧b=a)∨(((b:Int)=a)=False∧(b==a)=false∧b≠a):=by
 by_cases h:b=a
 ·exact .inl ⟨by rw[aIn];exact eq_true h,by simp[h],h⟩
 ·exact .inr ⟨by rw[aIn];exact eq_false h,by simp[h],h⟩
section
variable {x:Vn} (ok:x.Ok) {a c:Nat}
include ok in
end
theorem yX (st:Nat→Nat) (u v a c:Nat):(addS st u v a).testBit c=((st a).testBit c||(u==a&&v==c)):=by
 unfold addS jC
 split
 ·next h=>subst h;rw[eU,show (v==c)=decide (v=c) from by rw[Bool.eq_iff_iff];simp];simp
 ·next h =>
  have:(u==a)=false:=by simp;omega
  rw[this];simp
theorem yA {α:Type} {f:(Nat→Nat)→α→Nat→Nat} {m:α→Bool} {a c:Nat} (hf:∀ st y,(f st y a).testBit c=((st a).testBit c||m y)):∀ (l:List α) (st:Nat→Nat),(l.foldl f st a).testBit c=((st a).testBit c||l.any m)
 | [],st=>by simp
 | y::l,st=>by rw[List.foldl_cons,yA hf l,hf,List.any_cons,Bool.or_assoc]
theorem aJp (x:Vn) (a c:Nat):(wX x x.bs.length a).testBit c=x.bs.any fun b=>bMt b a c:=by
 unfold wX
 rw[List.take_length,yA (m:=fun b=>bMt b a c)]
 ·simp
 ·intro st y
  rw[yX,yX,bMt,Bool.or_assoc,Bool.and_comm (y.2==a)]
theorem aAJ (x:Vn) (a c:Nat):(cE x a).testBit c=((x.bs.any fun b=>bMt b a c)||x.ps.any fun p=>pMt p a c):=by
 unfold cE wW
 rw[List.take_length,yA (m:=fun p=>pMt p a c),aJp]
 intro st y
 rw[yX,pMt]
theorem aBn {α:Type} {l:List α} {m:α→Bool}:l.any m=true↔∃ (i:Nat) (y:α),l[i]?=some y∧m y=true:=by
 rw[List.any_eq_true]
 constructor
 ·rintro ⟨y,hy,h⟩
  obtain⟨i,hi⟩:=List.getElem?_of_mem hy
  exact⟨i,y,hi,h⟩
 ·rintro ⟨i,y,hi,h⟩
  exact⟨y,List.mem_of_getElem? hi,h⟩
theorem aLa {x:Vn} {a c:Nat} (h:∀ i,i<x.bs.length→bB x a c i=0):(x.bs.any fun b=>bMt b a c)=false:=by
 cases e:x.bs.any fun b=>bMt b a c
 ·rfl
 ·obtain⟨i,y,hi,hy⟩:=aBn.1 e
  have:=h i (dB hi)
  unfold bB at this
  rw[aO hi,hy]at this
  simp at this
theorem aKe {x:Vn} {a c:Nat} (h:∀ i,i<x.ps.length→pB x a c i=0):(x.ps.any fun b=>pMt b a c)=false:=by
 cases e:x.ps.any fun b=>pMt b a c
 ·rfl
 ·obtain⟨i,y,hi,hy⟩:=aBn.1 e
  have:=h i (dB hi)
  unfold pB at this
  rw[aO hi,hy]at this
  simp at this
def rX (g:Nat→Nat):Nat→Nat→Nat
 | 0,m=>m
 | n+1,m=>g (rX g n m)
theorem aDp {st:Nat→Nat} {s cl F:Nat} {g:Nat→Nat} (hF:F≤16) (hst:∀ k,st k<2^F) (hs:s<2^F) (hcl:cl<65536) (h1:∀ m,sub m (g m)) (h2:∀ m,m<2^F→g m<2^F)
 (h3:∀ m,(∀ i,m.testBit i=true→Rch st s cl i)→∀ i,(g m).testBit i=true→Rch st s cl i) (h4:∀ m a b,m<2^F→m.testBit a=true→(st a).testBit b=true→cl.testBit b=false→(g m).testBit b=true) :
 rX g F (eO s cl)=eT st s cl:=by
 have hp:=aU hF
 have hst':∀ k,st k<65536:=fun k=>Nat.lt_of_lt_of_le (hst k) hp
 have hs':s<65536:=by omega
 have lt:∀ k,rX g k (eO s cl)<2^F:=fun k=>by
  induction k with
  | zero=>exact tU hs
  | succ k ih=>exact h2 _ ih
 have base:∀ k i,s.testBit i=true→cl.testBit i=false→(rX g k (eO s cl)).testBit i=true:=fun k i hi hc=>by
  induction k with
  | zero =>
    show (eO s cl).testBit i=true
    rw[bX (by omega),hi,hc]
    have:=fU hs' hi
    simp;omega
  | succ k ih=>exact h1 _ _ ih
 have snd:∀ k i,(rX g k (eO s cl)).testBit i=true→Rch st s cl i:=fun k=>by
  induction k with
  | zero =>
    intro i hi
    have hi:(eO s cl).testBit i=true:=hi
    rw[bX (by omega)]at hi
    simp only[Bool.and_eq_true,Bool.not_eq_true']at hi
    exact .base hi.1 hi.2.2
  | succ k ih=>exact h3 _ ih
 apply Nat.eq_of_testBit_eq
 intro i
 rw[Bool.eq_iff_iff,kI hst' hs' hcl]
 refine⟨snd F i,?_⟩
 refine aLo (F:=F) (M:=fun k=>rX g k (eO s cl)) (P:=fun m=>∀ i,Rch st s cl i→m.testBit i=true) hF lt (fun k=>h1 _) (fun k hk=>?_) (fun k hk i hi=>h1 _ i (hk i hi)) ?_ i
 ·intro i hi
  refine hi.sub (base k) fun a b ha hb hc=>?_
  have:=h4 _ a b (lt k) ha hb hc
  rw[show g (rX g k (eO s cl))=rX g k (eO s cl) from hk]at this
  exact this
 ·intro i hi
  rw[Nat.testBit_two_pow_sub_one]
  simpa using hi.lt hs hst
section
variable {st:Nat→Nat} {s cl F:Nat}
end
section
variable {x:Vn} (ok:x.Ok) {cl:Nat} (hcl:cl<2^x.F)
include ok hcl in
end
def stE (x:Vn) (c:List Int):Int:=if aCw x c=0 then (if dH (cE x) x.sick x.nur (kC c c.length) then 0 else 11) else aCw x c
section
variable {x:Vn} (ok:x.Ok) {c:List Int} (hc:c.length<1000000000)
include ok hc in
theorem aOz (h23:runW aA 23 [.agg x.c] []=some (I 0,[])):runW aA 27 [.agg x.c,nL c] []=some (I (stE x c),[]):=by
 have e0:=aOu ok hc h23
 have hF:=ok.F16
 have hp:=aU hF
 have hs:=ok.s
 have hn:=ok.n
 unfold stE
 by_cases h0:aCw x c=0
 ·have hl:=aKO h0
  rw[if_pos h0]at e0 ⊢
  have e1:=w56 ok h23
  have e2:=w57 (l:=eZ x (cE x)) (st:=cE x) (ci:=(kC c c.length:Nat)) (s:=x.sick) (nur:=x.nur) (cl:=kC c c.length) (aCb _ _) (fun k hk=>iS hk) rfl rfl (fun k=>Nat.lt_of_lt_of_le (dR ok _ k) hp) (by omega) (by omega) (by omega) (aKV (by omega))
  generalize dH (cE x) x.sick x.nur (kC c c.length)=b at *
  generalize kC c c.length=q at *
  generalize eZ x (cE x)=l at *
  cases b
  ·rw[r27 (by simp)];unfold x27;dsimp only
   (sym=>(simp[Za,Zb,Zf,Zg,Zh,Zj,Zl,Zm,Zo,Zv,Zz,Z3,Z5,ZF,ZH,ZP,ZQ,ZU,ZV,ZZ,Yk,Yt,YX,YZ,Xb,Xd,Xi,Xk,Xl,Xr,Xs,Xt,Xu,Xv,Xx,XJ,XN,XP,We,Wg,Wi,Wl,Ws,Wz,W0,W3,W4,W5,W6,W7,W8,W9,WA,WB,WE,WF,WH,WI,WJ,WK,WL,WM,WN,WO,WP,WQ,WS,WT,WU,WW,WX,Vd,Vg,Vh,Vi,Vj,Vu,Vw,Vx,Vy,Vz,V0,V2,V8,V9,VB,VC,VD,VE,VF,VI,VJ,VK,VL,VN,VS,VT,VU,VX,VY,VZ,Ua,Ub,Uc,Ue,Uf,Ug,Ul,Uo,Uq,Uw,Ux,U1,U2,U3,U4,U5,U6,U7,UC,UD,UN,UO,Td,Te,Th,Tl,Ts,Tt,Tu,Tv,Ty,T0,T6,T7,Su,SB,SC,SD,SE,SF,SG,SI,e0,e1,e2];all_goals tactic=>exact rfl))
  ·rw[r27 (by simp)];unfold x27;dsimp only
   (sym=>(simp[Za,Zb,Zf,Zg,Zh,Zj,Zl,Zm,Zo,Zv,Zz,Z3,Z5,ZF,ZH,ZP,ZQ,ZU,ZV,ZZ,Yk,Yt,YX,YZ,Xb,Xd,Xi,Xk,Xl,Xr,Xs,Xt,Xu,Xv,Xx,XJ,XN,XP,We,Wg,Wi,Wl,Ws,Wz,W0,W3,W4,W5,W6,W7,W8,W9,WA,WB,WE,WF,WH,WI,WJ,WK,WL,WM,WN,WO,WP,WQ,WS,WT,WU,WW,WX,Vd,Vg,Vh,Vi,Vj,Vu,Vw,Vx,Vy,Vz,V0,V2,V8,V9,VB,VC,VD,VE,VF,VI,VJ,VK,VL,VN,VS,VU,VX,VY,VZ,Ua,Ub,Uc,Ue,Uf,Ug,Ul,Uo,Uw,Ux,U1,U2,U3,U4,U5,U6,U7,UC,UD,UN,UO,Td,Te,Th,Tl,Ts,Tt,Tu,Tv,Ty,T6,T7,Su,SB,SC,SD,SE,SF,SG,SI,e0,e1,e2];all_goals tactic=>exact rfl))
 ·rw[if_neg h0]at e0 ⊢
  have n0:=aKk h0
  generalize aCw x c=er at *
  rw[r27 (by simp)];unfold x27;dsimp only
  (sym=>(simp[Za,Zb,Zf,Zg,Zh,Zj,Zl,Zm,Zo,Zv,Zz,Z3,ZF,ZH,ZP,ZQ,ZU,ZV,Yk,Yt,YX,YZ,Xb,Xi,Xk,Xl,Xr,Xt,Xu,Xv,XJ,XN,We,Wg,Wi,Ws,Wz,W0,W3,W5,W6,W7,W8,W9,WA,WI,WL,WM,WN,WO,WP,WQ,WS,WT,Vg,Vh,Vi,Vu,Vw,Vx,Vy,Vz,V0,V2,V8,V9,VB,VC,VD,VE,VF,VI,VJ,VK,VL,VN,VS,VT,VX,VY,VZ,Ub,Uc,Ue,Uf,Ug,Ul,Uq,Uy,U1,U2,U3,U4,U5,U6,U7,UC,UD,UN,UO,Td,Te,Th,Tl,Ts,Tt,Tu,Ty,T0,T6,T7,Su,SB,SC,SD,SE,SF,SG,SI,e0,n0];all_goals tactic=>exact rfl))
include ok hc in
end
def jZ (a b:Int):Int:=Int.tmod a b
def lE (a b:Int):Int:=Int.tdiv a b
def aHN (z:Bool) (k:IntKind) (v:Int):Option AV:=if z then none else some (.int k v)
theorem bL (k:IntKind) (v:Int):aHN false k v=some (.int k v):=rfl
theorem aM {k:IntKind} {a b:Int}:fG .rem k a k b=aHN (decide (b=0)) k (jZ a b):=by
 by_cases h:b=0<;>simp[fG,aHN,h,jZ]
theorem aN {k:IntKind} {a b:Int}:fG .quo k a k b=aHN (decide (b=0)) k (k.wrap (lE a b)):=by
 by_cases h:b=0<;>simp[fG,aHN,h,lE]
theorem cA (a b:Nat):lE (a:Int) (b:Int)=((a/b:Nat):Int):=by rw[lE,Int.tdiv_eq_ediv_of_nonneg (by omega)];exact(Int.natCast_ediv a b).symm
theorem aY (a b:Nat):jZ (a:Int) (b:Int)=((a%b:Nat):Int):=by rw[jZ,Int.tmod_eq_emod_of_nonneg (by omega)];exact(Int.natCast_emod a b).symm
def flC (fl:Nat→Nat→Int):List AV:=(List.range 1156).map fun k=>I (fl (k/34) (k%34))
def iB (v:AV) (fl:Nat→Nat→Int):List AV:=v::flC fl
theorem aNA (l:List Nat) (f:Nat→Int):kT (l.map fun k=>I (f k))=[]:=by
 induction l with
 | nil=>simp[kT]
 | cons a l ih=>rw[List.map_cons,kT,ih];rfl
theorem aNx (s:Nat→Option Nat) (l:List Nat) (f:Nat→Int):jA s (l.map fun k=>I (f k))=l.map fun k=>I (f k):=by
 induction l with
 | nil=>simp[jA]
 | cons a l ih=>rw[List.map_cons,jA,ih];rfl
theorem aLp (l:List Nat) (f:Nat→Int):eS (l.map fun k=>I (f k))=true:=by
 induction l with
 | nil=>simp[eS]
 | cons a l ih=>rw[List.map_cons,eS,ih];rfl
theorem aNM (b:Nat) (cs:List AV) (l:List Nat) (f:Nat→Int):mX b cs (l.map fun k=>I (f k))=l.map fun k=>I (f k):=by
 induction l with
 | nil=>simp[mX]
 | cons a l ih=>rw[List.map_cons,mX,ih];rfl
theorem aJ {v:AV} {fl:Nat→Nat→Int}:kT (iB v fl)=nmA v:=by rw[iB,kT,flC,aNA (List.range 1156) (fun k=>fl (k/34) (k%34)),List.append_nil]
theorem aI {s:Nat→Option Nat} {v:AV} {fl:Nat→Nat→Int}:jA s (iB v fl)=iB (rnA s v) fl:=by rw[iB,jA,flC,aNx s (List.range 1156) (fun k=>fl (k/34) (k%34))];rfl
theorem aK {v:AV} {fl:Nat→Nat→Int}:eS (iB v fl)=gR v:=by rw[iB,eS,flC,aLp (List.range 1156) (fun k=>fl (k/34) (k%34)),Bool.and_true]
theorem aL {b:Nat} {cs:List AV} {v:AV} {fl:Nat→Nat→Int}:mX b cs (iB v fl)=iB (pN b cs v) fl:=by rw[iB,mX,flC,aNM b cs (List.range 1156) (fun k=>fl (k/34) (k%34))];rfl
theorem aW {v:AV} {fl:Nat→Nat→Int}:(iB v fl)[0]?=some v:=rfl
theorem aKI (fl:Nat→Nat→Int):(flC fl).length=1156:=by simp[flC]
theorem aF {v:AV} {fl:Nat→Nat→Int}:(iB v fl).length=1157:=by rw[iB,List.length_cons,aKI]
theorem bV {v:AV} {fl:Nat→Nat→Int} {a b:Nat} (ha:a<34) (hb:b<34):(iB v fl)[1+a*34+b]?=some (I (fl a b)):=by
 rw[show 1+a*34+b=(a*34+b)+1 by omega,iB,List.getElem?_cons_succ,flC,List.getElem?_map,List.getElem?_range (by omega),Option.map_some]
 rw[show (a*34+b)/34=a by omega,show (a*34+b)%34=b by omega]
def lD (fl:Nat→Nat→Int) (a b:Nat) (v:Int):Nat→Nat→Int:=fun c d=>if c=a∧d=b then v else fl c d
theorem rS {v:AV} {fl:Nat→Nat→Int} {a b:Nat} {n:Int} (ha:a<34) (hb:b<34):cB (iB v fl) (1+a*34+b) [I n]=iB v (lD fl a b n):=by
 rw[fX (by rw[aF];omega)]
 apply List.ext_getElem?
 intro j
 rw[List.getElem?_set,aF]
 by_cases hj:1+a*34+b=j
 ·subst hj
  rw[if_pos rfl,if_pos (by omega),bV ha hb,lD,if_pos ⟨rfl,rfl⟩]
 ·rw[if_neg hj]
  by_cases h0:j=0
  ·subst h0;rfl
  ·by_cases h:j<1157
   ·obtain⟨c,d,hc,hd,rfl⟩:∃ c d,c<34∧d<34∧j=1+c*34+d:=⟨(j-1)/34,(j-1)%34,by omega,by omega,by omega⟩
    rw[bV hc hd,bV hc hd,lD,if_neg (by rintro ⟨rfl,rfl⟩;exact hj rfl)]
   ·rw[List.getElem?_eq_none (by rw[aF];omega),List.getElem?_eq_none (by rw[aF];omega)]
def bW (st:Nat→Nat) (s nur fix a b:Nat):Int :=
 if a=32 then (if b%2=0∧b<32∧s.testBit (b/2)=true then 16 else 0)
 else if b=33 then (if a%2=1∧a<32∧nur.testBit (a/2)=true then 16 else 0)
 else if 32≤a∨32≤b then 0
 else if a%2=0∧b=a+1 then (if fix.testBit (a/2)=true then 16 else 1)
 else if a%2=1∧b%2=0∧(st (a/2)).testBit (b/2)=true then 16 else 0
structure aDQ (l:List AV) (st:Nat→Nat) (F s nur fix:Nat):Prop where
 k:∀ k,k<16→l[6+k]?=some (I (st k))
 l0:l[0]?=some (I F)
 l3:l[3]?=some (I s)
 l4:l[4]?=some (I nur)
 l5:l[5]?=some (I fix)
 F16:F≤16
 st:∀ k,st k<65536
 s:s<65536
 nur:nur<65536
 fix:fix<65536
theorem aQM {x:Vn} (ok:x.Ok):aDQ (eZ x (cE x)) (cE x) x.F x.sick x.nur x.fix:=by
 have hp:=aU ok.F16
 have:=ok.s
 have:=ok.n
 have:=ok.f
 exact⟨fun k hk=>iS hk,rfl,rfl,rfl,rfl,ok.F16,fun k=>Nat.lt_of_lt_of_le (dR ok _ k) hp,by omega,by omega,by omega⟩
def FlB (fl:Nat→Nat→Int):Prop:=∀ a b,0≤fl a b∧fl a b≤100
def cT (st:Nat→Nat) (s nur fix:Nat) (fl:Nat→Nat→Int) (a b:Nat):Int:=bW st s nur fix a b-fl a b+fl b a
abbrev gN (l:List AV) (fl:Nat→Nat→Int):XH:=[some (.blk false (.cells true (iB (.pt 1 0) fl))),some (.blk true (.cells true l))]
section
variable {l:List AV} {st:Nat→Nat} {F s nur fix:Nat} (h:aDQ l st F s nur fix) {fl:Nat→Nat→Int} (hf:FlB fl) {a b:Nat} (ha:a<34) (hb:b<34)
include h hf ha hb
theorem aHH (c:a=32∧b%2=0∧b<32) (hv:(s).testBit (b/2)=true):runW aA 89 [.pt 0 0,I a,I b] (gN l fl)=some (I (cT st s nur fix fl a b),gN l fl):=by
 have hcap:bW st s nur fix a b=16:=by
  unfold bW
  rw[hv,if_pos c.1,if_pos ⟨c.2.1,c.2.2,rfl⟩]
 have f1:=hf a b
 have f2:=hf b a
 have hs:=h.s
 have hn:=h.nur
 have hx:=h.fix
 have hk:=h.st (a/2)
 have u1:IntKind.i64.wrap (16-fl a b)=16-fl a b:=aD (by omega) (by omega)
 have u2:IntKind.i64.wrap (16-fl a b+fl b a)=16-fl a b+fl b a:=aD (by omega) (by omega)
 have t1:jZ (a:Int) 2=((a%2:Nat):Int):=aY a 2
 have t2:jZ (b:Int) 2=((b%2:Nat):Int):=aY b 2
 have t3:lE (a:Int) 2=((a/2:Nat):Int):=cA a 2
 have t4:lE (b:Int) 2=((b/2:Nat):Int):=cA b 2
 have t5:IntKind.i64.wrap ((a/2:Nat):Int)=((a/2:Nat):Int):=aD (by omega) (by omega)
 have t6:IntKind.i64.wrap ((b/2:Nat):Int)=((b/2:Nat):Int):=aD (by omega) (by omega)
 have v1:((0:Int)≤a)=True:=eq_true (by omega)
 have v2:((a:Int)<34)=True:=eq_true (by omega)
 have v3:((0:Int)≤b)=True:=eq_true (by omega)
 have v4:((b:Int)<34)=True:=eq_true (by omega)
 have k1:=bV (v:=.pt 1 0) (fl:=fl) ha hb
 have k2:=bV (v:=.pt 1 0) (fl:=fl) hb ha
 have c_a32:((a:Int)=32)=True:=eq_true (by omega)
 have c_be:(((b%2:Nat):Int)=0)=True:=eq_true (by omega)
 have c_b32:((b:Int)<32)=True:=eq_true (by omega)
 have e:=pK (a:=s) (j:=b/2) (by omega) (by omega)
 rw[hv]at e
 have q:=h.l3
 unfold cT
 rw[hcap]
 generalize hA:a/2=a2 at *
 generalize hB:b/2=b2 at *
 generalize hA2:a%2=a3 at *
 generalize hB2:b%2=b3 at *
 rw[r89 (by simp)];unfold x89;dsimp only
 (sym=>(simp[aM,aN,bL,aJ,aI,aK,aL,aW,aF,Za,Zb,Zf,Zh,Zi,Zl,Zm,Zp,Zq,Zv,Zy,Z2,Z3,Z8,Z9,ZH,ZI,ZK,ZP,ZQ,ZU,ZV,ZW,Yc,Yl,Ym,Ys,Yu,Yy,Yz,YQ,YV,YX,Xd,Xr,Xs,Xx,XJ,We,Wl,Wz,W0,W3,W8,W9,WB,WG,WI,WK,WL,WM,WN,WO,WP,WQ,WS,WT,WW,WX,WY,Vc,Vd,Ve,Vg,Vh,Vi,Vu,V8,V9,VB,VC,VD,VE,VF,VI,VJ,VK,VL,VN,VS,VT,VX,VY,VZ,Ub,Uc,Ud,Ue,Uf,Ug,Ut,Uw,Ux,Uy,U1,U2,U3,U4,U5,UC,UD,Td,Te,Ti,Ts,Tt,Tu,Tx,Ty,T1,T6,T7,TI,Su,S8,u1,u2,t1,t2,t3,t4,t5,t6,v1,v2,v3,v4,k1,k2,c_a32,c_be,c_b32,e,q];all_goals tactic=>exact rfl))
theorem aHI (c:a=32∧b%2=0∧b<32) (hv:(s).testBit (b/2)=false):runW aA 89 [.pt 0 0,I a,I b] (gN l fl)=some (I (cT st s nur fix fl a b),gN l fl):=by
 have hcap:bW st s nur fix a b=0:=by
  unfold bW
  rw[hv,if_pos c.1,if_neg (by simp)]
 have f1:=hf a b
 have f2:=hf b a
 have hs:=h.s
 have hn:=h.nur
 have hx:=h.fix
 have hk:=h.st (a/2)
 have u1:IntKind.i64.wrap (0-fl a b)=0-fl a b:=aD (by omega) (by omega)
 have u2:IntKind.i64.wrap (0-fl a b+fl b a)=0-fl a b+fl b a:=aD (by omega) (by omega)
 have t1:jZ (a:Int) 2=((a%2:Nat):Int):=aY a 2
 have t2:jZ (b:Int) 2=((b%2:Nat):Int):=aY b 2
 have t3:lE (a:Int) 2=((a/2:Nat):Int):=cA a 2
 have t4:lE (b:Int) 2=((b/2:Nat):Int):=cA b 2
 have t5:IntKind.i64.wrap ((a/2:Nat):Int)=((a/2:Nat):Int):=aD (by omega) (by omega)
 have t6:IntKind.i64.wrap ((b/2:Nat):Int)=((b/2:Nat):Int):=aD (by omega) (by omega)
 have v1:((0:Int)≤a)=True:=eq_true (by omega)
 have v2:((a:Int)<34)=True:=eq_true (by omega)
 have v3:((0:Int)≤b)=True:=eq_true (by omega)
 have v4:((b:Int)<34)=True:=eq_true (by omega)
 have k1:=bV (v:=.pt 1 0) (fl:=fl) ha hb
 have k2:=bV (v:=.pt 1 0) (fl:=fl) hb ha
 have c_a32:((a:Int)=32)=True:=eq_true (by omega)
 have c_be:(((b%2:Nat):Int)=0)=True:=eq_true (by omega)
 have c_b32:((b:Int)<32)=True:=eq_true (by omega)
 have e:=pK (a:=s) (j:=b/2) (by omega) (by omega)
 rw[hv]at e
 have q:=h.l3
 unfold cT
 rw[hcap]
 generalize hA:a/2=a2 at *
 generalize hB:b/2=b2 at *
 generalize hA2:a%2=a3 at *
 generalize hB2:b%2=b3 at *
 rw[r89 (by simp)];unfold x89;dsimp only
 (sym=>(simp[aM,aN,bL,aJ,aI,aK,aL,aW,aF,Za,Zb,Zf,Zh,Zi,Zl,Zm,Zp,Zq,Zv,Zy,Z2,Z3,Z8,Z9,ZH,ZI,ZK,ZP,ZQ,ZU,ZV,ZW,Yc,Yl,Ym,Ys,Yu,Yy,Yz,YQ,YV,YX,Xd,Xr,Xs,Xx,XJ,We,Wl,Wz,W0,W3,W8,W9,WB,WG,WI,WK,WL,WM,WN,WO,WP,WQ,WS,WT,WW,WX,WY,Vc,Vd,Ve,Vg,Vh,Vi,Vu,V8,V9,VB,VC,VD,VE,VF,VI,VJ,VK,VL,VN,VS,VT,VU,VX,VY,VZ,Ub,Uc,Ud,Ue,Uf,Ug,Ut,Uw,Ux,Uy,U1,U2,U3,U4,U5,UC,UD,Td,Te,Ti,Ts,Tt,Tu,Tv,Tx,Ty,T1,T6,T7,TI,Su,S8,u1,u2,t1,t2,t3,t4,t5,t6,v1,v2,v3,v4,k1,k2,c_a32,c_be,c_b32,e,q];all_goals tactic=>exact rfl))
theorem aJV (c:a=32∧b%2=0∧¬b<32):runW aA 89 [.pt 0 0,I a,I b] (gN l fl)=some (I (cT st s nur fix fl a b),gN l fl):=by
 have hcap:bW st s nur fix a b=0:=by
  unfold bW
  split<;>(try split)<;>(try split)<;>(try split)<;>(try split)<;>first|rfl|(exfalso;simp at *;omega)|(exfalso;omega)
 have f1:=hf a b
 have f2:=hf b a
 have hs:=h.s
 have hn:=h.nur
 have hx:=h.fix
 have hk:=h.st (a/2)
 have u1:IntKind.i64.wrap (0-fl a b)=0-fl a b:=aD (by omega) (by omega)
 have u2:IntKind.i64.wrap (0-fl a b+fl b a)=0-fl a b+fl b a:=aD (by omega) (by omega)
 have t1:jZ (a:Int) 2=((a%2:Nat):Int):=aY a 2
 have t2:jZ (b:Int) 2=((b%2:Nat):Int):=aY b 2
 have t3:lE (a:Int) 2=((a/2:Nat):Int):=cA a 2
 have t4:lE (b:Int) 2=((b/2:Nat):Int):=cA b 2
 have t5:IntKind.i64.wrap ((a/2:Nat):Int)=((a/2:Nat):Int):=aD (by omega) (by omega)
 have t6:IntKind.i64.wrap ((b/2:Nat):Int)=((b/2:Nat):Int):=aD (by omega) (by omega)
 have v1:((0:Int)≤a)=True:=eq_true (by omega)
 have v2:((a:Int)<34)=True:=eq_true (by omega)
 have v3:((0:Int)≤b)=True:=eq_true (by omega)
 have v4:((b:Int)<34)=True:=eq_true (by omega)
 have k1:=bV (v:=.pt 1 0) (fl:=fl) ha hb
 have k2:=bV (v:=.pt 1 0) (fl:=fl) hb ha
 have c_a32:((a:Int)=32)=True:=eq_true (by omega)
 have c_be:(((b%2:Nat):Int)=0)=True:=eq_true (by omega)
 have c_b32:((b:Int)<32)=False:=eq_false (by omega)
 unfold cT
 rw[hcap]
 generalize hA:a/2=a2 at *
 generalize hB:b/2=b2 at *
 generalize hA2:a%2=a3 at *
 generalize hB2:b%2=b3 at *
 rw[r89 (by simp)];unfold x89;dsimp only
 (sym=>(simp[aM,aN,bL,aJ,aI,aK,aL,aW,aF,Za,Zb,Zf,Zh,Zi,Zl,Zm,Zp,Zq,Zs,Zv,Zy,Z2,Z3,Z8,Z9,ZI,ZK,ZW,ZX,Yc,Yl,Ym,Ys,Yu,Yy,Yz,YQ,YV,YX,Xd,Xr,Xx,XJ,We,Wl,Wz,W0,W3,W9,WB,WG,WI,WK,WM,WN,WO,WP,WQ,WW,WX,WY,Vc,Vd,Ve,Vu,V8,V9,VB,VC,VD,VE,VF,VI,VJ,VK,VL,VN,VS,VT,VU,VX,VY,VZ,Ub,Uc,Ud,Ue,Uf,Ug,Ut,Uw,Ux,Uy,U1,U2,U3,UC,UD,Td,Te,Ti,Ts,Tt,Tu,Tv,Tx,Ty,T1,T6,T7,TI,Su,S8,u1,u2,t1,t2,t3,t4,t5,t6,v1,v2,v3,v4,k1,k2,c_a32,c_be,c_b32];all_goals tactic=>exact rfl))
theorem aJU (c:a=32∧¬b%2=0):runW aA 89 [.pt 0 0,I a,I b] (gN l fl)=some (I (cT st s nur fix fl a b),gN l fl):=by
 have hcap:bW st s nur fix a b=0:=by
  unfold bW
  split<;>(try split)<;>(try split)<;>(try split)<;>(try split)<;>first|rfl|(exfalso;simp at *;omega)|(exfalso;omega)
 have f1:=hf a b
 have f2:=hf b a
 have hs:=h.s
 have hn:=h.nur
 have hx:=h.fix
 have hk:=h.st (a/2)
 have u1:IntKind.i64.wrap (0-fl a b)=0-fl a b:=aD (by omega) (by omega)
 have u2:IntKind.i64.wrap (0-fl a b+fl b a)=0-fl a b+fl b a:=aD (by omega) (by omega)
 have t1:jZ (a:Int) 2=((a%2:Nat):Int):=aY a 2
 have t2:jZ (b:Int) 2=((b%2:Nat):Int):=aY b 2
 have t3:lE (a:Int) 2=((a/2:Nat):Int):=cA a 2
 have t4:lE (b:Int) 2=((b/2:Nat):Int):=cA b 2
 have t5:IntKind.i64.wrap ((a/2:Nat):Int)=((a/2:Nat):Int):=aD (by omega) (by omega)
 have t6:IntKind.i64.wrap ((b/2:Nat):Int)=((b/2:Nat):Int):=aD (by omega) (by omega)
 have v1:((0:Int)≤a)=True:=eq_true (by omega)
 have v2:((a:Int)<34)=True:=eq_true (by omega)
 have v3:((0:Int)≤b)=True:=eq_true (by omega)
 have v4:((b:Int)<34)=True:=eq_true (by omega)
 have k1:=bV (v:=.pt 1 0) (fl:=fl) ha hb
 have k2:=bV (v:=.pt 1 0) (fl:=fl) hb ha
 have c_a32:((a:Int)=32)=True:=eq_true (by omega)
 have c_be:(((b%2:Nat):Int)=0)=False:=eq_false (by omega)
 unfold cT
 rw[hcap]
 generalize hA:a/2=a2 at *
 generalize hB:b/2=b2 at *
 generalize hA2:a%2=a3 at *
 generalize hB2:b%2=b3 at *
 rw[r89 (by simp)];unfold x89;dsimp only
 (sym=>(simp[aM,aN,bL,aJ,aI,aK,aL,aW,aF,Za,Zb,Zf,Zh,Zi,Zl,Zm,Zp,Zs,Zv,Zy,Z2,Z3,Z8,Z9,ZI,ZK,ZX,Yc,Yl,Ym,Ys,Yy,Yz,YQ,YV,YX,Xd,Xr,Xx,XJ,We,Wl,Wz,W0,W3,W9,WB,WG,WI,WK,WM,WN,WO,WP,WQ,WW,WX,WY,Vc,Vd,Ve,Vu,V8,V9,VB,VC,VD,VE,VF,VI,VJ,VK,VL,VN,VS,VT,VU,VX,VY,VZ,Ub,Uc,Ud,Ue,Uf,Ug,Ut,Uw,Ux,Uy,U1,U2,U3,UC,UD,Td,Te,Ti,Ts,Tt,Tu,Tv,Tx,Ty,T1,T6,T7,TI,Su,S8,u1,u2,t1,t2,t3,t4,t5,t6,v1,v2,v3,v4,k1,k2,c_a32,c_be];all_goals tactic=>exact rfl))
theorem aHF (c:a≠32∧b=33∧a%2=1∧a<32) (hv:(nur).testBit (a/2)=true):runW aA 89 [.pt 0 0,I a,I b] (gN l fl)=some (I (cT st s nur fix fl a b),gN l fl):=by
 have hcap:bW st s nur fix a b=16:=by
  unfold bW
  rw[hv,if_neg c.1,if_pos c.2.1,if_pos ⟨c.2.2.1,c.2.2.2,rfl⟩]
 have f1:=hf a b
 have f2:=hf b a
 have hs:=h.s
 have hn:=h.nur
 have hx:=h.fix
 have hk:=h.st (a/2)
 have u1:IntKind.i64.wrap (16-fl a b)=16-fl a b:=aD (by omega) (by omega)
 have u2:IntKind.i64.wrap (16-fl a b+fl b a)=16-fl a b+fl b a:=aD (by omega) (by omega)
 have t1:jZ (a:Int) 2=((a%2:Nat):Int):=aY a 2
 have t2:jZ (b:Int) 2=((b%2:Nat):Int):=aY b 2
 have t3:lE (a:Int) 2=((a/2:Nat):Int):=cA a 2
 have t4:lE (b:Int) 2=((b/2:Nat):Int):=cA b 2
 have t5:IntKind.i64.wrap ((a/2:Nat):Int)=((a/2:Nat):Int):=aD (by omega) (by omega)
 have t6:IntKind.i64.wrap ((b/2:Nat):Int)=((b/2:Nat):Int):=aD (by omega) (by omega)
 have v1:((0:Int)≤a)=True:=eq_true (by omega)
 have v2:((a:Int)<34)=True:=eq_true (by omega)
 have v3:((0:Int)≤b)=True:=eq_true (by omega)
 have v4:((b:Int)<34)=True:=eq_true (by omega)
 have k1:=bV (v:=.pt 1 0) (fl:=fl) ha hb
 have k2:=bV (v:=.pt 1 0) (fl:=fl) hb ha
 have c_a32:((a:Int)=32)=False:=eq_false (by omega)
 have c_b33:((b:Int)=33)=True:=eq_true (by omega)
 have c_ao:(((a%2:Nat):Int)=1)=True:=eq_true (by omega)
 have c_al:((a:Int)<32)=True:=eq_true (by omega)
 have e:=pK (a:=nur) (j:=a/2) (by omega) (by omega)
 rw[hv]at e
 have q:=h.l4
 unfold cT
 rw[hcap]
 generalize hA:a/2=a2 at *
 generalize hB:b/2=b2 at *
 generalize hA2:a%2=a3 at *
 generalize hB2:b%2=b3 at *
 rw[r89 (by simp)];unfold x89;dsimp only
 (sym=>(simp[aM,aN,bL,aJ,aI,aK,aL,aW,aF,Za,Zb,Zf,Zh,Zi,Zl,Zm,Zp,Zq,Zv,Zy,Z2,Z3,Z8,Z9,ZH,ZI,ZK,ZP,ZQ,ZU,ZV,ZW,Yc,Yl,Ym,Ys,Yu,Yy,Yz,YQ,YV,YX,Xd,Xr,Xs,Xx,XJ,We,Wl,Wz,W0,W3,W8,W9,WB,WG,WI,WK,WL,WM,WN,WO,WP,WQ,WS,WT,WW,WX,WY,Vc,Vd,Ve,Vg,Vh,Vi,Vu,V8,V9,VB,VC,VD,VE,VF,VI,VJ,VK,VL,VN,VS,VT,VU,VX,VY,VZ,Ub,Uc,Ud,Ue,Uf,Ug,Ut,Uw,Ux,Uy,U1,U2,U3,U4,U5,UC,UD,Td,Te,Ti,Ts,Tt,Tu,Tx,Ty,T1,T6,T7,TI,Su,S8,u1,u2,t1,t2,t3,t4,t5,t6,v1,v2,v3,v4,k1,k2,c_a32,c_b33,c_ao,c_al,e,q];all_goals tactic=>exact rfl))
theorem aHG (c:a≠32∧b=33∧a%2=1∧a<32) (hv:(nur).testBit (a/2)=false):runW aA 89 [.pt 0 0,I a,I b] (gN l fl)=some (I (cT st s nur fix fl a b),gN l fl):=by
 have hcap:bW st s nur fix a b=0:=by
  unfold bW
  rw[hv,if_neg c.1,if_pos c.2.1,if_neg (by simp)]
 have f1:=hf a b
 have f2:=hf b a
 have hs:=h.s
 have hn:=h.nur
 have hx:=h.fix
 have hk:=h.st (a/2)
 have u1:IntKind.i64.wrap (0-fl a b)=0-fl a b:=aD (by omega) (by omega)
 have u2:IntKind.i64.wrap (0-fl a b+fl b a)=0-fl a b+fl b a:=aD (by omega) (by omega)
 have t1:jZ (a:Int) 2=((a%2:Nat):Int):=aY a 2
 have t2:jZ (b:Int) 2=((b%2:Nat):Int):=aY b 2
 have t3:lE (a:Int) 2=((a/2:Nat):Int):=cA a 2
 have t4:lE (b:Int) 2=((b/2:Nat):Int):=cA b 2
 have t5:IntKind.i64.wrap ((a/2:Nat):Int)=((a/2:Nat):Int):=aD (by omega) (by omega)
 have t6:IntKind.i64.wrap ((b/2:Nat):Int)=((b/2:Nat):Int):=aD (by omega) (by omega)
 have v1:((0:Int)≤a)=True:=eq_true (by omega)
 have v2:((a:Int)<34)=True:=eq_true (by omega)
 have v3:((0:Int)≤b)=True:=eq_true (by omega)
 have v4:((b:Int)<34)=True:=eq_true (by omega)
 have k1:=bV (v:=.pt 1 0) (fl:=fl) ha hb
 have k2:=bV (v:=.pt 1 0) (fl:=fl) hb ha
 have c_a32:((a:Int)=32)=False:=eq_false (by omega)
 have c_b33:((b:Int)=33)=True:=eq_true (by omega)
 have c_ao:(((a%2:Nat):Int)=1)=True:=eq_true (by omega)
 have c_al:((a:Int)<32)=True:=eq_true (by omega)
 have e:=pK (a:=nur) (j:=a/2) (by omega) (by omega)
 rw[hv]at e
 have q:=h.l4
 unfold cT
 rw[hcap]
 generalize hA:a/2=a2 at *
 generalize hB:b/2=b2 at *
 generalize hA2:a%2=a3 at *
 generalize hB2:b%2=b3 at *
 rw[r89 (by simp)];unfold x89;dsimp only
 (sym=>(simp[aM,aN,bL,aJ,aI,aK,aL,aW,aF,Za,Zb,Zf,Zh,Zi,Zl,Zm,Zp,Zq,Zv,Zy,Z2,Z3,Z8,Z9,ZH,ZI,ZK,ZP,ZQ,ZU,ZV,ZW,Yc,Yl,Ym,Ys,Yu,Yy,Yz,YQ,YV,YX,Xd,Xr,Xs,Xx,XJ,We,Wl,Wz,W0,W3,W8,W9,WB,WG,WI,WK,WL,WM,WN,WO,WP,WQ,WS,WT,WW,WX,WY,Vc,Vd,Ve,Vg,Vh,Vi,Vu,V8,V9,VB,VC,VD,VE,VF,VI,VJ,VK,VL,VN,VS,VT,VU,VX,VY,VZ,Ub,Uc,Ud,Ue,Uf,Ug,Ut,Uw,Ux,Uy,U1,U2,U3,U4,U5,UC,UD,Td,Te,Ti,Ts,Tt,Tu,Tv,Tx,Ty,T1,T6,T7,TI,Su,S8,u1,u2,t1,t2,t3,t4,t5,t6,v1,v2,v3,v4,k1,k2,c_a32,c_b33,c_ao,c_al,e,q];all_goals tactic=>exact rfl))
theorem aJT (c:a≠32∧b=33∧a%2=1∧¬a<32):runW aA 89 [.pt 0 0,I a,I b] (gN l fl)=some (I (cT st s nur fix fl a b),gN l fl):=by
 have hcap:bW st s nur fix a b=0:=by
  unfold bW
  split<;>(try split)<;>(try split)<;>(try split)<;>(try split)<;>first|rfl|(exfalso;simp at *;omega)|(exfalso;omega)
 have f1:=hf a b
 have f2:=hf b a
 have hs:=h.s
 have hn:=h.nur
 have hx:=h.fix
 have hk:=h.st (a/2)
 have u1:IntKind.i64.wrap (0-fl a b)=0-fl a b:=aD (by omega) (by omega)
 have u2:IntKind.i64.wrap (0-fl a b+fl b a)=0-fl a b+fl b a:=aD (by omega) (by omega)
 have t1:jZ (a:Int) 2=((a%2:Nat):Int):=aY a 2
 have t2:jZ (b:Int) 2=((b%2:Nat):Int):=aY b 2
 have t3:lE (a:Int) 2=((a/2:Nat):Int):=cA a 2
 have t4:lE (b:Int) 2=((b/2:Nat):Int):=cA b 2
 have t5:IntKind.i64.wrap ((a/2:Nat):Int)=((a/2:Nat):Int):=aD (by omega) (by omega)
 have t6:IntKind.i64.wrap ((b/2:Nat):Int)=((b/2:Nat):Int):=aD (by omega) (by omega)
 have v1:((0:Int)≤a)=True:=eq_true (by omega)
 have v2:((a:Int)<34)=True:=eq_true (by omega)
 have v3:((0:Int)≤b)=True:=eq_true (by omega)
 have v4:((b:Int)<34)=True:=eq_true (by omega)
 have k1:=bV (v:=.pt 1 0) (fl:=fl) ha hb
 have k2:=bV (v:=.pt 1 0) (fl:=fl) hb ha
 have c_a32:((a:Int)=32)=False:=eq_false (by omega)
 have c_b33:((b:Int)=33)=True:=eq_true (by omega)
 have c_ao:(((a%2:Nat):Int)=1)=True:=eq_true (by omega)
 have c_al:((a:Int)<32)=False:=eq_false (by omega)
 unfold cT
 rw[hcap]
 generalize hA:a/2=a2 at *
 generalize hB:b/2=b2 at *
 generalize hA2:a%2=a3 at *
 generalize hB2:b%2=b3 at *
 rw[r89 (by simp)];unfold x89;dsimp only
 (sym=>(simp[aM,aN,bL,aJ,aI,aK,aL,aW,aF,Za,Zb,Zf,Zh,Zi,Zl,Zm,Zp,Zq,Zs,Zv,Zy,Z2,Z3,Z8,Z9,ZI,ZK,ZW,ZX,Yc,Yl,Ym,Ys,Yu,Yy,Yz,YQ,YV,YX,Xd,Xr,Xx,XJ,We,Wl,Wz,W0,W3,W9,WB,WG,WI,WK,WM,WN,WO,WP,WQ,WW,WX,WY,Vc,Vd,Ve,Vu,V8,V9,VB,VC,VD,VE,VF,VI,VJ,VK,VL,VN,VS,VT,VU,VX,VY,VZ,Ub,Uc,Ud,Ue,Uf,Ug,Ut,Uw,Ux,Uy,U1,U2,U3,UC,UD,Td,Te,Ti,Ts,Tt,Tu,Tv,Tx,Ty,T1,T6,T7,TI,Su,S8,u1,u2,t1,t2,t3,t4,t5,t6,v1,v2,v3,v4,k1,k2,c_a32,c_b33,c_ao,c_al];all_goals tactic=>exact rfl))
theorem aJS (c:a≠32∧b=33∧¬a%2=1):runW aA 89 [.pt 0 0,I a,I b] (gN l fl)=some (I (cT st s nur fix fl a b),gN l fl):=by
 have hcap:bW st s nur fix a b=0:=by
  unfold bW
  split<;>(try split)<;>(try split)<;>(try split)<;>(try split)<;>first|rfl|(exfalso;simp at *;omega)|(exfalso;omega)
 have f1:=hf a b
 have f2:=hf b a
 have hs:=h.s
 have hn:=h.nur
 have hx:=h.fix
 have hk:=h.st (a/2)
 have u1:IntKind.i64.wrap (0-fl a b)=0-fl a b:=aD (by omega) (by omega)
 have u2:IntKind.i64.wrap (0-fl a b+fl b a)=0-fl a b+fl b a:=aD (by omega) (by omega)
 have t1:jZ (a:Int) 2=((a%2:Nat):Int):=aY a 2
 have t2:jZ (b:Int) 2=((b%2:Nat):Int):=aY b 2
 have t3:lE (a:Int) 2=((a/2:Nat):Int):=cA a 2
 have t4:lE (b:Int) 2=((b/2:Nat):Int):=cA b 2
 have t5:IntKind.i64.wrap ((a/2:Nat):Int)=((a/2:Nat):Int):=aD (by omega) (by omega)
 have t6:IntKind.i64.wrap ((b/2:Nat):Int)=((b/2:Nat):Int):=aD (by omega) (by omega)
 have v1:((0:Int)≤a)=True:=eq_true (by omega)
 have v2:((a:Int)<34)=True:=eq_true (by omega)
 have v3:((0:Int)≤b)=True:=eq_true (by omega)
 have v4:((b:Int)<34)=True:=eq_true (by omega)
 have k1:=bV (v:=.pt 1 0) (fl:=fl) ha hb
 have k2:=bV (v:=.pt 1 0) (fl:=fl) hb ha
 have c_a32:((a:Int)=32)=False:=eq_false (by omega)
 have c_b33:((b:Int)=33)=True:=eq_true (by omega)
 have c_ao:(((a%2:Nat):Int)=1)=False:=eq_false (by omega)
 unfold cT
 rw[hcap]
 generalize hA:a/2=a2 at *
 generalize hB:b/2=b2 at *
 generalize hA2:a%2=a3 at *
 generalize hB2:b%2=b3 at *
 rw[r89 (by simp)];unfold x89;dsimp only
 (sym=>(simp[aM,aN,bL,aJ,aI,aK,aL,aW,aF,Za,Zb,Zf,Zh,Zi,Zl,Zm,Zp,Zs,Zv,Zy,Z2,Z3,Z8,Z9,ZI,ZK,ZX,Yc,Yl,Ym,Ys,Yy,Yz,YQ,YV,YX,Xd,Xr,Xx,XJ,We,Wl,Wz,W0,W3,W9,WB,WG,WI,WK,WM,WN,WO,WP,WQ,WW,WX,WY,Vc,Vd,Ve,Vu,V8,V9,VB,VC,VD,VE,VF,VI,VJ,VK,VL,VN,VS,VT,VU,VX,VY,VZ,Ub,Uc,Ud,Ue,Uf,Ug,Ut,Uw,Ux,Uy,U1,U2,U3,UC,UD,Td,Te,Ti,Ts,Tt,Tu,Tv,Tx,Ty,T1,T6,T7,TI,Su,S8,u1,u2,t1,t2,t3,t4,t5,t6,v1,v2,v3,v4,k1,k2,c_a32,c_b33,c_ao];all_goals tactic=>exact rfl))
theorem aJR (c:a≠32∧b≠33∧32≤a):runW aA 89 [.pt 0 0,I a,I b] (gN l fl)=some (I (cT st s nur fix fl a b),gN l fl):=by
 have hcap:bW st s nur fix a b=0:=by
  unfold bW
  split<;>(try split)<;>(try split)<;>(try split)<;>(try split)<;>first|rfl|(exfalso;simp at *;omega)|(exfalso;omega)
 have f1:=hf a b
 have f2:=hf b a
 have hs:=h.s
 have hn:=h.nur
 have hx:=h.fix
 have hk:=h.st (a/2)
 have u1:IntKind.i64.wrap (0-fl a b)=0-fl a b:=aD (by omega) (by omega)
 have u2:IntKind.i64.wrap (0-fl a b+fl b a)=0-fl a b+fl b a:=aD (by omega) (by omega)
 have t1:jZ (a:Int) 2=((a%2:Nat):Int):=aY a 2
 have t2:jZ (b:Int) 2=((b%2:Nat):Int):=aY b 2
 have t3:lE (a:Int) 2=((a/2:Nat):Int):=cA a 2
 have t4:lE (b:Int) 2=((b/2:Nat):Int):=cA b 2
 have t5:IntKind.i64.wrap ((a/2:Nat):Int)=((a/2:Nat):Int):=aD (by omega) (by omega)
 have t6:IntKind.i64.wrap ((b/2:Nat):Int)=((b/2:Nat):Int):=aD (by omega) (by omega)
 have v1:((0:Int)≤a)=True:=eq_true (by omega)
 have v2:((a:Int)<34)=True:=eq_true (by omega)
 have v3:((0:Int)≤b)=True:=eq_true (by omega)
 have v4:((b:Int)<34)=True:=eq_true (by omega)
 have k1:=bV (v:=.pt 1 0) (fl:=fl) ha hb
 have k2:=bV (v:=.pt 1 0) (fl:=fl) hb ha
 have c_a32:((a:Int)=32)=False:=eq_false (by omega)
 have c_b33:((b:Int)=33)=False:=eq_false (by omega)
 have c_ag:(32≤(a:Int))=True:=eq_true (by omega)
 unfold cT
 rw[hcap]
 generalize hA:a/2=a2 at *
 generalize hB:b/2=b2 at *
 generalize hA2:a%2=a3 at *
 generalize hB2:b%2=b3 at *
 rw[r89 (by simp)];unfold x89;dsimp only
 (sym=>(simp[aM,aN,bL,aJ,aI,aK,aL,aW,aF,Za,Zb,Zf,Zh,Zi,Zl,Zm,Zp,Zt,Zv,Zy,Z2,Z3,Z8,Z9,ZI,ZK,ZW,Yc,Yl,Ym,Ys,Yx,Yy,Yz,YQ,YV,YX,Xd,Xr,Xx,XJ,We,Wl,Wz,W0,W3,W9,WB,WG,WI,WK,WM,WN,WO,WP,WQ,WW,WX,WY,Vc,Vd,Ve,Vu,V8,V9,VB,VC,VD,VE,VF,VI,VJ,VK,VL,VN,VS,VT,VU,VX,VY,VZ,Ub,Uc,Ud,Ue,Uf,Ug,Ut,Uw,Ux,Uy,U1,U2,U3,UC,UD,Td,Te,Ti,Ts,Tt,Tu,Tv,Tx,Ty,T1,T6,T7,TI,Su,S8,u1,u2,t1,t2,t3,t4,t5,t6,v1,v2,v3,v4,k1,k2,c_a32,c_b33,c_ag];all_goals tactic=>exact rfl))
theorem aJQ (c:a≠32∧b≠33∧¬32≤a∧32≤b):runW aA 89 [.pt 0 0,I a,I b] (gN l fl)=some (I (cT st s nur fix fl a b),gN l fl):=by
 have hcap:bW st s nur fix a b=0:=by
  unfold bW
  split<;>(try split)<;>(try split)<;>(try split)<;>(try split)<;>first|rfl|(exfalso;simp at *;omega)|(exfalso;omega)
 have f1:=hf a b
 have f2:=hf b a
 have hs:=h.s
 have hn:=h.nur
 have hx:=h.fix
 have hk:=h.st (a/2)
 have u1:IntKind.i64.wrap (0-fl a b)=0-fl a b:=aD (by omega) (by omega)
 have u2:IntKind.i64.wrap (0-fl a b+fl b a)=0-fl a b+fl b a:=aD (by omega) (by omega)
 have t1:jZ (a:Int) 2=((a%2:Nat):Int):=aY a 2
 have t2:jZ (b:Int) 2=((b%2:Nat):Int):=aY b 2
 have t3:lE (a:Int) 2=((a/2:Nat):Int):=cA a 2
 have t4:lE (b:Int) 2=((b/2:Nat):Int):=cA b 2
 have t5:IntKind.i64.wrap ((a/2:Nat):Int)=((a/2:Nat):Int):=aD (by omega) (by omega)
 have t6:IntKind.i64.wrap ((b/2:Nat):Int)=((b/2:Nat):Int):=aD (by omega) (by omega)
 have v1:((0:Int)≤a)=True:=eq_true (by omega)
 have v2:((a:Int)<34)=True:=eq_true (by omega)
 have v3:((0:Int)≤b)=True:=eq_true (by omega)
 have v4:((b:Int)<34)=True:=eq_true (by omega)
 have k1:=bV (v:=.pt 1 0) (fl:=fl) ha hb
 have k2:=bV (v:=.pt 1 0) (fl:=fl) hb ha
 have c_a32:((a:Int)=32)=False:=eq_false (by omega)
 have c_b33:((b:Int)=33)=False:=eq_false (by omega)
 have c_ag:(32≤(a:Int))=False:=eq_false (by omega)
 have c_bg:(32≤(b:Int))=True:=eq_true (by omega)
 unfold cT
 rw[hcap]
 generalize hA:a/2=a2 at *
 generalize hB:b/2=b2 at *
 generalize hA2:a%2=a3 at *
 generalize hB2:b%2=b3 at *
 rw[r89 (by simp)];unfold x89;dsimp only
 (sym=>(simp[aM,aN,bL,aJ,aI,aK,aL,aW,aF,Za,Zb,Zf,Zh,Zi,Zl,Zm,Zp,Zr,Zv,Zy,Z2,Z3,Z8,Z9,ZI,ZK,ZX,Yc,Yl,Ym,Ys,Yx,Yy,Yz,YQ,YV,YX,Xd,Xr,Xx,XJ,We,Wl,Wz,W0,W3,W9,WB,WG,WI,WK,WM,WN,WO,WP,WQ,WW,WX,WY,Vc,Vd,Ve,Vu,V8,V9,VB,VC,VD,VE,VF,VI,VJ,VK,VL,VN,VS,VT,VU,VX,VY,VZ,Ub,Uc,Ud,Ue,Uf,Ug,Ut,Uw,Ux,Uy,U1,U2,U3,UC,UD,Td,Te,Ti,Ts,Tt,Tu,Tv,Tx,Ty,T1,T6,T7,TI,Su,S8,u1,u2,t1,t2,t3,t4,t5,t6,v1,v2,v3,v4,k1,k2,c_a32,c_b33,c_ag,c_bg];all_goals tactic=>exact rfl))
theorem aHD (c:a≠32∧b≠33∧¬32≤a∧¬32≤b∧a%2=0∧b=a+1) (hv:(fix).testBit (a/2)=true):runW aA 89 [.pt 0 0,I a,I b] (gN l fl)=some (I (cT st s nur fix fl a b),gN l fl):=by
 have hcap:bW st s nur fix a b=16:=by
  unfold bW
  rw[hv,if_neg c.1,if_neg c.2.1,if_neg (by omega),if_pos ⟨c.2.2.2.2.1,c.2.2.2.2.2⟩,if_pos rfl]
 have f1:=hf a b
 have f2:=hf b a
 have hs:=h.s
 have hn:=h.nur
 have hx:=h.fix
 have hk:=h.st (a/2)
 have u1:IntKind.i64.wrap (16-fl a b)=16-fl a b:=aD (by omega) (by omega)
 have u2:IntKind.i64.wrap (16-fl a b+fl b a)=16-fl a b+fl b a:=aD (by omega) (by omega)
 have t1:jZ (a:Int) 2=((a%2:Nat):Int):=aY a 2
 have t2:jZ (b:Int) 2=((b%2:Nat):Int):=aY b 2
 have t3:lE (a:Int) 2=((a/2:Nat):Int):=cA a 2
 have t4:lE (b:Int) 2=((b/2:Nat):Int):=cA b 2
 have t5:IntKind.i64.wrap ((a/2:Nat):Int)=((a/2:Nat):Int):=aD (by omega) (by omega)
 have t6:IntKind.i64.wrap ((b/2:Nat):Int)=((b/2:Nat):Int):=aD (by omega) (by omega)
 have v1:((0:Int)≤a)=True:=eq_true (by omega)
 have v2:((a:Int)<34)=True:=eq_true (by omega)
 have v3:((0:Int)≤b)=True:=eq_true (by omega)
 have v4:((b:Int)<34)=True:=eq_true (by omega)
 have k1:=bV (v:=.pt 1 0) (fl:=fl) ha hb
 have k2:=bV (v:=.pt 1 0) (fl:=fl) hb ha
 have w1:IntKind.i64.wrap ((a:Int)+1)=(a:Int)+1:=aD (by omega) (by omega)
 have c_a32:((a:Int)=32)=False:=eq_false (by omega)
 have c_b33:((b:Int)=33)=False:=eq_false (by omega)
 have c_ag:(32≤(a:Int))=False:=eq_false (by omega)
 have c_bg:(32≤(b:Int))=False:=eq_false (by omega)
 have c_ae:(((a%2:Nat):Int)=0)=True:=eq_true (by omega)
 have c_ba:((b:Int)=(a:Int)+1)=True:=eq_true (by omega)
 have e:=pK (a:=fix) (j:=a/2) (by omega) (by omega)
 rw[hv]at e
 have q:=h.l5
 unfold cT
 rw[hcap]
 generalize hA:a/2=a2 at *
 generalize hB:b/2=b2 at *
 generalize hA2:a%2=a3 at *
 generalize hB2:b%2=b3 at *
 rw[r89 (by simp)];unfold x89;dsimp only
 (sym=>(simp[aM,aN,bL,aJ,aI,aK,aL,aW,aF,Za,Zb,Zf,Zh,Zi,Zl,Zm,Zp,Zq,Zr,Zv,Zy,Z2,Z3,Z8,Z9,ZH,ZI,ZK,ZP,ZQ,ZU,ZV,ZW,ZX,Yc,Yl,Ym,Ys,Yx,Yy,Yz,YQ,YV,YX,Xd,Xr,Xs,Xx,XJ,We,Wl,Wz,W0,W3,W8,W9,WB,WG,WI,WK,WL,WM,WN,WO,WP,WQ,WS,WT,WW,WX,WY,Vc,Vd,Ve,Vg,Vh,Vi,Vu,V8,V9,VB,VC,VD,VE,VF,VI,VJ,VK,VL,VN,VS,VT,VU,VX,VY,VZ,Ub,Uc,Ud,Ue,Uf,Ug,Ut,Uw,Ux,Uy,U1,U2,U3,U4,U5,UC,UD,Td,Te,Ti,Ts,Tt,Tu,Tx,Ty,T1,T6,T7,TI,Su,S8,u1,u2,t1,t2,t3,t4,t5,t6,v1,v2,v3,v4,k1,k2,w1,c_a32,c_b33,c_ag,c_bg,c_ae,c_ba,e,q];all_goals tactic=>exact rfl))
theorem aHE (c:a≠32∧b≠33∧¬32≤a∧¬32≤b∧a%2=0∧b=a+1) (hv:(fix).testBit (a/2)=false):runW aA 89 [.pt 0 0,I a,I b] (gN l fl)=some (I (cT st s nur fix fl a b),gN l fl):=by
 have hcap:bW st s nur fix a b=1:=by
  unfold bW
  rw[hv,if_neg c.1,if_neg c.2.1,if_neg (by omega),if_pos ⟨c.2.2.2.2.1,c.2.2.2.2.2⟩,if_neg (by simp)]
 have f1:=hf a b
 have f2:=hf b a
 have hs:=h.s
 have hn:=h.nur
 have hx:=h.fix
 have hk:=h.st (a/2)
 have u1:IntKind.i64.wrap (1-fl a b)=1-fl a b:=aD (by omega) (by omega)
 have u2:IntKind.i64.wrap (1-fl a b+fl b a)=1-fl a b+fl b a:=aD (by omega) (by omega)
 have t1:jZ (a:Int) 2=((a%2:Nat):Int):=aY a 2
 have t2:jZ (b:Int) 2=((b%2:Nat):Int):=aY b 2
 have t3:lE (a:Int) 2=((a/2:Nat):Int):=cA a 2
 have t4:lE (b:Int) 2=((b/2:Nat):Int):=cA b 2
 have t5:IntKind.i64.wrap ((a/2:Nat):Int)=((a/2:Nat):Int):=aD (by omega) (by omega)
 have t6:IntKind.i64.wrap ((b/2:Nat):Int)=((b/2:Nat):Int):=aD (by omega) (by omega)
 have v1:((0:Int)≤a)=True:=eq_true (by omega)
 have v2:((a:Int)<34)=True:=eq_true (by omega)
 have v3:((0:Int)≤b)=True:=eq_true (by omega)
 have v4:((b:Int)<34)=True:=eq_true (by omega)
 have k1:=bV (v:=.pt 1 0) (fl:=fl) ha hb
 have k2:=bV (v:=.pt 1 0) (fl:=fl) hb ha
 have w1:IntKind.i64.wrap ((a:Int)+1)=(a:Int)+1:=aD (by omega) (by omega)
 have c_a32:((a:Int)=32)=False:=eq_false (by omega)
 have c_b33:((b:Int)=33)=False:=eq_false (by omega)
 have c_ag:(32≤(a:Int))=False:=eq_false (by omega)
 have c_bg:(32≤(b:Int))=False:=eq_false (by omega)
 have c_ae:(((a%2:Nat):Int)=0)=True:=eq_true (by omega)
 have c_ba:((b:Int)=(a:Int)+1)=True:=eq_true (by omega)
 have e:=pK (a:=fix) (j:=a/2) (by omega) (by omega)
 rw[hv]at e
 have q:=h.l5
 unfold cT
 rw[hcap]
 generalize hA:a/2=a2 at *
 generalize hB:b/2=b2 at *
 generalize hA2:a%2=a3 at *
 generalize hB2:b%2=b3 at *
 rw[r89 (by simp)];unfold x89;dsimp only
 (sym=>(simp[aM,aN,bL,aJ,aI,aK,aL,aW,aF,Za,Zb,Zf,Zh,Zi,Zl,Zm,Zp,Zq,Zr,Zv,Zy,Z2,Z3,Z8,Z9,ZH,ZI,ZK,ZP,ZQ,ZU,ZV,ZW,ZX,Yc,Yl,Ym,Ys,Yx,Yy,Yz,YQ,YV,YX,Xd,Xr,Xs,Xx,XJ,We,Wl,Wz,W0,W3,W8,W9,WB,WG,WI,WK,WL,WM,WN,WO,WP,WQ,WS,WT,WW,WX,WY,Vc,Vd,Ve,Vg,Vh,Vi,Vu,V8,V9,VB,VC,VD,VE,VF,VI,VJ,VK,VL,VN,VS,VT,VU,VX,VY,VZ,Ub,Uc,Ud,Ue,Uf,Ug,Ut,Uw,Ux,Uy,U1,U2,U3,U4,U5,UC,UD,Td,Te,Ti,Ts,Tt,Tu,Tv,Tx,Ty,T1,T6,T7,TI,Su,S8,u1,u2,t1,t2,t3,t4,t5,t6,v1,v2,v3,v4,k1,k2,w1,c_a32,c_b33,c_ag,c_bg,c_ae,c_ba,e,q];all_goals tactic=>exact rfl))
theorem aJP (c:a≠32∧b≠33∧¬32≤a∧¬32≤b∧a%2=0∧¬b=a+1):runW aA 89 [.pt 0 0,I a,I b] (gN l fl)=some (I (cT st s nur fix fl a b),gN l fl):=by
 have hcap:bW st s nur fix a b=0:=by
  unfold bW
  split<;>(try split)<;>(try split)<;>(try split)<;>(try split)<;>first|rfl|(exfalso;simp at *;omega)|(exfalso;omega)
 have f1:=hf a b
 have f2:=hf b a
 have hs:=h.s
 have hn:=h.nur
 have hx:=h.fix
 have hk:=h.st (a/2)
 have u1:IntKind.i64.wrap (0-fl a b)=0-fl a b:=aD (by omega) (by omega)
 have u2:IntKind.i64.wrap (0-fl a b+fl b a)=0-fl a b+fl b a:=aD (by omega) (by omega)
 have t1:jZ (a:Int) 2=((a%2:Nat):Int):=aY a 2
 have t2:jZ (b:Int) 2=((b%2:Nat):Int):=aY b 2
 have t3:lE (a:Int) 2=((a/2:Nat):Int):=cA a 2
 have t4:lE (b:Int) 2=((b/2:Nat):Int):=cA b 2
 have t5:IntKind.i64.wrap ((a/2:Nat):Int)=((a/2:Nat):Int):=aD (by omega) (by omega)
 have t6:IntKind.i64.wrap ((b/2:Nat):Int)=((b/2:Nat):Int):=aD (by omega) (by omega)
 have v1:((0:Int)≤a)=True:=eq_true (by omega)
 have v2:((a:Int)<34)=True:=eq_true (by omega)
 have v3:((0:Int)≤b)=True:=eq_true (by omega)
 have v4:((b:Int)<34)=True:=eq_true (by omega)
 have k1:=bV (v:=.pt 1 0) (fl:=fl) ha hb
 have k2:=bV (v:=.pt 1 0) (fl:=fl) hb ha
 have w1:IntKind.i64.wrap ((a:Int)+1)=(a:Int)+1:=aD (by omega) (by omega)
 have c_a32:((a:Int)=32)=False:=eq_false (by omega)
 have c_b33:((b:Int)=33)=False:=eq_false (by omega)
 have c_ag:(32≤(a:Int))=False:=eq_false (by omega)
 have c_bg:(32≤(b:Int))=False:=eq_false (by omega)
 have c_ae:(((a%2:Nat):Int)=0)=True:=eq_true (by omega)
 have c_ba:((b:Int)=(a:Int)+1)=False:=eq_false (by omega)
 have c_ao:(((a%2:Nat):Int)=1)=False:=eq_false (by omega)
 unfold cT
 rw[hcap]
 generalize hA:a/2=a2 at *
 generalize hB:b/2=b2 at *
 generalize hA2:a%2=a3 at *
 generalize hB2:b%2=b3 at *
 rw[r89 (by simp)];unfold x89;dsimp only
 (sym=>(simp[aM,aN,bL,aJ,aI,aK,aL,aW,aF,Za,Zb,Zf,Zh,Zi,Zl,Zm,Zp,Zq,Zr,Zs,Zv,Zy,Z2,Z3,Z8,Z9,ZI,ZK,ZW,ZX,Yc,Yl,Ym,Ys,Yx,Yy,Yz,YQ,YV,YX,Xd,Xr,Xx,XJ,We,Wl,Wz,W0,W3,W9,WB,WG,WI,WK,WM,WN,WO,WP,WQ,WW,WX,WY,Vc,Vd,Ve,Vu,V8,V9,VB,VC,VD,VE,VF,VI,VJ,VK,VL,VN,VS,VU,VX,VY,VZ,Ub,Uc,Ud,Ue,Uf,Ug,Ut,Uw,Ux,Uy,U1,U2,U3,UC,UD,Td,Te,Ti,Ts,Tt,Tu,Tv,Tx,Ty,T1,T6,T7,TI,Su,S8,u1,u2,t1,t2,t3,t4,t5,t6,v1,v2,v3,v4,k1,k2,w1,c_a32,c_b33,c_ag,c_bg,c_ae,c_ba,c_ao];all_goals tactic=>exact rfl))
theorem aHB (c:a≠32∧b≠33∧¬32≤a∧¬32≤b∧a%2=1∧b%2=0) (hv:(st (a/2)).testBit (b/2)=true):runW aA 89 [.pt 0 0,I a,I b] (gN l fl)=some (I (cT st s nur fix fl a b),gN l fl):=by
 have hcap:bW st s nur fix a b=16:=by
  unfold bW
  rw[hv,if_neg c.1,if_neg c.2.1,if_neg (by omega),if_neg (by omega),if_pos ⟨c.2.2.2.2.1,c.2.2.2.2.2,rfl⟩]
 have f1:=hf a b
 have f2:=hf b a
 have hs:=h.s
 have hn:=h.nur
 have hx:=h.fix
 have hk:=h.st (a/2)
 have u1:IntKind.i64.wrap (16-fl a b)=16-fl a b:=aD (by omega) (by omega)
 have u2:IntKind.i64.wrap (16-fl a b+fl b a)=16-fl a b+fl b a:=aD (by omega) (by omega)
 have t1:jZ (a:Int) 2=((a%2:Nat):Int):=aY a 2
 have t2:jZ (b:Int) 2=((b%2:Nat):Int):=aY b 2
 have t3:lE (a:Int) 2=((a/2:Nat):Int):=cA a 2
 have t4:lE (b:Int) 2=((b/2:Nat):Int):=cA b 2
 have t5:IntKind.i64.wrap ((a/2:Nat):Int)=((a/2:Nat):Int):=aD (by omega) (by omega)
 have t6:IntKind.i64.wrap ((b/2:Nat):Int)=((b/2:Nat):Int):=aD (by omega) (by omega)
 have v1:((0:Int)≤a)=True:=eq_true (by omega)
 have v2:((a:Int)<34)=True:=eq_true (by omega)
 have v3:((0:Int)≤b)=True:=eq_true (by omega)
 have v4:((b:Int)<34)=True:=eq_true (by omega)
 have k1:=bV (v:=.pt 1 0) (fl:=fl) ha hb
 have k2:=bV (v:=.pt 1 0) (fl:=fl) hb ha
 have c_a32:((a:Int)=32)=False:=eq_false (by omega)
 have c_b33:((b:Int)=33)=False:=eq_false (by omega)
 have c_ag:(32≤(a:Int))=False:=eq_false (by omega)
 have c_bg:(32≤(b:Int))=False:=eq_false (by omega)
 have c_ae:(((a%2:Nat):Int)=0)=False:=eq_false (by omega)
 have c_ao:(((a%2:Nat):Int)=1)=True:=eq_true (by omega)
 have c_be:(((b%2:Nat):Int)=0)=True:=eq_true (by omega)
 have e:=pK (a:=st (a/2)) (j:=b/2) (by omega) (by omega)
 rw[hv]at e
 have q:=h.k (a/2) (by omega)
 have v5:((0:Int)≤((a/2:Nat):Int))=True:=eq_true (by omega)
 have v6:(((a/2:Nat):Int)<16)=True:=eq_true (by omega)
 unfold cT
 rw[hcap]
 generalize hA:a/2=a2 at *
 generalize hB:b/2=b2 at *
 generalize hA2:a%2=a3 at *
 generalize hB2:b%2=b3 at *
 rw[r89 (by simp)];unfold x89;dsimp only
 (sym=>(simp[aM,aN,bL,aJ,aI,aK,aL,aW,aF,Za,Zb,Zf,Zh,Zi,Zl,Zm,Zp,Zq,Zr,Zs,Zv,Zy,Z2,Z3,Z8,Z9,ZH,ZI,ZK,ZP,ZQ,ZU,ZV,ZW,ZX,Yc,Yl,Ym,Ys,Yx,Yy,Yz,YQ,YV,YX,Xd,Xr,Xs,Xx,XJ,We,Wl,Wz,W0,W3,W8,W9,WB,WG,WI,WK,WL,WM,WN,WO,WP,WQ,WS,WT,WW,WX,WY,Vc,Vd,Ve,Vg,Vh,Vi,Vu,V8,V9,VB,VC,VD,VE,VF,VI,VJ,VK,VL,VN,VS,VT,VU,VX,VY,VZ,Ub,Uc,Ud,Ue,Uf,Ug,Ut,Uw,Ux,Uy,U1,U2,U3,U4,U5,UC,UD,Td,Te,Ti,Ts,Tt,Tu,Tx,Ty,T1,T6,T7,TI,Su,S6,S8,u1,u2,t1,t2,t3,t4,t5,t6,v1,v2,v3,v4,k1,k2,c_a32,c_b33,c_ag,c_bg,c_ae,c_ao,c_be,e,q,v5,v6];all_goals tactic=>exact rfl))
theorem aHC (c:a≠32∧b≠33∧¬32≤a∧¬32≤b∧a%2=1∧b%2=0) (hv:(st (a/2)).testBit (b/2)=false):runW aA 89 [.pt 0 0,I a,I b] (gN l fl)=some (I (cT st s nur fix fl a b),gN l fl):=by
 have hcap:bW st s nur fix a b=0:=by
  unfold bW
  rw[hv,if_neg c.1,if_neg c.2.1,if_neg (by omega),if_neg (by omega),if_neg (by simp)]
 have f1:=hf a b
 have f2:=hf b a
 have hs:=h.s
 have hn:=h.nur
 have hx:=h.fix
 have hk:=h.st (a/2)
 have u1:IntKind.i64.wrap (0-fl a b)=0-fl a b:=aD (by omega) (by omega)
 have u2:IntKind.i64.wrap (0-fl a b+fl b a)=0-fl a b+fl b a:=aD (by omega) (by omega)
 have t1:jZ (a:Int) 2=((a%2:Nat):Int):=aY a 2
 have t2:jZ (b:Int) 2=((b%2:Nat):Int):=aY b 2
 have t3:lE (a:Int) 2=((a/2:Nat):Int):=cA a 2
 have t4:lE (b:Int) 2=((b/2:Nat):Int):=cA b 2
 have t5:IntKind.i64.wrap ((a/2:Nat):Int)=((a/2:Nat):Int):=aD (by omega) (by omega)
 have t6:IntKind.i64.wrap ((b/2:Nat):Int)=((b/2:Nat):Int):=aD (by omega) (by omega)
 have v1:((0:Int)≤a)=True:=eq_true (by omega)
 have v2:((a:Int)<34)=True:=eq_true (by omega)
 have v3:((0:Int)≤b)=True:=eq_true (by omega)
 have v4:((b:Int)<34)=True:=eq_true (by omega)
 have k1:=bV (v:=.pt 1 0) (fl:=fl) ha hb
 have k2:=bV (v:=.pt 1 0) (fl:=fl) hb ha
 have c_a32:((a:Int)=32)=False:=eq_false (by omega)
 have c_b33:((b:Int)=33)=False:=eq_false (by omega)
 have c_ag:(32≤(a:Int))=False:=eq_false (by omega)
 have c_bg:(32≤(b:Int))=False:=eq_false (by omega)
 have c_ae:(((a%2:Nat):Int)=0)=False:=eq_false (by omega)
 have c_ao:(((a%2:Nat):Int)=1)=True:=eq_true (by omega)
 have c_be:(((b%2:Nat):Int)=0)=True:=eq_true (by omega)
 have e:=pK (a:=st (a/2)) (j:=b/2) (by omega) (by omega)
 rw[hv]at e
 have q:=h.k (a/2) (by omega)
 have v5:((0:Int)≤((a/2:Nat):Int))=True:=eq_true (by omega)
 have v6:(((a/2:Nat):Int)<16)=True:=eq_true (by omega)
 unfold cT
 rw[hcap]
 generalize hA:a/2=a2 at *
 generalize hB:b/2=b2 at *
 generalize hA2:a%2=a3 at *
 generalize hB2:b%2=b3 at *
 rw[r89 (by simp)];unfold x89;dsimp only
 (sym=>(simp[aM,aN,bL,aJ,aI,aK,aL,aW,aF,Za,Zb,Zf,Zh,Zi,Zl,Zm,Zp,Zq,Zr,Zs,Zv,Zy,Z2,Z3,Z8,Z9,ZH,ZI,ZK,ZP,ZQ,ZU,ZV,ZW,ZX,Yc,Yl,Ym,Ys,Yx,Yy,Yz,YQ,YV,YX,Xd,Xr,Xs,Xx,XJ,We,Wl,Wz,W0,W3,W8,W9,WB,WG,WI,WK,WL,WM,WN,WO,WP,WQ,WS,WT,WW,WX,WY,Vc,Vd,Ve,Vg,Vh,Vi,Vu,V8,V9,VB,VC,VD,VE,VF,VI,VJ,VK,VL,VN,VS,VU,VX,VY,VZ,Ub,Uc,Ud,Ue,Uf,Ug,Ut,Uw,Ux,Uy,U1,U2,U3,U4,U5,UC,UD,Td,Te,Ti,Ts,Tt,Tu,Tv,Tx,Ty,T1,T6,T7,TI,Su,S6,S8,u1,u2,t1,t2,t3,t4,t5,t6,v1,v2,v3,v4,k1,k2,c_a32,c_b33,c_ag,c_bg,c_ae,c_ao,c_be,e,q,v5,v6];all_goals tactic=>exact rfl))
theorem aJO (c:a≠32∧b≠33∧¬32≤a∧¬32≤b∧a%2=1∧¬b%2=0):runW aA 89 [.pt 0 0,I a,I b] (gN l fl)=some (I (cT st s nur fix fl a b),gN l fl):=by
 have hcap:bW st s nur fix a b=0:=by
  unfold bW
  split<;>(try split)<;>(try split)<;>(try split)<;>(try split)<;>first|rfl|(exfalso;simp at *;omega)|(exfalso;omega)
 have f1:=hf a b
 have f2:=hf b a
 have hs:=h.s
 have hn:=h.nur
 have hx:=h.fix
 have hk:=h.st (a/2)
 have u1:IntKind.i64.wrap (0-fl a b)=0-fl a b:=aD (by omega) (by omega)
 have u2:IntKind.i64.wrap (0-fl a b+fl b a)=0-fl a b+fl b a:=aD (by omega) (by omega)
 have t1:jZ (a:Int) 2=((a%2:Nat):Int):=aY a 2
 have t2:jZ (b:Int) 2=((b%2:Nat):Int):=aY b 2
 have t3:lE (a:Int) 2=((a/2:Nat):Int):=cA a 2
 have t4:lE (b:Int) 2=((b/2:Nat):Int):=cA b 2
 have t5:IntKind.i64.wrap ((a/2:Nat):Int)=((a/2:Nat):Int):=aD (by omega) (by omega)
 have t6:IntKind.i64.wrap ((b/2:Nat):Int)=((b/2:Nat):Int):=aD (by omega) (by omega)
 have v1:((0:Int)≤a)=True:=eq_true (by omega)
 have v2:((a:Int)<34)=True:=eq_true (by omega)
 have v3:((0:Int)≤b)=True:=eq_true (by omega)
 have v4:((b:Int)<34)=True:=eq_true (by omega)
 have k1:=bV (v:=.pt 1 0) (fl:=fl) ha hb
 have k2:=bV (v:=.pt 1 0) (fl:=fl) hb ha
 have c_a32:((a:Int)=32)=False:=eq_false (by omega)
 have c_b33:((b:Int)=33)=False:=eq_false (by omega)
 have c_ag:(32≤(a:Int))=False:=eq_false (by omega)
 have c_bg:(32≤(b:Int))=False:=eq_false (by omega)
 have c_ae:(((a%2:Nat):Int)=0)=False:=eq_false (by omega)
 have c_ao:(((a%2:Nat):Int)=1)=True:=eq_true (by omega)
 have c_be:(((b%2:Nat):Int)=0)=False:=eq_false (by omega)
 unfold cT
 rw[hcap]
 generalize hA:a/2=a2 at *
 generalize hB:b/2=b2 at *
 generalize hA2:a%2=a3 at *
 generalize hB2:b%2=b3 at *
 rw[r89 (by simp)];unfold x89;dsimp only
 (sym=>(simp[aM,aN,bL,aJ,aI,aK,aL,aW,aF,Za,Zb,Zf,Zh,Zi,Zl,Zm,Zp,Zq,Zr,Zs,Zv,Zy,Z2,Z3,Z8,Z9,ZI,ZK,ZW,ZX,Yc,Yl,Ym,Ys,Yx,Yy,Yz,YQ,YV,YX,Xd,Xr,Xx,XJ,We,Wl,Wz,W0,W3,W9,WB,WG,WI,WK,WM,WN,WO,WP,WQ,WW,WX,WY,Vc,Vd,Ve,Vu,V8,V9,VB,VC,VD,VE,VF,VI,VJ,VK,VL,VN,VS,VU,VX,VY,VZ,Ub,Uc,Ud,Ue,Uf,Ug,Ut,Uw,Ux,Uy,U1,U2,U3,UC,UD,Td,Te,Ti,Ts,Tt,Tu,Tv,Tx,Ty,T1,T6,T7,TI,Su,S8,u1,u2,t1,t2,t3,t4,t5,t6,v1,v2,v3,v4,k1,k2,c_a32,c_b33,c_ag,c_bg,c_ae,c_ao,c_be];all_goals tactic=>exact rfl))
theorem w89:runW aA 89 [.pt 0 0,I a,I b] (gN l fl)=some (I (cT st s nur fix fl a b),gN l fl):=by
 by_cases p1:a=32
 ·by_cases p2:b%2=0
  ·by_cases p3:b<32
   ·cases hv:s.testBit (b/2)
    ·exact aHI h hf ha hb (by omega) hv
    ·exact aHH h hf ha hb (by omega) hv
   ·exact aJV h hf ha hb (by omega)
  ·exact aJU h hf ha hb (by omega)
 ·by_cases p2:b=33
  ·by_cases p3:a%2=1
   ·by_cases p4:a<32
    ·cases hv:nur.testBit (a/2)
     ·exact aHG h hf ha hb (by omega) hv
     ·exact aHF h hf ha hb (by omega) hv
    ·exact aJT h hf ha hb (by omega)
   ·exact aJS h hf ha hb (by omega)
  ·by_cases p3:32≤a
   ·exact aJR h hf ha hb (by omega)
   ·by_cases p4:32≤b
    ·exact aJQ h hf ha hb (by omega)
    ·by_cases p5:a%2=0
     ·by_cases p6:b=a+1
      ·cases hv:fix.testBit (a/2)
       ·exact aHE h hf ha hb (by omega) hv
       ·exact aHD h hf ha hb (by omega) hv
      ·exact aJP h hf ha hb (by omega)
     ·by_cases p6:b%2=0
      ·cases hv:(st (a/2)).testBit (b/2)
       ·exact aHC h hf ha hb (by omega) hv
       ·exact aHB h hf ha hb (by omega) hv
      ·exact aJO h hf ha hb (by omega)
end
def aBa (m:Nat→Bool):List AV:=(List.range 34).map fun k=>.bool (m k)
def fR (m:Nat→Bool) (a:Nat):Nat→Bool:=fun c=>if c=a then true else m c
theorem dE {m:Nat→Bool}:(aBa m).length=34:=by simp[aBa]
theorem qD {m:Nat→Bool} {a:Nat} (ha:a<34):(aBa m)[a]?=some (.bool (m a)):=by
 rw[aBa,List.getElem?_map,List.getElem?_range ha];rfl
theorem aKn {m:Nat→Bool} {a:Nat} (ha:a<34):cB (aBa m) a [.bool true]=aBa (fR m a):=by
 rw[fX (by rw[dE];omega)]
 apply List.ext_getElem?
 intro j
 rw[List.getElem?_set,dE]
 by_cases hj:a=j
 ·subst hj
  rw[if_pos rfl,if_pos ha,qD ha,fR,if_pos rfl]
 ·rw[if_neg hj]
  by_cases h:j<34
  ·rw[qD h,qD h,fR,if_neg (by omega)]
  ·rw[List.getElem?_eq_none (by rw[dE];omega),List.getElem?_eq_none (by rw[dE];omega)]
def aDK (m:Nat→Bool):Nat:=((List.range 34).filter m).length
theorem aKS (m:Nat→Bool):aDK m≤34:=by
 have:=List.length_filter_le m (List.range 34)
 simpa [aDK]using this
def aAI (m m':Nat→Bool):Prop:=∀ c,m c=true→m' c=true
theorem aFq (m:Nat→Bool):aAI m m:=fun _ h=>h
theorem wV {m m' m'':Nat→Bool} (h:aAI m m') (g:aAI m' m''):aAI m m'':=fun c hc=>g c (h c hc)
theorem nJ (m:Nat→Bool) (a:Nat):aAI m (fR m a):=fun c hc=>by unfold fR;split<;>first|rfl|exact hc
theorem aFZ {m m':Nat→Bool} (h:aAI m m'):aDK m≤aDK m':=pA _ fun k _ hk=>h k hk
theorem aCA {m:Nat→Bool} {a:Nat} (ha:a<34) (h:m a=false):aDK m<aDK (fR m a) :=
 tR h (by simp[fR]) _ (List.mem_range.2 ha) fun k _ hk=>nJ m a k hk
def push (fl:Nat→Nat→Int) (a b:Nat):Nat→Nat→Int:=if 0<fl b a then lD fl b a (fl b a-1) else lD fl a b (fl a b+1)
section
variable (cap:Nat→Nat→Int)
def xC (fl:Nat→Nat→Int) (a b:Nat):Int:=cap a b-fl a b+fl b a
inductive Aug (fl:Nat→Nat→Int):(Nat→Bool)→Nat→(Nat→Nat→Int)→Prop
 | sink {m:Nat→Bool}:Aug fl m 33 fl
 | step {m:Nat→Bool} {a b:Nat} {fl':Nat→Nat→Int}:m a=false→a<33→b<34→0<xC cap fl a b→Aug fl (fR m a) b fl'→Aug fl m a (push fl' a b)
variable {cap}
theorem Aug.mono {fl fl':Nat→Nat→Int} {m m':Nat→Bool} {a:Nat} (h:Aug cap fl m a fl') (hs:aAI m' m):Aug cap fl m' a fl':=by
 induction h generalizing m' with
 | sink=>exact .sink
 | @step m a b fl' h1 h2 h3 h4 _ ih =>
   refine .step ?_ h2 h3 h4 (ih ?_)
   ·cases h:m' a
    ·rfl
    ·rw[hs _ h]at h1;simp at h1
   ·intro c hc
    unfold fR at hc ⊢
    split
    ·rfl
    ·next hn=>rw[if_neg hn]at hc;exact hs c hc
theorem aFH {fl:Nat→Nat→Int} {a b c d:Nat} (h1:¬(c=a∧d=b)) (h2:¬(c=b∧d=a)):push fl a b c d=fl c d:=by
 unfold push
 split
 ·unfold lD;rw[if_neg h2]
 ·unfold lD;rw[if_neg h1]
theorem Aug.free {fl fl':Nat→Nat→Int} {m:Nat→Bool} {a:Nat} (h:Aug cap fl m a fl'):a=33∨m a=false:=by
 cases h with
 | sink=>exact .inl rfl
 | step h _ _ _ _=>exact .inr h
theorem Aug.same {fl fl':Nat→Nat→Int} {m:Nat→Bool} {a:Nat} (h:Aug cap fl m a fl') (h33:m 33=false):∀ c d,m c=true∨m d=true→fl' c d=fl c d:=by
 induction h with
 | sink=>exact fun _ _ _=>rfl
 | @step m a b fl' h1 h2 h3 h4 h5 ih =>
   intro c d hcd
   have hb:=h5.free
   have n33:fR m a 33=false:=by unfold fR;rw[if_neg (by omega)];exact h33
   have hmb:m b=false:=by
    rcases hb with rfl|hb
    ·exact h33
    ·cases e:m b
     ·rfl
     ·rw[nJ m a b e]at hb;simp at hb
   rw[aFH,ih n33 c d]
   ·rcases hcd with h|h
    ·exact .inl (nJ m a c h)
    ·exact .inr (nJ m a d h)
   ·rintro ⟨rfl,rfl⟩
    rcases hcd with h|h
    ·rw[h]at h1;simp at h1
    ·rw[h]at hmb;simp at hmb
   ·rintro ⟨rfl,rfl⟩
    rcases hcd with h|h
    ·rw[h]at hmb;simp at hmb
    ·rw[h]at h1;simp at h1
structure aDR (cap:Nat→Nat→Int) (fl:Nat→Nat→Int) (m m':Nat→Bool) (a:Nat):Prop where
 sub:aAI m m'
 has:m' a=true
 last:m' 33=false
 new:∀ c,m' c=true→m c=false→∀ b,b<34→0<xC cap fl c b→m' b=true
end
end Go.Proofs.YtiabjdfdkiijmaaDoor
