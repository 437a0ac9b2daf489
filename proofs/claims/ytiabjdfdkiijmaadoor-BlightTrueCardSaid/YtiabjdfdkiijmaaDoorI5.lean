/- Parts of a proof, joined: GT E0 K1 K2 K3 K4 K5 K6 K7 K8 K9 K10 K11 K12 K13 K14 K15 K16 K17 K18 K19 K20 K21 K22 K23 K24 K25 K26 K27 K28 K29 K30 K31 K32 K33 K34 K35 K36 K37 K38 K39 K40 K41 K42 K43 K44 K45 K46. No statement of the seed is proved here. -/
import Derived.KernelRfl
import Derived.Test.YtiabjdfdkiijmaaDoorI4
set_option linter.unusedSimpArgs false
set_option linter.unusedVariables false
set_option linter.unusedSectionVars false
namespace Go.Proofs.YtiabjdfdkiijmaaDoor
open Go Go.DL Go.Proofs.Tryd

def aA:Nat→Option XFn
 | 7=>some x7
 | 16=>some x16
 | 18=>some x18
 | 20=>some x20
 | 22=>some x22
 | 23=>some x23
 | 25=>some x25
 | 27=>some x27
 | 29=>some x29
 | 31=>some x31
 | 33=>some x33
 | 35=>some x35
 | 36=>some x36
 | 37=>some x37
 | 38=>some x38
 | 44=>some x44
 | 45=>some x45
 | 46=>some x46
 | 50=>some x50
 | 51=>some x51
 | 53=>some x53
 | 54=>some x54
 | 56=>some x56
 | 57=>some x57
 | 59=>some x59
 | 60=>some x60
 | 61=>some x61
 | 62=>some x62
 | 63=>some x63
 | 65=>some x65
 | 66=>some x66
 | 67=>some x67
 | 68=>some x68
 | 70=>some x70
 | 71=>some x71
 | 72=>some x72
 | 75=>some x75
 | 76=>some x76
 | 77=>some x77
 | 78=>some x78
 | 79=>some x79
 | 80=>some x80
 | 81=>some x81
 | 82=>some x82
 | 83=>some x83
 | 84=>some x84
 | 85=>some x85
 | 86=>some x86
 | 87=>some x87
 | 88=>some x88
 | 89=>some x89
 | 90=>some x90
 | 91=>some x91
 | _=>none
theorem aFo:XOk prog aA:=by
 refine⟨rfl,fun k d h=>?_,fun k d h=>?_,fun k d h=>?_⟩
 ·unfold aA at h
  split at h
  ·simp only[oSI]at h;subst h;exact is7
  ·simp only[oSI]at h;subst h;exact aOH
  ·simp only[oSI]at h;subst h;exact aOG
  ·simp only[oSI]at h;subst h;exact aOF
  ·simp only[oSI]at h;subst h;exact aOE
  ·simp only[oSI]at h;subst h;exact aOD
  ·simp only[oSI]at h;subst h;exact aOC
  ·simp only[oSI]at h;subst h;exact aOB
  ·simp only[oSI]at h;subst h;exact aOA
  ·simp only[oSI]at h;subst h;exact aOz
  ·simp only[oSI]at h;subst h;exact aOy
  ·simp only[oSI]at h;subst h;exact aOx
  ·simp only[oSI]at h;subst h;exact aOw
  ·simp only[oSI]at h;subst h;exact aOv
  ·simp only[oSI]at h;subst h;exact aOu
  ·simp only[oSI]at h;subst h;exact aOt
  ·simp only[oSI]at h;subst h;exact aOs
  ·simp only[oSI]at h;subst h;exact aOr
  ·simp only[oSI]at h;subst h;exact aOq
  ·simp only[oSI]at h;subst h;exact aOp
  ·simp only[oSI]at h;subst h;exact aOo
  ·simp only[oSI]at h;subst h;exact aOn
  ·simp only[oSI]at h;subst h;exact aOm
  ·simp only[oSI]at h;subst h;exact aOl
  ·simp only[oSI]at h;subst h;exact aOk
  ·simp only[oSI]at h;subst h;exact aOj
  ·simp only[oSI]at h;subst h;exact aOi
  ·simp only[oSI]at h;subst h;exact aOh
  ·simp only[oSI]at h;subst h;exact aOg
  ·simp only[oSI]at h;subst h;exact aOf
  ·simp only[oSI]at h;subst h;exact aOe
  ·simp only[oSI]at h;subst h;exact aOd
  ·simp only[oSI]at h;subst h;exact aOc
  ·simp only[oSI]at h;subst h;exact aOb
  ·simp only[oSI]at h;subst h;exact aOa
  ·simp only[oSI]at h;subst h;exact aNZ
  ·simp only[oSI]at h;subst h;exact aNY
  ·simp only[oSI]at h;subst h;exact aNX
  ·simp only[oSI]at h;subst h;exact aNW
  ·simp only[oSI]at h;subst h;exact aNV
  ·simp only[oSI]at h;subst h;exact aNU
  ·simp only[oSI]at h;subst h;exact aNT
  ·simp only[oSI]at h;subst h;exact aNS
  ·simp only[oSI]at h;subst h;exact aNR
  ·simp only[oSI]at h;subst h;exact aNQ
  ·simp only[oSI]at h;subst h;exact aNP
  ·simp only[oSI]at h;subst h;exact aNO
  ·simp only[oSI]at h;subst h;exact aNN
  ·simp only[oSI]at h;subst h;exact aNM
  ·simp only[oSI]at h;subst h;exact aNL
  ·simp only[oSI]at h;subst h;exact aNK
  ·simp only[oSI]at h;subst h;exact aNJ
  ·simp only[oSI]at h;subst h;exact aNI
  ·cases h
 ·unfold aA at h
  split at h
  ·simp only[oSI]at h;subst h;exact ok7
  ·simp only[oSI]at h;subst h;exact aNG
  ·simp only[oSI]at h;subst h;exact aNF
  ·simp only[oSI]at h;subst h;exact aNE
  ·simp only[oSI]at h;subst h;exact aND
  ·simp only[oSI]at h;subst h;exact aNC
  ·simp only[oSI]at h;subst h;exact aNB
  ·simp only[oSI]at h;subst h;exact aNA
  ·simp only[oSI]at h;subst h;exact aNz
  ·simp only[oSI]at h;subst h;exact aNy
  ·simp only[oSI]at h;subst h;exact aNx
  ·simp only[oSI]at h;subst h;exact aNw
  ·simp only[oSI]at h;subst h;exact aNv
  ·simp only[oSI]at h;subst h;exact aNu
  ·simp only[oSI]at h;subst h;exact aNt
  ·simp only[oSI]at h;subst h;exact aNs
  ·simp only[oSI]at h;subst h;exact aNr
  ·simp only[oSI]at h;subst h;exact aNq
  ·simp only[oSI]at h;subst h;exact aNp
  ·simp only[oSI]at h;subst h;exact aNo
  ·simp only[oSI]at h;subst h;exact aNn
  ·simp only[oSI]at h;subst h;exact aNm
  ·simp only[oSI]at h;subst h;exact aNl
  ·simp only[oSI]at h;subst h;exact aNk
  ·simp only[oSI]at h;subst h;exact aNj
  ·simp only[oSI]at h;subst h;exact aNi
  ·simp only[oSI]at h;subst h;exact aNh
  ·simp only[oSI]at h;subst h;exact aNg
  ·simp only[oSI]at h;subst h;exact aNf
  ·simp only[oSI]at h;subst h;exact aNe
  ·simp only[oSI]at h;subst h;exact aNd
  ·simp only[oSI]at h;subst h;exact aNc
  ·simp only[oSI]at h;subst h;exact aNb
  ·simp only[oSI]at h;subst h;exact aNa
  ·simp only[oSI]at h;subst h;exact aMZ
  ·simp only[oSI]at h;subst h;exact aMY
  ·simp only[oSI]at h;subst h;exact aMX
  ·simp only[oSI]at h;subst h;exact aMW
  ·simp only[oSI]at h;subst h;exact aMV
  ·simp only[oSI]at h;subst h;exact aMU
  ·simp only[oSI]at h;subst h;exact aMT
  ·simp only[oSI]at h;subst h;exact aMS
  ·simp only[oSI]at h;subst h;exact aMR
  ·simp only[oSI]at h;subst h;exact aMQ
  ·simp only[oSI]at h;subst h;exact aMP
  ·simp only[oSI]at h;subst h;exact aMO
  ·simp only[oSI]at h;subst h;exact aMN
  ·simp only[oSI]at h;subst h;exact aMM
  ·simp only[oSI]at h;subst h;exact aML
  ·simp only[oSI]at h;subst h;exact aMK
  ·simp only[oSI]at h;subst h;exact aMJ
  ·simp only[oSI]at h;subst h;exact aMI
  ·simp only[oSI]at h;subst h;exact aMH
  ·cases h
 ·unfold aA at h
  split at h
  ·simp only[oSI]at h;subst h;exact st7
  ·simp only[oSI]at h;subst h;exact aMC
  ·simp only[oSI]at h;subst h;exact aMB
  ·simp only[oSI]at h;subst h;exact aMA
  ·simp only[oSI]at h;subst h;exact aMz
  ·simp only[oSI]at h;subst h;exact aMy
  ·simp only[oSI]at h;subst h;exact aMx
  ·simp only[oSI]at h;subst h;exact aMw
  ·simp only[oSI]at h;subst h;exact aMv
  ·simp only[oSI]at h;subst h;exact aMu
  ·simp only[oSI]at h;subst h;exact aMt
  ·simp only[oSI]at h;subst h;exact aMs
  ·simp only[oSI]at h;subst h;exact aMr
  ·simp only[oSI]at h;subst h;exact aMq
  ·simp only[oSI]at h;subst h;exact aMp
  ·simp only[oSI]at h;subst h;exact aMo
  ·simp only[oSI]at h;subst h;exact aMn
  ·simp only[oSI]at h;subst h;exact aMm
  ·simp only[oSI]at h;subst h;exact aMl
  ·simp only[oSI]at h;subst h;exact aMk
  ·simp only[oSI]at h;subst h;exact aMj
  ·simp only[oSI]at h;subst h;exact aMi
  ·simp only[oSI]at h;subst h;exact aMh
  ·simp only[oSI]at h;subst h;exact aMg
  ·simp only[oSI]at h;subst h;exact aMf
  ·simp only[oSI]at h;subst h;exact aMe
  ·simp only[oSI]at h;subst h;exact aMd
  ·simp only[oSI]at h;subst h;exact aMc
  ·simp only[oSI]at h;subst h;exact aMb
  ·simp only[oSI]at h;subst h;exact aMa
  ·simp only[oSI]at h;subst h;exact aLZ
  ·simp only[oSI]at h;subst h;exact aLY
  ·simp only[oSI]at h;subst h;exact aLX
  ·simp only[oSI]at h;subst h;exact aLW
  ·simp only[oSI]at h;subst h;exact aLV
  ·simp only[oSI]at h;subst h;exact aLU
  ·simp only[oSI]at h;subst h;exact aLT
  ·simp only[oSI]at h;subst h;exact aLS
  ·simp only[oSI]at h;subst h;exact aLR
  ·simp only[oSI]at h;subst h;exact aLQ
  ·simp only[oSI]at h;subst h;exact aLP
  ·simp only[oSI]at h;subst h;exact aLO
  ·simp only[oSI]at h;subst h;exact aLN
  ·simp only[oSI]at h;subst h;exact aLM
  ·simp only[oSI]at h;subst h;exact aLL
  ·simp only[oSI]at h;subst h;exact aLK
  ·simp only[oSI]at h;subst h;exact aLJ
  ·simp only[oSI]at h;subst h;exact aLI
  ·simp only[oSI]at h;subst h;exact aLH
  ·simp only[oSI]at h;subst h;exact aLG
  ·simp only[oSI]at h;subst h;exact aLF
  ·simp only[oSI]at h;subst h;exact aLE
  ·simp only[oSI]at h;subst h;exact aLD
  ·cases h
theorem r7 {vs:List AV} {h:XH} (hl:vs.length≤213):runW aA 7 vs h=bR none x7.res x7.ownR h.length (execW aA 7 h.length none x7.body (aO (if x7.ownA then vs else eQ vs)) h):=aX rfl hl h rfl
theorem r16 {vs:List AV} {h:XH} (hl:vs.length≤168):runW aA 16 vs h=bR none x16.res x16.ownR h.length (execW aA 16 h.length none x16.body (aO (if x16.ownA then vs else eQ vs)) h):=aX rfl hl h rfl
theorem r18 {vs:List AV} {h:XH} (hl:vs.length≤18):runW aA 18 vs h=bR none x18.res x18.ownR h.length (execW aA 18 h.length none x18.body (aO (if x18.ownA then vs else eQ vs)) h):=aX rfl hl h rfl
theorem r20 {vs:List AV} {h:XH} (hl:vs.length≤26):runW aA 20 vs h=bR none x20.res x20.ownR h.length (execW aA 20 h.length none x20.body (aO (if x20.ownA then vs else eQ vs)) h):=aX rfl hl h rfl
theorem r23 {vs:List AV} {h:XH} (hl:vs.length≤83):runW aA 23 vs h=bR none x23.res x23.ownR h.length (execW aA 23 h.length none x23.body (aO (if x23.ownA then vs else eQ vs)) h):=aX rfl hl h rfl
theorem r29 {vs:List AV} {h:XH} (hl:vs.length≤50):runW aA 29 vs h=bR none x29.res x29.ownR h.length (execW aA 29 h.length none x29.body (aO (if x29.ownA then vs else eQ vs)) h):=aX rfl hl h rfl
theorem r31 {vs:List AV} {h:XH} (hl:vs.length≤57):runW aA 31 vs h=bR none x31.res x31.ownR h.length (execW aA 31 h.length none x31.body (aO (if x31.ownA then vs else eQ vs)) h):=aX rfl hl h rfl
theorem r33 {vs:List AV} {h:XH} (hl:vs.length≤82):runW aA 33 vs h=bR none x33.res x33.ownR h.length (execW aA 33 h.length none x33.body (aO (if x33.ownA then vs else eQ vs)) h):=aX rfl hl h rfl
theorem r35 {vs:List AV} {h:XH} (hl:vs.length≤75):runW aA 35 vs h=bR none x35.res x35.ownR h.length (execW aA 35 h.length none x35.body (aO (if x35.ownA then vs else eQ vs)) h):=aX rfl hl h rfl
theorem r36 {vs:List AV} {h:XH} (hl:vs.length≤135):runW aA 36 vs h=bR none x36.res x36.ownR h.length (execW aA 36 h.length none x36.body (aO (if x36.ownA then vs else eQ vs)) h):=aX rfl hl h rfl
theorem r37 {vs:List AV} {h:XH} (hl:vs.length≤17):runW aA 37 vs h=bR none x37.res x37.ownR h.length (execW aA 37 h.length none x37.body (aO (if x37.ownA then vs else eQ vs)) h):=aX rfl hl h rfl
theorem r38 {vs:List AV} {h:XH} (hl:vs.length≤23):runW aA 38 vs h=bR none x38.res x38.ownR h.length (execW aA 38 h.length none x38.body (aO (if x38.ownA then vs else eQ vs)) h):=aX rfl hl h rfl
theorem r45 {vs:List AV} {h:XH} (hl:vs.length≤15):runW aA 45 vs h=bR none x45.res x45.ownR h.length (execW aA 45 h.length none x45.body (aO (if x45.ownA then vs else eQ vs)) h):=aX rfl hl h rfl
theorem r46 {vs:List AV} {h:XH} (hl:vs.length≤21):runW aA 46 vs h=bR none x46.res x46.ownR h.length (execW aA 46 h.length none x46.body (aO (if x46.ownA then vs else eQ vs)) h):=aX rfl hl h rfl
theorem r51 {vs:List AV} {h:XH} (hl:vs.length≤8):runW aA 51 vs h=bR none x51.res x51.ownR h.length (execW aA 51 h.length none x51.body (aO (if x51.ownA then vs else eQ vs)) h):=aX rfl hl h rfl
theorem r53 {vs:List AV} {h:XH} (hl:vs.length≤26):runW aA 53 vs h=bR none x53.res x53.ownR h.length (execW aA 53 h.length none x53.body (aO (if x53.ownA then vs else eQ vs)) h):=aX rfl hl h rfl
theorem r56 {vs:List AV} {h:XH} (hl:vs.length≤77):runW aA 56 vs h=bR none x56.res x56.ownR h.length (execW aA 56 h.length none x56.body (aO (if x56.ownA then vs else eQ vs)) h):=aX rfl hl h rfl
theorem r57 {vs:List AV} {h:XH} (hl:vs.length≤15):runW aA 57 vs h=bR none x57.res x57.ownR h.length (execW aA 57 h.length none x57.body (aO (if x57.ownA then vs else eQ vs)) h):=aX rfl hl h rfl
theorem r59 {vs:List AV} {h:XH} (hl:vs.length≤24):runW aA 59 vs h=bR none x59.res x59.ownR h.length (execW aA 59 h.length none x59.body (aO (if x59.ownA then vs else eQ vs)) h):=aX rfl hl h rfl
theorem r60 {vs:List AV} {h:XH} (hl:vs.length≤10):runW aA 60 vs h=bR none x60.res x60.ownR h.length (execW aA 60 h.length none x60.body (aO (if x60.ownA then vs else eQ vs)) h):=aX rfl hl h rfl
theorem r61 {vs:List AV} {h:XH} (hl:vs.length≤36):runW aA 61 vs h=bR none x61.res x61.ownR h.length (execW aA 61 h.length none x61.body (aO (if x61.ownA then vs else eQ vs)) h):=aX rfl hl h rfl
theorem r62 {vs:List AV} {h:XH} (hl:vs.length≤5):runW aA 62 vs h=bR none x62.res x62.ownR h.length (execW aA 62 h.length none x62.body (aO (if x62.ownA then vs else eQ vs)) h):=aX rfl hl h rfl
theorem r63 {vs:List AV} {h:XH} (hl:vs.length≤6):runW aA 63 vs h=bR none x63.res x63.ownR h.length (execW aA 63 h.length none x63.body (aO (if x63.ownA then vs else eQ vs)) h):=aX rfl hl h rfl
theorem r65 {vs:List AV} {h:XH} (hl:vs.length≤27):runW aA 65 vs h=bR none x65.res x65.ownR h.length (execW aA 65 h.length none x65.body (aO (if x65.ownA then vs else eQ vs)) h):=aX rfl hl h rfl
theorem r66 {vs:List AV} {h:XH} (hl:vs.length≤19):runW aA 66 vs h=bR none x66.res x66.ownR h.length (execW aA 66 h.length none x66.body (aO (if x66.ownA then vs else eQ vs)) h):=aX rfl hl h rfl
theorem r67 {vs:List AV} {h:XH} (hl:vs.length≤5):runW aA 67 vs h=bR none x67.res x67.ownR h.length (execW aA 67 h.length none x67.body (aO (if x67.ownA then vs else eQ vs)) h):=aX rfl hl h rfl
theorem r68 {vs:List AV} {h:XH} (hl:vs.length≤19):runW aA 68 vs h=bR none x68.res x68.ownR h.length (execW aA 68 h.length none x68.body (aO (if x68.ownA then vs else eQ vs)) h):=aX rfl hl h rfl
theorem r70 {vs:List AV} {h:XH} (hl:vs.length≤9):runW aA 70 vs h=bR none x70.res x70.ownR h.length (execW aA 70 h.length none x70.body (aO (if x70.ownA then vs else eQ vs)) h):=aX rfl hl h rfl
theorem r71 {vs:List AV} {h:XH} (hl:vs.length≤10):runW aA 71 vs h=bR none x71.res x71.ownR h.length (execW aA 71 h.length none x71.body (aO (if x71.ownA then vs else eQ vs)) h):=aX rfl hl h rfl
theorem r72 {vs:List AV} {h:XH} (hl:vs.length≤65):runW aA 72 vs h=bR none x72.res x72.ownR h.length (execW aA 72 h.length none x72.body (aO (if x72.ownA then vs else eQ vs)) h):=aX rfl hl h rfl
theorem r76 {vs:List AV} {h:XH} (hl:vs.length≤21):runW aA 76 vs h=bR none x76.res x76.ownR h.length (execW aA 76 h.length none x76.body (aO (if x76.ownA then vs else eQ vs)) h):=aX rfl hl h rfl
theorem r77 {vs:List AV} {h:XH} (hl:vs.length≤98):runW aA 77 vs h=oX 19 h.length (eE (runW aA) (runYW aA) [⟨0,(some 4),(.box (.t 0)),none⟩,⟨0,(some 7),(.box (.t 3)),none⟩,⟨0,(some 19),(.load false 1 (.t 7)),none⟩] (aO (if x77.ownA then vs else eQ vs)) h) fun b e1 h1=>bR (some b) x77.res x77.ownR h.length (execW aA 77 h.length none x77.body e1 h1):=aEC rfl hl h rfl
theorem r78 {vs:List AV} {h:XH} (hl:vs.length≤20):runW aA 78 vs h=bR none x78.res x78.ownR h.length (execW aA 78 h.length none x78.body (aO (if x78.ownA then vs else eQ vs)) h):=aX rfl hl h rfl
theorem r79 {vs:List AV} {h:XH} (hl:vs.length≤5):runW aA 79 vs h=bR none x79.res x79.ownR h.length (execW aA 79 h.length none x79.body (aO (if x79.ownA then vs else eQ vs)) h):=aX rfl hl h rfl
theorem r80 {vs:List AV} {h:XH} (hl:vs.length≤4):runW aA 80 vs h=bR none x80.res x80.ownR h.length (execW aA 80 h.length none x80.body (aO (if x80.ownA then vs else eQ vs)) h):=aX rfl hl h rfl
theorem r81 {vs:List AV} {h:XH} (hl:vs.length≤8):runW aA 81 vs h=bR none x81.res x81.ownR h.length (execW aA 81 h.length none x81.body (aO (if x81.ownA then vs else eQ vs)) h):=aX rfl hl h rfl
theorem r84 {vs:List AV} {h:XH} (hl:vs.length≤30):runW aA 84 vs h=bR none x84.res x84.ownR h.length (execW aA 84 h.length none x84.body (aO (if x84.ownA then vs else eQ vs)) h):=aX rfl hl h rfl
theorem r85 {vs:List AV} {h:XH} (hl:vs.length≤13):runW aA 85 vs h=bR none x85.res x85.ownR h.length (execW aA 85 h.length none x85.body (aO (if x85.ownA then vs else eQ vs)) h):=aX rfl hl h rfl
theorem r86 {vs:List AV} {h:XH} (hl:vs.length≤15):runW aA 86 vs h=bR none x86.res x86.ownR h.length (execW aA 86 h.length none x86.body (aO (if x86.ownA then vs else eQ vs)) h):=aX rfl hl h rfl
theorem r87 {vs:List AV} {h:XH} (hl:vs.length≤8):runW aA 87 vs h=bR none x87.res x87.ownR h.length (execW aA 87 h.length none x87.body (aO (if x87.ownA then vs else eQ vs)) h):=aX rfl hl h rfl
theorem r88 {vs:List AV} {h:XH} (hl:vs.length≤66):runW aA 88 vs h=bR none x88.res x88.ownR h.length (execW aA 88 h.length none x88.body (aO (if x88.ownA then vs else eQ vs)) h):=aX rfl hl h rfl
theorem r89 {vs:List AV} {h:XH} (hl:vs.length≤126):runW aA 89 vs h=bR none x89.res x89.ownR h.length (execW aA 89 h.length none x89.body (aO (if x89.ownA then vs else eQ vs)) h):=aX rfl hl h rfl
theorem r91 {vs:List AV} {h:XH} (hl:vs.length≤14):runW aA 91 vs h=bR none x91.res x91.ownR h.length (execW aA 91 h.length none x91.body (aO (if x91.ownA then vs else eQ vs)) h):=aX rfl hl h rfl

end Go.Proofs.YtiabjdfdkiijmaaDoor
namespace Go.Proofs.YtiabjdfdkiijmaaDoor
open Go Go.DL
theorem aLw:runW aA 44 [I (0)] []=some (.agg [I (8),.fs [[I (0),I (1)],[I (0),I (2)],[I (1),I (3)],[I (2),I (3)],[I (3),I (4)],[I (3),I (5)],[I (4),I (6)],[I (5),I (6)]],.fs [[I (0),I (2),I (7)],[I (3),I (4),I (7)]],I (1),I (192),I (0)],[]):=aT.2 ⟨400,by kernel_rfl⟩
theorem aLv:runW aA 18 [.agg [I (8),.fs [[I (0),I (1)],[I (0),I (2)],[I (1),I (3)],[I (2),I (3)],[I (3),I (4)],[I (3),I (5)],[I (4),I (6)],[I (5),I (6)]],.fs [[I (0),I (2),I (7)],[I (3),I (4),I (7)]],I (1),I (192),I (0)],I (2)] []=some (.tup [.fs [[I (0)],[I (1)],[I (2)],[I (3)],[I (7)]],I (0)],[]):=aT.2 ⟨400,by kernel_rfl⟩
theorem aLs:runW aA 44 [I (9)] []=some (.agg [I (8),.fs [[I (0),I (1)],[I (0),I (2)],[I (1),I (3)],[I (2),I (3)],[I (3),I (4)],[I (3),I (5)],[I (4),I (6)],[I (5),I (6)]],.fs [[I (0),I (2),I (7)],[I (3),I (4),I (7)]],I (1),I (192),I (9)],[]):=aT.2 ⟨400,by kernel_rfl⟩
theorem aLq:runW aA 44 [I (79)] []=some (.agg [I (8),.fs [[I (0),I (1)],[I (0),I (2)],[I (1),I (3)],[I (2),I (3)],[I (3),I (4)],[I (3),I (5)],[I (4),I (6)],[I (5),I (6)]],.fs [[I (0),I (2),I (7)],[I (3),I (4),I (7)]],I (1),I (192),I (79)],[]):=aT.2 ⟨400,by kernel_rfl⟩
theorem aLo:runW aA 44 [I (15)] []=some (.agg [I (8),.fs [[I (0),I (1)],[I (0),I (2)],[I (1),I (3)],[I (2),I (3)],[I (3),I (4)],[I (3),I (5)],[I (4),I (6)],[I (5),I (6)]],.fs [[I (0),I (2),I (7)],[I (3),I (4),I (7)]],I (1),I (192),I (15)],[]):=aT.2 ⟨400,by kernel_rfl⟩
theorem aKp:runW aA 25 [.agg [I (8),.fs [[I (0),I (1)],[I (0),I (2)],[I (1),I (3)],[I (2),I (3)],[I (3),I (4)],[I (3),I (5)],[I (4),I (6)],[I (5),I (6)]],.fs [[I (0),I (2),I (7)],[I (3),I (4),I (7)]],I (1),I (192),I (0)],.sl 0 0 1 2,I (4)] [some (.blk true (.cells true [I (2),I (3)]))]=some (.tup [.fs [[I (0)],[I (1)]],I (0)],[none]):=aT.2 ⟨400,by kernel_rfl⟩
theorem aKo:runW aA 22 [.fs [[I (0)],[I (1)],[I (2)],[I (3)],[I (7)]],.sl 0 0 1 5] [some (.blk true (.cells true [I (0),I (1),I (2),I (3),I (7)]))]=some (.bool true,[some (.blk true (.cells true [I (0),I (1),I (2),I (3),I (7)]))]):=aT.2 ⟨400,by kernel_rfl⟩
theorem aKn:runW aA 22 [.fs [[I (0)],[I (1)],[I (1)],[I (2)],[I (3)],[I (3)],[I (4)],[I (1)]],.sl 0 0 1 8] [some (.blk true (.cells true [I (0),I (1),I (1),I (2),I (3),I (3),I (4),I (1)]))]=some (.bool true,[some (.blk true (.cells true [I (0),I (1),I (1),I (2),I (3),I (3),I (4),I (1)]))]):=aT.2 ⟨400,by kernel_rfl⟩
theorem aKm:runW aA 22 [.fs [[I (0)]],.sl 0 0 1 1] [some (.blk true (.cells true [I (0)]))]=some (.bool true,[some (.blk true (.cells true [I (0)]))]):=aT.2 ⟨400,by kernel_rfl⟩
theorem aKl:runW aA 22 [.fs [[I (1)],[I (2)]],.sl 0 0 1 2] [some (.blk true (.cells true [I (1),I (2)]))]=some (.bool true,[some (.blk true (.cells true [I (1),I (2)]))]):=aT.2 ⟨400,by kernel_rfl⟩
theorem aKk:runW aA 22 [.fs [[I (4)],[I (5)],[I (7)]],.sl 0 0 1 3] [some (.blk true (.cells true [I (4),I (5),I (7)]))]=some (.bool true,[some (.blk true (.cells true [I (4),I (5),I (7)]))]):=aT.2 ⟨400,by kernel_rfl⟩
theorem aKj:runW aA 22 [.fs [[I (6)],[I (7)]],.sl 0 0 1 2] [some (.blk true (.cells true [I (6),I (7)]))]=some (.bool true,[some (.blk true (.cells true [I (6),I (7)]))]):=aT.2 ⟨400,by kernel_rfl⟩
theorem aKi:runW aA 22 [.fs [[I (0)],[I (1)]],.sl 0 0 1 2] [some (.blk true (.cells true [I (0),I (1)]))]=some (.bool true,[some (.blk true (.cells true [I (0),I (1)]))]):=aT.2 ⟨400,by kernel_rfl⟩
theorem aKh:runW aA 27 [.agg [I (8),.fs [[I (0),I (1)],[I (0),I (2)],[I (1),I (3)],[I (2),I (3)],[I (3),I (4)],[I (3),I (5)],[I (4),I (6)],[I (5),I (6)]],.fs [[I (0),I (2),I (7)],[I (3),I (4),I (7)]],I (1),I (192),I (0)],.sl 0 0 1 2] [some (.blk true (.cells true [I (3),I (7)]))]=some (I (0),[none]):=aT.2 ⟨400,by kernel_rfl⟩
theorem aKg:runW aA 27 [.agg [I (8),.fs [[I (0),I (1)],[I (0),I (2)],[I (1),I (3)],[I (2),I (3)],[I (3),I (4)],[I (3),I (5)],[I (4),I (6)],[I (5),I (6)]],.fs [[I (0),I (2),I (7)],[I (3),I (4),I (7)]],I (1),I (192),I (0)],.sl 0 0 1 2] [some (.blk true (.cells true [I (3),I (4)]))]=some (I (11),[none]):=aT.2 ⟨400,by kernel_rfl⟩
theorem aKf:runW aA 35 [.agg [I (8),.fs [[I (0),I (1)],[I (0),I (2)],[I (1),I (3)],[I (2),I (3)],[I (3),I (4)],[I (3),I (5)],[I (4),I (6)],[I (5),I (6)]],.fs [[I (0),I (2),I (7)],[I (3),I (4),I (7)]],I (1),I (192),I (9)],.sl 0 0 1 2] [some (.blk false (.cells true [.sl 1 0 1 3,.sl 2 0 1 5])),some (.blk true (.cells true [I (0),I (2),I (7)])),some (.blk true (.cells true [I (0),I (1),I (3),I (4),I (7)]))]=some (I (6),[some (.blk true (.cells true [.fs [[I (0)],[I (2)],[I (7)]],.fs [[I (0)],[I (1)],[I (3)],[I (4)],[I (7)]]])),none,none]):=aT.2 ⟨400,by kernel_rfl⟩
end Go.Proofs.YtiabjdfdkiijmaaDoor
namespace Go.Proofs.YtiabjdfdkiijmaaDoor
open Go Go.DL
set_option maxRecDepth 100000
set_option maxHeartbeats 1000000
theorem ptf (p:Prop):p=True∨p=False:=by
 by_cases h:p
 ·exact .inl (eq_true h)
 ·exact .inr (eq_false h)
theorem bZ {α:Type} {l:List α} {i:Nat} (h:i<l.length):∃ x,l[i]?=some x:=⟨_,List.getElem?_eq_getElem h⟩
theorem dP {α:Type} {l:List α} {i:Nat} (h:i<l.length):((i:Int)<(l.length:Int))=True:=eq_true (by omega)
theorem fD {n i:Nat} (h:i<n) (hn:n≤9223372036854775807):IntKind.i64.wrap ((i:Int)+1)=(i:Int)+1:=aD (by omega) (by omega)
theorem fG {α:Type} {l:List α} {i:Nat} {x:α} (h:l[i]?=some x):i<l.length:=(List.getElem?_eq_some_iff.1 h).1

def cJ (f:Nat→Int):Nat→Int
 | 0=>0
 | n+1=>if cJ f n=0 then f n else cJ f n
theorem dQ (f:Nat→Int):∀ n,∃ m,m≤n∧(∀ i,i<m→f i=0)∧((m=n∧cJ f n=0)∨(m<n∧f m≠0∧cJ f n=f m))
 | 0=>⟨0,Nat.le_refl _,fun i hi=>by omega,.inl ⟨rfl,rfl⟩⟩
 | n+1=>by
   obtain⟨m,h1,h2,h3⟩:=dQ f n
   rcases h3 with ⟨rfl,h4⟩|⟨h4,h5,h6⟩
   ·by_cases hf:f m=0
    ·refine⟨m+1,Nat.le_refl _,fun i hi=>?_,.inl ⟨rfl,by rw[cJ,if_pos h4,hf]⟩⟩
     by_cases hi2:i=m
     ·rw[hi2];exact hf
     ·exact h2 i (by omega)
    ·exact⟨m,by omega,h2,.inr ⟨by omega,hf,by rw[cJ,if_pos h4]⟩⟩
   ·exact⟨m,by omega,h2,.inr ⟨by omega,h5,by rw[cJ,if_neg (by rw[h6];exact h5),h6]⟩⟩
theorem iL {f:Nat→Int}:∀ {n},cJ f n=0→∀ i,i<n→f i=0
 | 0,_,i,hi=>by omega
 | n+1,h,i,hi=>by
   rw[cJ]at h
   by_cases h0:cJ f n=0
   ·rw[if_pos h0]at h
    by_cases hin:i=n
    ·rw[hin];exact h
    ·exact iL h0 i (by omega)
   ·rw[if_neg h0]at h
    exact absurd h h0

theorem fA {res:List (Nat×Option (Bool×Nat))} {own:Bool} {k:Nat} {r:Option (DX×aH×XH)} {v:AV×XH} (h1:gB r=true) (h2:bR none res own k r=some v):∃ e h,r=some (.ret,e,h)∧bR none res own k (some (.ret,e,h))=some v:=by
 match r with
 | none=>simp[gB]at h1
 | some (.normal,e,h)=>simp[gB]at h1
 | some (.exit _,e,h)=>simp[bR]at h2
 | some (.ret,e,h)=>exact⟨e,h,rfl,h2⟩
def big (k:IntKind):Prop:=k = .u64∨k = .i64
theorem aCY:big .u64:=.inl rfl
theorem bW:big .i64:=.inr rfl
theorem kX {k:IntKind} (h:big k):k.bits=64:=by rcases h with rfl|rfl<;>rfl
theorem gH {k:IntKind} (h:big k) {a:Nat} (ha:a<2^63):k.wrap (a:Int)=(a:Int):=by
 rcases h with rfl|rfl
 ·simp[IntKind.wrap,IntKind.bits,IntKind.signed];omega
 ·simp[IntKind.wrap,IntKind.bits,IntKind.signed];omega
theorem dO {w:Nat} (a:Nat):BitVec.ofInt w (a:Int)=BitVec.ofNat w a:=by
 apply BitVec.eq_of_toNat_eq
 simp
theorem qT {k:IntKind} (h:big k) {a b:Nat} (ha:a<2^63) (hb:b<2^63):bV .and k (a:Int) (b:Int)=((a&&&b:Nat):Int):=by
 unfold bV
 dsimp only
 rw[dO,dO,kX h,BitVec.toNat_and,BitVec.toNat_ofNat,BitVec.toNat_ofNat,Nat.mod_eq_of_lt (by omega),Nat.mod_eq_of_lt (by omega)]
 exact gH h (Nat.lt_of_le_of_lt Nat.and_le_left ha)
theorem cN {k:IntKind} (h:big k) {a b:Nat} (ha:a<2^63) (hb:b<2^63):bV .or k (a:Int) (b:Int)=((a|||b:Nat):Int):=by
 unfold bV
 dsimp only
 rw[dO,dO,kX h,BitVec.toNat_or,BitVec.toNat_ofNat,BitVec.toNat_ofNat,Nat.mod_eq_of_lt (by omega),Nat.mod_eq_of_lt (by omega)]
 exact gH h (Nat.or_lt_two_pow ha hb)
def jP (a b:Nat):Nat:=a&&&(2^64-(b+1))
theorem iS (a b:Nat):jP a b≤a:=Nat.and_le_left
theorem kW {k:IntKind} (h:big k) {a b:Nat} (ha:a<2^63) (hb:b<2^63):bV .andNot k (a:Int) (b:Int)=((jP a b:Nat):Int):=by
 unfold bV
 dsimp only
 rw[dO,dO,kX h,BitVec.toNat_and,BitVec.toNat_not,BitVec.toNat_ofNat,BitVec.toNat_ofNat,Nat.mod_eq_of_lt (by omega),Nat.mod_eq_of_lt (by omega),show 2^64-1-b=2^64-(b+1) by omega]
 exact gH h (Nat.lt_of_le_of_lt (iS a b) ha)
theorem bU {a b:Nat} (hb:b<2^64) {i:Nat}:(jP a b).testBit i=(a.testBit i&&(decide (i<64) && !b.testBit i)):=by
 unfold jP
 rw[Nat.testBit_and,Nat.testBit_two_pow_sub_succ hb]
theorem pD {a n:Nat} (h:a<2^n) {i:Nat} (hi:n≤i):a.testBit i=false:=Nat.testBit_lt_two_pow (Nat.lt_of_lt_of_le h (Nat.pow_le_pow_right (by omega) hi))
theorem nG {k:IntKind} (h:big k) {i:Nat} (hi:i<63):k.wrap (1*2^min i k.bits)=((2^i:Nat):Int):=by
 rw[kX h,Nat.min_eq_left (by omega),Int.one_mul,show (2:Int)^i=((2^i:Nat):Int) by norm_cast]
 exact gH h (Nat.pow_lt_pow_right (by omega) hi)
theorem aGU {k:IntKind} (h:big k) {a i:Nat} (hi:i<64):(a:Int).fdiv (2^min i k.bits)=((a>>>i:Nat):Int):=by
 rw[kX h,Nat.min_eq_left (by omega),show (2:Int)^i=((2^i:Nat):Int) by norm_cast,Int.fdiv_eq_ediv_of_nonneg _ (Int.natCast_nonneg _),Nat.shiftRight_eq_div_pow]
 exact(Int.natCast_ediv a (2^i)).symm
theorem lS {k:IntKind} (h:big k) {a i:Nat} (ha:a<2^63) (hi:i<64):bV .and k ((a:Int).fdiv (2^min i k.bits)) 1=if a.testBit i then 1 else 0:=by
 have:a>>>i≤a:=Nat.shiftRight_le a i
 rw[aGU h hi,show (1:Int)=((1:Nat):Int) from rfl,qT h (by omega) (by omega)]
 unfold Nat.testBit
 rw[Nat.and_comm,Nat.one_and_eq_mod_two]
 by_cases hb:(a>>>i)%2=0
 ·simp[hb]
 ·have:(a>>>i)%2=1:=by omega
  simp[this]
theorem aJT {k:IntKind} (h:big k) {a i:Nat} (ha:a<2^63) (hi:i<64):(bV .and k ((a:Int).fdiv (2^min i k.bits)) 1=1)=(a.testBit i=true):=by
 rw[lS h ha hi]
 cases a.testBit i<;>simp
theorem vD {a i n:Nat} (ha:a<2^n) (hi:i<n):a|||2^i<2^n:=Nat.or_lt_two_pow ha (Nat.pow_lt_pow_right (by omega) hi)
theorem dN (a i j:Nat):(a|||2^i).testBit j=(a.testBit j||decide (i=j)):=by
 rw[Nat.testBit_or,Nat.testBit_two_pow]


def btw (a b c:Int):Bool:=decide (a≤b)&&decide (b≤c)
theorem nD {a b c:Int}:btw a b c=true↔a≤b∧b≤c:=by simp[btw]
theorem w45 (a b c:Int):runW aA 45 [I a,I b,I c] []=some (.bool (btw a b c),[]):=by
 rw[r45 (by simp)];unfold x45;dsimp only
 rcases ptf (a≤b)with h|h
 ·(sym=>(simp[Za,Zb,Zf,Zh,Zl,Zm,Zp,Zq,Zv,Zy,Z3,ZV,Yt,YV,Xq,XI,Wc,Wd,W7,WH,WL,WM,WO,WP,Vs,V6,V7,V9,VA,VB,VC,VD,VG,VH,VI,VJ,VL,VV,VX,Ua,Uc,Ue,Ui,Uv,Uz,U0,U1,UA,UB,Tl,Tm,Tn,Ts,Tz,T0,Sl,h,btw.eq_1];all_goals tactic=>exact rfl))
 ·(sym=>(simp[Za,Zb,Zf,Zh,Zl,Zm,Zp,Zs,Zv,Zy,Z3,ZW,Yt,YV,Xq,XI,Wc,Wd,W7,WH,WL,WM,WO,WP,Vs,V6,V7,V9,VA,VB,VC,VD,VG,VH,VI,VJ,VL,VV,VX,Ua,Uc,Ue,Uk,Uw,Uz,U0,U1,UA,UB,Tl,Tm,Tn,Ts,Tz,T0,Sl,h,btw.eq_1];all_goals tactic=>exact rfl))
theorem pG {a j:Nat} (ha:a<2^63) (hj:j<64):runW aA 60 [I a,I j] []=some (.bool (a.testBit j),[]):=by
 have e:=aJT bW (a:=a) (i:=j) ha hj
 have n0:((j:Int)<0)=False:=eq_false (by omega)
 rw[r60 (by simp)];unfold x60;dsimp only
 cases hb:a.testBit j
 ·rw[hb]at e
  have e:=e.trans (eq_false (by simp))
  (sym=>(simp[Za,Zb,Zf,Zh,Zl,Zm,Zv,Z3,Ym,Yp,Yq,Yx,YV,Xq,XI,Wc,Wd,W7,WH,WL,WM,WO,WP,Vs,V6,V7,V9,VA,VB,VC,VD,VG,VH,VI,VJ,VL,VV,VX,Ua,Uc,Ue,Uw,Uz,U0,U1,UA,UB,Tl,Tm,Tn,Ts,Tz,T0,Sl,n0,e];all_goals tactic=>exact rfl))
 ·rw[hb]at e
  have e:=e.trans (eq_true rfl)
  (sym=>(simp[Za,Zb,Zf,Zh,Zl,Zm,Zv,Z3,Ym,Yp,Yq,Yx,YV,Xq,XI,Wc,Wd,W7,WH,WL,WM,WO,WP,Vs,V6,V7,V9,VA,VB,VC,VD,VG,VH,VI,VJ,VL,VV,VX,Ua,Uc,Ue,Uv,Uz,U0,U1,UA,UB,Tl,Tm,Tn,Ts,Tz,T0,Sl,n0,e];all_goals tactic=>exact rfl))
theorem w62 {j:Nat} (hj:j<63):runW aA 62 [I j] []=some (I (2^j:Nat),[]):=by
 have e:=nG bW hj
 have n0:((j:Int)<0)=False:=eq_false (by omega)
 rw[r62 (by simp)];unfold x62;dsimp only
 (sym=>(simp[Za,Zb,Zf,Zh,Zl,Zm,Zv,Z3,Yo,Yx,YU,Xp,X0,Wc,W7,WH,WL,WM,WO,WP,Vs,V6,V7,V9,VA,VB,VC,VD,VG,VH,VI,VJ,VL,VV,VX,Ua,Uc,Ue,Uz,U0,U1,UA,UB,Tl,Tm,Tn,Ts,Tz,T0,Sl,n0,e];all_goals tactic=>exact rfl))
abbrev nL (l:List Int):AV:=.fs (l.map fun n=>[I n])
end Go.Proofs.YtiabjdfdkiijmaaDoor
namespace Go.Proofs.YtiabjdfdkiijmaaDoor
open Go Go.DL
set_option maxRecDepth 100000
set_option maxHeartbeats 4000000

theorem aJi:∀ a:Nat,a≠0→∃ p m,a=2^p*(2*m+1):=by
 intro a
 induction a using Nat.strongRecOn with
 | _ a ih =>
   intro h0
   by_cases h:a%2=1
   ·exact⟨0,a/2,by omega⟩
   ·obtain⟨p,m,hm⟩:=ih (a/2) (by omega) (by omega)
    refine⟨p+1,m,?_⟩
    rw[Nat.pow_succ,Nat.mul_comm (2^p) 2,Nat.mul_assoc,←hm]
    omega
theorem yP (m j:Nat):(2*m+1).testBit j=if j=0 then true else m.testBit (j-1):=by
 cases j with
 | zero=>simp[Nat.testBit]
 | succ j=>simp only[Nat.add_one_ne_zero,if_false,Nat.add_sub_cancel];rw[Nat.testBit_succ];congr 1;omega
theorem yQ (m j:Nat):(2*m).testBit j=if j=0 then false else m.testBit (j-1):=by
 cases j with
 | zero=>simp[Nat.testBit]
 | succ j=>simp only[Nat.add_one_ne_zero,if_false,Nat.add_sub_cancel];rw[Nat.testBit_succ];congr 1;omega
theorem lA (p x i:Nat):(2^p*x).testBit i=if i<p then false else x.testBit (i-p):=by
 have:=Nat.testBit_two_pow_mul_add x (b:=0) (i:=p) (Nat.two_pow_pos p) i
 rw[Nat.add_zero,Nat.zero_testBit]at this
 exact this
theorem aDN (p m:Nat):2^p*(2*m+1)&&&(2^p*(2*m+1)-1)=2^p*(2*m):=by
 have h1:2^p*(2*m+1)-1=2^p*(2*m)+(2^p-1):=by
  have:=Nat.two_pow_pos p
  rw[Nat.mul_add,Nat.mul_one];omega
 apply Nat.eq_of_testBit_eq
 intro i
 rw[Nat.testBit_and,lA,h1,Nat.testBit_two_pow_mul_add _ (by have:=Nat.two_pow_pos p;omega),lA]
 by_cases hi:i<p
 ·simp[hi]
 ·simp only[hi,if_false,yP,yQ]
  by_cases h0:i-p=0
  ·simp[h0]
  ·simp[h0]
theorem aHP (p m:Nat) (h:2^p*(2*m+1)<2^64):2^p*(2*m+1)&&&(2^64-2^p*(2*m+1))=2^p:=by
 have hp:p<64:=by
  by_cases hp:p<64
  ·exact hp
  ·have h1:2^64≤2^p:=Nat.pow_le_pow_right (by omega) (by omega)
   have h2:2^p*1≤2^p*(2*m+1):=Nat.mul_le_mul_left _ (by omega)
   omega
 have e64:(2:Nat)^64=2^p*(2*2^(63-p)):=by
  rw[←Nat.pow_succ',←Nat.pow_add];congr 1;omega
 have hm:m<2^(63-p):=by
  rw[e64]at h
  have:=Nat.lt_of_mul_lt_mul_left h
  omega
 have h1:2^64-2^p*(2*m+1)=2^p*(2*(2^(63-p)-(m+1))+1):=by
  rw[e64,←Nat.mul_sub];congr 1;omega
 rw[h1]
 apply Nat.eq_of_testBit_eq
 intro i
 rw[Nat.testBit_and,lA,lA,Nat.testBit_two_pow]
 by_cases hi:i<p
 ·simp[hi];omega
 ·simp only[hi,if_false,yP]
  by_cases h0:i-p=0
  ·have:p=i:=by omega
   simp[h0,this]
  ·have:p≠i:=by omega
   simp only[h0,if_false,Nat.testBit_two_pow_sub_succ hm]
   cases m.testBit (i-p-1)<;>simp[this]

def el (a:Nat):List Nat:=(List.range 16).filter (a.testBit ·)
def qE (a:Nat):Nat:=(el a).headD 0
theorem fB {a k:Nat}:k∈el a↔k<16∧a.testBit k=true:=by simp[el]
theorem aFV {a:Nat} (ha:a<65536) (h0:a≠0):∃ p m,p<16∧a=2^p*(2*m+1)∧el a=p::el (a&&&(a-1)):=by
 obtain⟨p,m,rfl⟩:=aJi a h0
 have hp:p<16:=by
  by_cases hp:p<16
  ·exact hp
  ·have h1:2^16≤2^p:=Nat.pow_le_pow_right (by omega) (by omega)
   have h2:2^p*1≤2^p*(2*m+1):=Nat.mul_le_mul_left _ (by omega)
   omega
 refine⟨p,m,hp,rfl,?_⟩
 rw[aDN]
 unfold el
 have hr:List.range 16=List.range p++p::List.range' (p+1) (15-p):=by
  rw[List.range_eq_range',List.range_eq_range',show (16:Nat)=p+(1+(15-p)) by omega,←List.range'_append_1,←List.range'_append_1]
  simp
 rw[hr,List.filter_append,List.filter_append,List.filter_cons,List.filter_cons]
 have f1:∀ x:Nat,(List.range p).filter (fun i=>(2^p*x).testBit i)=[]:=fun x=>by
  rw[List.filter_eq_nil_iff]
  intro i hi
  rw[List.mem_range]at hi
  rw[lA,if_pos hi];simp
 have t1:(2^p*(2*m+1)).testBit p=true:=by rw[lA,if_neg (by omega),Nat.sub_self,yP];rfl
 have t2:(2^p*(2*m)).testBit p=false:=by rw[lA,if_neg (by omega),Nat.sub_self,yQ];rfl
 rw[f1,f1]
 simp only[t1,t2,if_true,List.nil_append,Bool.false_eq_true,if_false]
 congr 1
 refine List.filter_congr fun i hi=>?_
 rw[List.mem_range'_1]at hi
 rw[lA,lA,if_neg (by omega),if_neg (by omega),yP,yQ,if_neg (by omega),if_neg (by omega)]
theorem tW {a:Nat} (ha:a<65536) (h0:a≠0):el a=qE a::el (a&&&(a-1)):=by
 obtain⟨p,m,_,_,h⟩:=aFV ha h0
 rw[qE,h];rfl
theorem aOI {a:Nat} (ha:a<65536):el a=[]↔a=0:=by
 constructor
 ·intro h
  by_cases h0:a=0
  ·exact h0
  ·rw[tW ha h0]at h;simp at h
 ·rintro rfl;rfl
theorem aFx {a:Nat} (ha:a<65536) (h0:a≠0):qE a<16∧a.testBit (qE a)=true:=by
 have:=tW ha h0
 exact fB.1 (by rw[this];simp)
theorem aIv {a:Nat} (ha:a<65536) (h0:a≠0):a&&&(2^64-a)=2^qE a:=by
 obtain⟨p,m,hp,e,h⟩:=aFV ha h0
 have hl:qE a=p:=by rw[qE,h];rfl
 rw[hl]
 conv=>lhs;rw[e]
 exact aHP p m (by rw[←e];omega)

abbrev U (a:Nat):AV:=.int .u64 (a:Int)
theorem w91 {a:Nat} (ha:a<65536) (h0:a≠0):runW aA 91 [U a] []=some (I (qE a:Nat),[]):=by
 have n0:((a:Int)=0)=False:=eq_false (by omega)
 have u1:IntKind.u64.wrap (0-(a:Int))=((2^64-a:Nat):Int):=by
  simp[IntKind.wrap,IntKind.bits,IntKind.signed];omega
 have u2:bV .and .u64 (a:Int) ((2^64-a:Nat):Int)=((2^qE a:Nat):Int):=by
  unfold bV
  dsimp only
  rw[dO,dO,kX aCY,BitVec.toNat_and,BitVec.toNat_ofNat,BitVec.toNat_ofNat,Nat.mod_eq_of_lt (by omega),Nat.mod_eq_of_lt (by omega),aIv ha h0]
  exact gH aCY (Nat.pow_lt_pow_right (by omega) (by have:=(aFx ha h0).1;omega))
 obtain⟨p,hp⟩:∃ p,qE a=p:=⟨_,rfl⟩
 have hp16:=(aFx ha h0).1
 rw[hp]at u2 hp16 ⊢
 generalize 2^64-a=na at u1 u2
 rw[r91 (by simp)];unfold x91;dsimp only
 have fin:p=0∨p=1∨p=2∨p=3∨p=4∨p=5∨p=6∨p=7∨p=8∨p=9∨p=10∨p=11∨p=12∨p=13∨p=14∨p=15:=by omega
 rcases fin with rfl|rfl|rfl|rfl|rfl|rfl|rfl|rfl|rfl|rfl|rfl|rfl|rfl|rfl|rfl|rfl
 ·have u2:bV .and .u64 (a:Int) (na:Int)=1:=u2
  have u3:IntKind.u64.wrap 285870213051353865=285870213051353865:=by decide
  have u4:(285870213051353865:Int).fdiv (2^min (Int.toNat 58) IntKind.u64.bits)=0:=by decide
  have u5:Int.toNat 0=0:=rfl
  (sym=>(simp[Za,Zb,Zf,Zh,Zl,Zm,Zv,Z3,Z6,Z7,Z9,ZG,ZZ,Ya,Yl,Ym,Yp,Yq,Yy,Y8,Y9,YP,YU,Xp,X0,Wc,W7,W9,WH,WL,WM,WO,WP,Vs,V6,V7,V9,VA,VB,VC,VD,VG,VH,VI,VJ,VL,VQ,VS,VV,VX,Ua,Uc,Ue,Ur,Uw,Uz,U0,U1,UA,UB,Ta,Tb,Td,Tl,Tm,Tn,Tp,Ts,Tz,T0,Sl,S2,n0,u1,u2,u3,u4,u5];all_goals tactic=>exact rfl))
 ·have u2:bV .and .u64 (a:Int) (na:Int)=2:=u2
  have u3:IntKind.u64.wrap 571740426102707730=571740426102707730:=by decide
  have u4:(571740426102707730:Int).fdiv (2^min (Int.toNat 58) IntKind.u64.bits)=1:=by decide
  have u5:Int.toNat 1=1:=rfl
  (sym=>(simp[Za,Zb,Zf,Zh,Zl,Zm,Zv,Z3,Z6,Z7,Z9,ZG,ZZ,Ya,Yl,Ym,Yp,Yq,Yz,YA,YB,YP,YU,Xp,X0,Wc,W7,W9,WH,WL,WM,WO,WP,Vs,V6,V7,V9,VA,VB,VC,VD,VG,VH,VI,VJ,VL,VQ,VS,VV,VX,Ua,Uc,Ue,Ur,Uw,Uz,U0,U1,UA,UB,Ta,Tb,Td,Tl,Tm,Tn,Tp,Ts,Tz,T0,Sl,S2,n0,u1,u2,u3,u4,u5];all_goals tactic=>exact rfl))
 ·have u2:bV .and .u64 (a:Int) (na:Int)=4:=u2
  have u3:IntKind.u64.wrap 1143480852205415460=1143480852205415460:=by decide
  have u4:(1143480852205415460:Int).fdiv (2^min (Int.toNat 58) IntKind.u64.bits)=3:=by decide
  have u5:Int.toNat 3=3:=rfl
  (sym=>(simp[Za,Zb,Zf,Zh,Zl,Zm,Zv,Z3,Z6,Z7,Z9,ZG,ZZ,Ya,Yl,Ym,Yp,Yq,Y0,YD,YE,YP,YU,Xp,X0,Wc,W7,W9,WH,WL,WM,WO,WP,Vs,V6,V7,V9,VA,VB,VC,VD,VG,VH,VI,VJ,VL,VQ,VS,VV,VX,Ua,Uc,Ue,Ur,Uw,Uz,U0,U1,UA,UB,Ta,Tb,Td,Tl,Tm,Tn,Tp,Ts,Tz,T0,Sl,S2,n0,u1,u2,u3,u4,u5];all_goals tactic=>exact rfl))
 ·have u2:bV .and .u64 (a:Int) (na:Int)=8:=u2
  have u3:IntKind.u64.wrap 2286961704410830920=2286961704410830920:=by decide
  have u4:(2286961704410830920:Int).fdiv (2^min (Int.toNat 58) IntKind.u64.bits)=7:=by decide
  have u5:Int.toNat 7=7:=rfl
  (sym=>(simp[Za,Zb,Zf,Zh,Zl,Zm,Zv,Z3,Z6,Z7,Z9,ZG,ZZ,Ya,Yl,Ym,Yp,Yq,Y1,YF,YK,YP,YU,Xp,X0,Wc,W7,W9,WH,WL,WM,WO,WP,Vs,V6,V7,V9,VA,VB,VC,VD,VG,VH,VI,VJ,VL,VQ,VS,VV,VX,Ua,Uc,Ue,Ur,Uw,Uz,U0,U1,UA,UB,Ta,Tb,Td,Tl,Tm,Tn,Tp,Ts,Tz,T0,Sl,S2,n0,u1,u2,u3,u4,u5];all_goals tactic=>exact rfl))
 ·have u2:bV .and .u64 (a:Int) (na:Int)=16:=u2
  have u3:IntKind.u64.wrap 4573923408821661840=4573923408821661840:=by decide
  have u4:(4573923408821661840:Int).fdiv (2^min (Int.toNat 58) IntKind.u64.bits)=15:=by decide
  have u5:Int.toNat 15=15:=rfl
  (sym=>(simp[Za,Zb,Zf,Zh,Zl,Zm,Zv,Z3,Z6,Z7,Z9,ZG,ZZ,Ya,Yl,Ym,Yp,Yq,Y2,YG,YP,YU,Xp,X0,Wc,W7,W9,WH,WL,WM,WO,WP,Vs,V6,V7,V9,VA,VB,VC,VD,VG,VH,VI,VJ,VL,VQ,VS,VV,VX,Ua,Uc,Ue,Ur,Uw,Uz,U0,U1,UA,UB,Ta,Tb,Td,Tl,Tm,Tn,Tp,Ts,Tz,T0,Sl,S2,n0,u1,u2,u3,u4,u5];all_goals tactic=>exact rfl))
 ·have u2:bV .and .u64 (a:Int) (na:Int)=32:=u2
  have u3:IntKind.u64.wrap 9147846817643323680=9147846817643323680:=by decide
  have u4:(9147846817643323680:Int).fdiv (2^min (Int.toNat 58) IntKind.u64.bits)=31:=by decide
  have u5:Int.toNat 31=31:=rfl
  (sym=>(simp[Za,Zb,Zf,Zh,Zl,Zm,Zv,Z3,Z6,Z7,Z9,ZG,ZZ,Ya,Yl,Ym,Yp,Yq,Y3,YH,YP,YU,Xp,X0,Wc,W7,W9,WH,WL,WM,WO,WP,Vs,V6,V7,V9,VA,VB,VC,VD,VG,VH,VI,VJ,VL,VQ,VS,VV,VX,Ua,Uc,Ue,Ur,Uw,Uz,U0,U1,UA,UB,Ta,Tb,Td,Tl,Tm,Tn,Tp,Ts,Tz,T0,Sl,S2,n0,u1,u2,u3,u4,u5];all_goals tactic=>exact rfl))
 ·have u2:bV .and .u64 (a:Int) (na:Int)=64:=u2
  have u3:IntKind.u64.wrap 18295693635286647360=18295693635286647360:=by decide
  have u4:(18295693635286647360:Int).fdiv (2^min (Int.toNat 58) IntKind.u64.bits)=63:=by decide
  have u5:Int.toNat 63=63:=rfl
  (sym=>(simp[Za,Zb,Zf,Zh,Zl,Zm,Zv,Z3,Z6,Z7,Z9,ZG,ZZ,Ya,Yl,Ym,Yp,Yq,Y4,YJ,YP,YU,Xp,X0,Wc,W7,W9,WH,WL,WM,WO,WP,Vs,V6,V7,V9,VA,VB,VC,VD,VG,VH,VI,VJ,VL,VQ,VS,VV,VX,Ua,Uc,Ue,Ur,Uw,Uz,U0,U1,UA,UB,Ta,Tb,Td,Tl,Tm,Tn,Tp,Ts,Tz,T0,Sl,S2,n0,u1,u2,u3,u4,u5];all_goals tactic=>exact rfl))
 ·have u2:bV .and .u64 (a:Int) (na:Int)=128:=u2
  have u3:IntKind.u64.wrap 36591387270573294720=18144643196863743104:=by decide
  have u4:(18144643196863743104:Int).fdiv (2^min (Int.toNat 58) IntKind.u64.bits)=62:=by decide
  have u5:Int.toNat 62=62:=rfl
  (sym=>(simp[Za,Zb,Zf,Zh,Zl,Zm,Zv,Z3,Z6,Z7,Z9,ZG,ZZ,Ya,Yl,Ym,Yp,Yq,Y5,YL,YP,YU,Xp,X0,Wc,W7,W9,WH,WL,WM,WO,WP,Vs,V6,V7,V9,VA,VB,VC,VD,VG,VH,VI,VJ,VL,VQ,VS,VV,VX,Ua,Uc,Ue,Ur,Uw,Uz,U0,U1,UA,UB,Ta,Tb,Td,Tl,Tm,Tn,Tp,Ts,Tz,T0,Sl,S2,n0,u1,u2,u3,u4,u5];all_goals tactic=>exact rfl))
 ·have u2:bV .and .u64 (a:Int) (na:Int)=256:=u2
  have u3:IntKind.u64.wrap 73182774541146589440=17842542320017934592:=by decide
  have u4:(17842542320017934592:Int).fdiv (2^min (Int.toNat 58) IntKind.u64.bits)=61:=by decide
  have u5:Int.toNat 61=61:=rfl
  (sym=>(simp[Za,Zb,Zf,Zh,Zl,Zm,Zv,Z3,Z6,Z7,Z9,ZG,ZZ,Ya,Yl,Ym,Yp,Yq,Y6,YM,YP,YU,Xp,X0,Wc,W7,W9,WH,WL,WM,WO,WP,Vs,V6,V7,V9,VA,VB,VC,VD,VG,VH,VI,VJ,VL,VQ,VS,VV,VX,Ua,Uc,Ue,Ur,Uw,Uz,U0,U1,UA,UB,Ta,Tb,Td,Tl,Tm,Tn,Tp,Ts,Tz,T0,Sl,S2,n0,u1,u2,u3,u4,u5];all_goals tactic=>exact rfl))
 ·have u2:bV .and .u64 (a:Int) (na:Int)=512:=u2
  have u3:IntKind.u64.wrap 146365549082293178880=17238340566326317568:=by decide
  have u4:(17238340566326317568:Int).fdiv (2^min (Int.toNat 58) IntKind.u64.bits)=59:=by decide
  have u5:Int.toNat 59=59:=rfl
  (sym=>(simp[Za,Zb,Zf,Zh,Zl,Zm,Zv,Z3,Z6,Z7,Z9,ZG,ZZ,Ya,Yl,Ym,Yp,Yq,Y7,YN,YP,YU,Xp,X0,Wc,W7,W9,WH,WL,WM,WO,WP,Vs,V6,V7,V9,VA,VB,VC,VD,VG,VH,VI,VJ,VL,VQ,VS,VV,VX,Ua,Uc,Ue,Ur,Uw,Uz,U0,U1,UA,UB,Ta,Tb,Td,Tl,Tm,Tn,Tp,Ts,Tz,T0,Sl,S2,n0,u1,u2,u3,u4,u5];all_goals tactic=>exact rfl))
 ·have u2:bV .and .u64 (a:Int) (na:Int)=1024:=u2
  have u3:IntKind.u64.wrap 292731098164586357760=16029937058943083520:=by decide
  have u4:(16029937058943083520:Int).fdiv (2^min (Int.toNat 58) IntKind.u64.bits)=55:=by decide
  have u5:Int.toNat 55=55:=rfl
  (sym=>(simp[Za,Zb,Zf,Zh,Zl,Zm,Zv,Z3,Z6,Z7,Z9,ZG,ZZ,Ya,Yl,Ym,Yp,Yq,YP,YU,Xp,X0,Wc,W7,W9,WH,WL,WM,WO,WP,Vs,V6,V7,V9,VA,VB,VC,VD,VG,VH,VI,VJ,VL,VQ,VS,VV,VX,Ua,Uc,Ue,Ur,Uw,Uz,U0,U1,UA,UB,Ta,Tb,Td,Tl,Tm,Tn,Tp,Ts,Tz,T0,Sl,Sq,S2,n0,u1,u2,u3,u4,u5];all_goals tactic=>exact rfl))
 ·have u2:bV .and .u64 (a:Int) (na:Int)=2048:=u2
  have u3:IntKind.u64.wrap 585462196329172715520=13613130044176615424:=by decide
  have u4:(13613130044176615424:Int).fdiv (2^min (Int.toNat 58) IntKind.u64.bits)=47:=by decide
  have u5:Int.toNat 47=47:=rfl
  (sym=>(simp[Za,Zb,Zf,Zh,Zl,Zm,Zv,Z3,Z6,Z7,Z9,ZG,ZZ,Ya,Yl,Ym,Yp,Yq,YP,YU,Xp,X0,Wc,W7,W9,WH,WL,WM,WO,WP,Vs,V6,V7,V9,VA,VB,VC,VD,VG,VH,VI,VJ,VL,VQ,VS,VV,VX,Ua,Uc,Ue,Ur,Uw,Uz,U0,U1,UA,UB,Ta,Tb,Td,Tl,Tm,Tn,Tp,Ts,Tz,T0,Sl,Sr,S2,n0,u1,u2,u3,u4,u5];all_goals tactic=>exact rfl))
 ·have u2:bV .and .u64 (a:Int) (na:Int)=4096:=u2
  have u3:IntKind.u64.wrap 1170924392658345431040=8779516014643679232:=by decide
  have u4:(8779516014643679232:Int).fdiv (2^min (Int.toNat 58) IntKind.u64.bits)=30:=by decide
  have u5:Int.toNat 30=30:=rfl
  (sym=>(simp[Za,Zb,Zf,Zh,Zl,Zm,Zv,Z3,Z6,Z7,Z9,ZG,ZZ,Ya,Yl,Ym,Yp,Yq,YP,YU,Xp,X0,Wc,W7,W9,WH,WL,WM,WO,WP,Vs,V6,V7,V9,VA,VB,VC,VD,VG,VH,VI,VJ,VL,VQ,VS,VV,VX,Ua,Uc,Ue,Ur,Uw,Uz,U0,U1,UA,UB,Ta,Tb,Td,Tl,Tm,Tn,Tp,Ts,Tz,T0,Sl,Ss,S2,n0,u1,u2,u3,u4,u5];all_goals tactic=>exact rfl))
 ·have u2:bV .and .u64 (a:Int) (na:Int)=8192:=u2
  have u3:IntKind.u64.wrap 2341848785316690862080=17559032029287358464:=by decide
  have u4:(17559032029287358464:Int).fdiv (2^min (Int.toNat 58) IntKind.u64.bits)=60:=by decide
  have u5:Int.toNat 60=60:=rfl
  (sym=>(simp[Za,Zb,Zf,Zh,Zl,Zm,Zv,Z3,Z6,Z7,Z9,ZG,ZZ,Ya,Yl,Ym,Yp,Yq,YP,YU,Xp,X0,Wc,W7,W9,WH,WL,WM,WO,WP,Vs,V6,V7,V9,VA,VB,VC,VD,VG,VH,VI,VJ,VL,VQ,VS,VV,VX,Ua,Uc,Ue,Ur,Uw,Uz,U0,U1,UA,UB,Ta,Tb,Td,Tl,Tm,Tn,Tp,Ts,Tz,T0,Sl,Su,S2,n0,u1,u2,u3,u4,u5];all_goals tactic=>exact rfl))
 ·have u2:bV .and .u64 (a:Int) (na:Int)=16384:=u2
  have u3:IntKind.u64.wrap 4683697570633381724160=16671319984865165312:=by decide
  have u4:(16671319984865165312:Int).fdiv (2^min (Int.toNat 58) IntKind.u64.bits)=57:=by decide
  have u5:Int.toNat 57=57:=rfl
  (sym=>(simp[Za,Zb,Zf,Zh,Zl,Zm,Zv,Z3,Z6,Z7,Z9,ZG,ZZ,Ya,Yl,Ym,Yp,Yq,YP,YU,Xp,X0,Wc,W7,W9,WH,WL,WM,WO,WP,Vs,V6,V7,V9,VA,VB,VC,VD,VG,VH,VI,VJ,VL,VQ,VS,VV,VX,Ua,Uc,Ue,Ur,Uw,Uz,U0,U1,UA,UB,Ta,Tb,Td,Tl,Tm,Tn,Tp,Ts,Tz,T0,Sl,Sv,S2,n0,u1,u2,u3,u4,u5];all_goals tactic=>exact rfl))
 ·have u2:bV .and .u64 (a:Int) (na:Int)=32768:=u2
  have u3:IntKind.u64.wrap 9367395141266763448320=14895895896020779008:=by decide
  have u4:(14895895896020779008:Int).fdiv (2^min (Int.toNat 58) IntKind.u64.bits)=51:=by decide
  have u5:Int.toNat 51=51:=rfl
  (sym=>(simp[Za,Zb,Zf,Zh,Zl,Zm,Zv,Z3,Z6,Z7,Z9,ZG,ZZ,Ya,Yl,Ym,Yp,Yq,YP,YU,Xp,X0,Wc,W7,W9,WH,WL,WM,WO,WP,Vs,V6,V7,V9,VA,VB,VC,VD,VG,VH,VI,VJ,VL,VQ,VS,VV,VX,Ua,Uc,Ue,Ur,Uw,Uz,U0,U1,UA,UB,Ta,Tb,Td,Tl,Tm,Tn,Tp,Ts,Tz,T0,Sl,Sw,S2,n0,u1,u2,u3,u4,u5];all_goals tactic=>exact rfl))
theorem w87 {a:Nat} (ha:a<65536) (h0:a≠0):runW aA 87 [U a] []=some (I (qE a:Nat),[]):=by
 have e:=w91 ha h0
 rw[r87 (by simp)];unfold x87;dsimp only
 (sym=>(simp[Za,Zb,Zf,Zh,Zl,Zv,ZO,ZP,ZT,ZU,YU,Xp,X0,Wc,W6,W7,WH,WK,WL,WM,WO,WP,WR,WS,Vf,Vg,Vh,Vs,V6,V7,V9,VA,VB,VC,VD,VG,VH,VI,VJ,VL,VQ,VS,VV,VW,VX,VZ,Ua,Uc,Ue,Uz,U0,U1,U2,U3,UA,UB,Tm,Tn,Tp,Ts,Tz,T0,Sl,e];all_goals tactic=>exact rfl))
def sB (a:Nat):Nat→Nat
 | 0=>a
 | i+1=>sB a i&&&(sB a i-1)
theorem sA {a:Nat} (ha:a<65536):∀ i,sB a i<65536
 | 0=>ha
 | i+1=>by rw[sB];exact Nat.lt_of_le_of_lt Nat.and_le_left (sA ha i)
theorem aBX {a:Nat} (ha:a<65536):∀ i,el (sB a i)=(el a).drop i
 | 0=>rfl
 | i+1=>by
   have ih:=aBX ha i
   rw[sB]
   by_cases h0:sB a i=0
   ·rw[h0]at ih ⊢
    have e0:el 0=[]:=rfl
    rw[show (0&&&(0-1))=0 from rfl,e0]
    rw[e0]at ih
    have:=congrArg List.length ih
    rw[List.length_nil,List.length_drop]at this
    exact(List.drop_eq_nil_of_le (by omega)).symm
   ·rw[tW (sA ha i) h0]at ih
    rw[←List.drop_drop,←ih]
    rfl
theorem aGb {a:Nat} (ha:a<65536) {i:Nat} (hi:i<(el a).length):sB a i≠0∧(el a)[i]?=some (qE (sB a i)):=by
 have h:=aBX ha i
 have h0:sB a i≠0:=fun hc=>by
  rw[hc,show el 0=[] from rfl]at h
  have:=congrArg List.length h
  rw[List.length_nil,List.length_drop]at this
  omega
 refine⟨h0,?_⟩
 rw[tW (sA ha i) h0]at h
 have:=congrArg (fun l=>l[0]?) h
 simpa using this.symm
theorem aCU {a:Nat} (ha:a<65536):sB a (el a).length=0:=by
 have h:=aBX ha (el a).length
 rw[List.drop_length]at h
 exact(aOI (sA ha _)).1 h
abbrev cI (a:Nat):Option XB:=some (.blk true (.cells true [I a]))
structure aDU (n:Nat) (H:XH):Prop where
 hat:∀ a,hat (H++[cI a]) n=cI a
 set:∀ a b,(H++[cI a]).set n (cI b)=H++[cI b]
 len:∀ a,(H++[cI a]).length=n+1
 head:∀ (a:Nat) (e:aH),e 0 = .fn (.yield 0) [] []→e 1 = .pt n 0→aV (n+1) [0,1] (some (.normal,e,H++[cI a]))=some ([.fn (.yield 0) [] [],.pt n 0],H++[cI a])
 fin:∀ a,iA false (n+1) (.tup []) (H++[cI a])=(.tup [],H++[cI a])
def Yd (H H':XH) (v:Nat) (b:Bool):Prop:=∀ a:Nat,eA (runW aA) (runYW aA) (.fn (.yield 0) [] []) [I v] (H++[cI a])=some (.bool b,H'++[cI a])
theorem aGZ {n:Nat} {H H':XH} (g:aDU n H) (g':aDU n H') {a:Nat} (ha:a<65536) (h0:a≠0) (hy:Yd H H' (qE a) true) :
 aV (n+1) [0,1] (execW aA 86 (n+1) none (match uD with | .loop _ a=>a|c=>c) (aU [0,1] [.fn (.yield 0) [] [],.pt n 0]) (H++[cI a]))=some ([.fn (.yield 0) [] [],.pt n 0],H'++[cI (a&&&(a-1))]):=by
 have h1:=g.hat a
 have h2:=g'.hat a
 have h3:=g'.set a
 have h4:=hy a
 have t:=w87 ha h0
 have n0:((a:Int)=0)=False:=eq_false (by omega)
 have u1:IntKind.i64.wrap ((a:Int)-1)=((a-1:Nat):Int):=by
  rw[show (a:Int)-1=((a-1:Nat):Int) by omega];exact gH bW (by omega)
 have u2:=qT bW (a:=a) (b:=a-1) (by omega) (by omega)
 have u3:=gH aCY (a:=a) (by omega)
 have hd:=g'.head (a&&&(a-1))
 unfold uD
 dsimp only
 sym =>
  simp[Za,Zb,Zc,Zf,Zh,Zl,Zm,Zv,Z3,Z5,Z7,ZG,ZK,ZL,ZO,ZP,ZT,ZU,ZY,Ya,Yk,Ym,Yr,YU,Xg,Xp,Wo,Wy,Wz,W3,W5,W6,W9,WH,WK,WM,WR,WS,Vf,Vg,Vh,VN,VQ,VR,VS,VW,VX,VZ,Ua,Ud,Ue,Uj,Um,Un,Ur,Uw,Uz,U0,U1,U2,U3,U4,U5,UC,UY,UZ,Td,Te,Tf,Tl,Tm,Tp,Tr,Ts,Tv,Tz,T0,TA,h1,h2,t,h4,n0,u1,u2,u3,h3]
  tactic=>exact hd _ rfl rfl
theorem qL {n:Nat} {G:Nat→XH} {a:Nat} (ha:a<65536) (g:∀ i,i≤(el a).length→aDU n (G i)) (hy:∀ i v,(el a)[i]?=some v→Yd (G i) (G (i+1)) v true) :
 runW aA 86 [.fn (.yield 0) [] [],.pt n 0] (G 0++[cI a])=some (.tup [],G (el a).length++[cI 0]):=by
 have l0:=(g 0 (by omega)).len a
 have g1:=g (el a).length (by omega)
 have h1:hat (G (el a).length++[some (.blk true (.cells true [.int .i64 0]))]) n=some (.blk true (.cells true [.int .i64 0])):=g1.hat 0
 have hf:iA false (n+1) (.tup []) (G (el a).length++[some (.blk true (.cells true [.int .i64 0]))])=(.tup [],G (el a).length++[some (.blk true (.cells true [.int .i64 0]))]):=g1.fin 0
 have c0:=aCU ha
 rw[r86 (by simp)];unfold x86;dsimp only
 rw[l0]
 unfold uD
 sym =>
  simp[Y9,Wi,Wn,VV,UA,UB,Tr]
  tactic =>
   rw[aF (el a).length (fun _=>[.fn (.yield 0) [] [],.pt n 0]) (fun i=>G i++[cI (sB a i)])]
   ·rw[c0]
    (sym=>(simp[Za,Zb,Zf,Zh,Zl,Zm,Z3,ZG,Yr,Y9,Wy,Wz,W9,V5,V7,VC,VE,VG,VN,VQ,VS,Um,Uv,UY,UZ,Td,Tl,Tm,Tq,Ts,Tt,Tx,Tz,T0,h1,hf];all_goals tactic=>exact rfl))
   ·exact(g 0 (by omega)).head a _ rfl rfl
   ·intro i hi
    obtain⟨p1,p2⟩:=aGb ha hi
    exact aGZ (g i (by omega)) (g (i+1) (by omega)) (sA ha i) p1 (hy i _ p2)
   ·rw[c0]
    (sym=>(simp[Za,Zb,Zf,Zh,Zl,Zm,Z3,ZG,Yr,Y9,Wy,Wz,W9,VN,VQ,VS,VT,Um,Uv,UY,UZ,Td,Tl,Tm,Tq,Ts,Tt,Tz,T0,h1];all_goals tactic=>exact rfl))
structure yL (n:Nat) (M K:Nat→XH):Prop where
 hat:∀ a,hat (M a) n=cI a
 set:∀ a b,(M a).set n (cI b)=M b
 head:∀ (a:Nat) (e:aH),e 0 = .fn (.yield 0) [] []→e 1 = .pt n 0→aV (n+1) [0,1] (some (.normal,e,M a))=some ([.fn (.yield 0) [] [],.pt n 0],K a)
def YdF (K K':Nat→XH) (v:Nat) (b:Bool):Prop:=∀ a:Nat,eA (runW aA) (runYW aA) (.fn (.yield 0) [] []) [I v] (K a)=some (.bool b,K' a)
theorem aIV {n:Nat} {K M K':Nat→XH} {a:Nat} (h1:hat (K a) n=cI a) (g':yL n M K') (ha:a<65536) (h0:a≠0) (hy:YdF K M (qE a) true) :
 aV (n+1) [0,1] (execW aA 86 (n+1) none (match uD with | .loop _ a=>a|c=>c) (aU [0,1] [.fn (.yield 0) [] [],.pt n 0]) (K a))=some ([.fn (.yield 0) [] [],.pt n 0],K' (a&&&(a-1))):=by
 have h2:=g'.hat a
 have h3:=g'.set a
 have h4:=hy a
 have t:=w87 ha h0
 have n0:((a:Int)=0)=False:=eq_false (by omega)
 have u1:IntKind.i64.wrap ((a:Int)-1)=((a-1:Nat):Int):=by
  rw[show (a:Int)-1=((a-1:Nat):Int) by omega];exact gH bW (by omega)
 have u2:=qT bW (a:=a) (b:=a-1) (by omega) (by omega)
 have u3:=gH aCY (a:=a) (by omega)
 have hd:=g'.head (a&&&(a-1))
 unfold uD
 dsimp only
 sym =>
  simp[Za,Zb,Zc,Zf,Zh,Zl,Zm,Zv,Z3,Z5,Z7,ZG,ZK,ZL,ZO,ZP,ZT,ZU,ZY,Ya,Yk,Ym,Yr,YU,Xg,Xp,Wo,Wy,Wz,W3,W5,W6,W9,WH,WK,WM,WR,WS,Vf,Vg,Vh,VN,VQ,VR,VS,VW,VX,VZ,Ua,Ud,Ue,Uj,Um,Un,Ur,Uw,Uz,U0,U1,U2,U3,U4,U5,UC,UY,UZ,Td,Te,Tf,Tl,Tm,Tp,Tr,Ts,Tv,Tz,T0,h1,h2,t,h4,n0,u1,u2,u3,h3]
  tactic=>exact hd _ rfl rfl
theorem aLa {n:Nat} {G:Nat→Nat→XH} {a:Nat} {X:XH} (ha:a<65536) (l0:(G 0 a).length=n+1) (g0:yL n (G 0) (G 0)) (gh:∀ i,i≤(el a).length→∀ a,hat (G i a) n=cI a) (hf:iA false (n+1) (.tup []) (G (el a).length 0)=(.tup [],X)) (hy:∀ i v,(el a)[i]?=some v→∃ M,YdF (G i) M v true∧yL n M (G (i+1))) :
 runW aA 86 [.fn (.yield 0) [] [],.pt n 0] (G 0 a)=some (.tup [],X):=by
 have h1:=gh (el a).length (by omega) 0
 have h1:hat (G (el a).length 0) n=some (.blk true (.cells true [.int .i64 0])):=h1
 have c0:=aCU ha
 rw[r86 (by simp)];unfold x86;dsimp only
 rw[l0]
 unfold uD
 sym =>
  simp[Wi,Wn,VV,UA,UB,Tr]
  tactic =>
   rw[aF (el a).length (fun _=>[.fn (.yield 0) [] [],.pt n 0]) (fun i=>G i (sB a i))]
   ·rw[c0]
    (sym=>(simp[Za,Zb,Zf,Zh,Zl,Zm,Z3,ZG,Yr,Wy,Wz,W9,V5,V7,VC,VE,VG,VN,VQ,VS,Um,Uv,UY,UZ,Td,Tl,Tm,Tq,Ts,Tt,Tx,Tz,T0,h1,hf];all_goals tactic=>exact rfl))
   ·exact g0.head a _ rfl rfl
   ·intro i hi
    obtain⟨p1,p2⟩:=aGb ha hi
    obtain⟨M,m1,m2⟩:=hy i _ p2
    exact aIV (gh i (by omega) _) m2 (sA ha i) p1 m1
   ·rw[c0]
    (sym=>(simp[Za,Zb,Zf,Zh,Zl,Zm,Z3,ZG,Yr,Wy,Wz,W9,VN,VQ,VS,VT,Um,Uv,UY,UZ,Td,Tl,Tm,Tq,Ts,Tt,Tz,T0,h1];all_goals tactic=>exact rfl))
def dB (ks:List Nat):List Int:=ks.map fun k:Nat=>(k:Int)
theorem rZ (a:Nat):(el a).length≤16:=by
 have:=List.length_filter_le (fun i=>a.testBit i) (List.range 16)
 simpa [el]using this
theorem hJ {ks:List Nat} {i v:Nat} (h:ks[i]?=some v):(dB ks)[i]?=some (v:Int):=by
 unfold dB
 rw[List.getElem?_map,h];rfl
theorem cA (ks:List Nat):(dB ks).length=ks.length:=by simp[dB]
abbrev gCn (a:Nat):XH:=[some (.loop 85 0 [.pt 1 0] .ready),some (.blk true (.cells true [.nilsl])),cI a]
abbrev gCc (x:Int) (r:List Int) (a:Nat):XH:=[some (.loop 85 0 [.pt 1 0] .ready),some (.blk false (.cells true [.sl 3 0 1 (r.length+1)])),cI a,some (.blk true (.cells true (I x::r.map I)))]
abbrev gCm (x:Int) (r:List Int) (a:Nat):XH:=[some (.loop 85 0 [.pt 1 0] .ready),some (.blk false (.cells true [.sl 4 0 1 (r.length+1)])),cI a,none,some (.blk true (.cells true (I x::r.map I)))]
def gC:List Int→Nat→XH
 | []=>gCn
 | x::r=>gCc x r
theorem aJt:yL 2 gCn gCn:=by
 refine⟨fun _=>rfl,fun _ _=>rfl,?_⟩
 intro a e h0 h1
 (sym=>(simp[Xb,Xf,Xv,Xz,WA,WF,WH,WJ,WL,WM,WN,WO,WP,WV,WW,WY,Vb,Vc,Ve,VO,VP,VW,VX,VY,VZ,Ua,Ub,Uc,Uu,Uz,U0,U1,U2,U3,Ty,h0,h1];all_goals tactic=>exact rfl))
theorem aJv (x:Int) (r:List Int):yL 2 (gCc x r) (gCc x r):=by
 refine⟨fun _=>rfl,fun _ _=>rfl,?_⟩
 intro a e h0 h1
 (sym=>(simp[Xa,Xb,Xf,Xu,Xv,Xz,Wx,WA,WE,WF,WH,WI,WJ,WL,WN,WO,WP,WQ,WV,WW,WX,WY,Vb,Vc,Vd,Ve,VO,VP,VW,VX,VY,VZ,Ua,Ub,Uc,Uh,Uu,U0,U1,U2,U3,Ty,h0,h1];all_goals tactic=>exact rfl))
theorem aJu (x:Int) (r:List Int):yL 2 (gCm x r) (gCc x r):=by
 refine⟨fun _=>rfl,fun _ _=>rfl,?_⟩
 intro a e h0 h1
 (sym=>(simp[Xa,Xb,Xf,Xu,Xv,Xz,Wx,WA,WE,WF,WH,WI,WJ,WL,WN,WO,WP,WQ,WV,WW,WX,WY,Vb,Vc,Vd,Ve,VO,VP,VW,VX,VY,VZ,Ua,Ub,Uc,Uh,Uu,U0,U1,U2,U3,Ty,h0,h1];all_goals tactic=>exact rfl))
theorem yCn (v:Nat):YdF gCn (gCc (v:Int) []) v true:=by
 have y:runYW aA (.fn (.yield 0) [] []) [I (v:Nat)] [some (.loop 85 0 [.pt 1 0] .ready),some (.blk true (.cells true [.nilsl]))]=some (.bool true,[some (.loop 85 0 [.pt 1 0] .ready),some (.blk false (.cells true [.sl 2 0 1 1])),some (.blk true (.cells true [I (v:Nat)]))]):=by
  rw[iI (K:=85) (d:=x85) (site:=0) (vs:=[.pt 1 0]) rfl rfl (by rfl) rfl]
  (sym=>(simp[Za,Zb,Zc,Zd,Ze,Zf,Zg,Zh,Zj,Zl,Zm,Zo,Zv,Z1,ZG,ZK,ZL,ZS,YV,Xa,Xb,Xg,Xk,Xq,Xu,Xv,X0,Wc,Wo,Ws,Wx,Wy,Wz,W0,W3,W4,W5,W6,W9,WA,WE,WF,WH,WI,WJ,WL,WN,WO,WP,WQ,WV,WW,WX,WY,Vb,Vc,Vd,Ve,Vs,Vu,Vv,Vw,V8,VB,VN,VW,VX,VY,VZ,Ua,Ub,Uc,Ud,Ue,Uh,Uj,Ul,Ur,Uu,Ux,Uy,U0,U1,U2,U3,U4,U5,UC,UD,UE,UF,UJ,UK,UN,UO,UP,UQ,UR,US,UT,UU,UY,UZ,Td,Te,Tf,Tg,Ti,Tj,Tk,Tr,Tv,Tz,TI,TR,TS,TT,TU,Sc,Sd,Se,Sf,Sl,S4,S5,S7,S8,S9,SA];all_goals tactic=>exact rfl))
 intro a
 (sym=>(simp[YU,Xb,Xf,Xp,Xq,Xu,Xv,Xz,Wx,W0,W5,W9,WA,WB,WC,WE,WG,WH,WI,WJ,WK,WN,WR,WS,WT,WV,WW,WX,WY,Vc,Ve,Vf,Vg,Vh,Vi,VW,VX,VY,VZ,Ua,Ud,Ue,Uh,Uu,U0,U1,U2,U3,Sb,y];all_goals tactic=>exact rfl))
theorem yCc (v:Nat) (x:Int) (r:List Int) (hr:r.length≤20):YdF (gCc x r) (gCm x (r++[(v:Int)])) v true:=by
 have b1:((r.length+1+1)*8≤1099511627776)=True:=eq_true (by omega)
 have b2:(r.length+1+1≤1099511627776)=True:=eq_true (by omega)
 have y:runYW aA (.fn (.yield 0) [] []) [I (v:Nat)] [some (.loop 85 0 [.pt 1 0] .ready),some (.blk false (.cells true [.sl 2 0 1 (r.length+1)])),some (.blk true (.cells true (I x::r.map I)))]=some (.bool true,[some (.loop 85 0 [.pt 1 0] .ready),some (.blk false (.cells true [.sl 3 0 1 (r.length+1+1)])),none,some (.blk true (.cells true (I x::(r.map I++[I (v:Nat)]))))]):=by
  rw[iI (K:=85) (d:=x85) (site:=0) (vs:=[.pt 1 0]) rfl rfl (by rfl) rfl]
  (sym=>(simp[Za,Zb,Zc,Zd,Ze,Zf,Zg,Zh,Zj,Zl,Zm,Zo,Zv,Z1,ZG,ZK,ZL,ZS,YV,Xa,Xb,Xg,Xk,Xq,Xu,Xv,X0,Wc,Wo,Ws,Wx,Wy,Wz,W0,W3,W4,W5,W6,W9,WA,WE,WF,WH,WI,WJ,WL,WN,WO,WP,WQ,WU,WV,WW,WX,WY,WZ,Vb,Vc,Vd,Ve,Vs,Vu,Vv,Vw,V8,VB,VN,VW,VX,VY,VZ,Ua,Ub,Uc,Ud,Ue,Uf,Uh,Uj,Ul,Ur,Uu,Ux,Uy,U0,U1,U2,U3,U4,U5,UC,UD,UE,UF,UJ,UK,UN,UO,UP,UQ,UR,US,UT,UV,UW,UY,UZ,Td,Te,Tf,Tg,Th,Ti,Tj,Tr,Tv,Tz,TB,TI,TR,TS,TT,TU,Sc,Sd,Se,Sf,Sl,S4,S5,S7,S8,S9,SA,b1,b2];all_goals tactic=>exact rfl))
 intro a
 (sym=>(simp[YU,Xa,Xb,Xf,Xp,Xq,Xu,Xv,Xz,Wx,W0,W5,W9,WA,WB,WC,WE,WG,WH,WI,WJ,WK,WN,WR,WS,WT,WU,WV,WW,WX,WY,Vc,Vd,Ve,Vf,Vg,Vh,Vi,VW,VX,VY,VZ,Ua,Ud,Ue,Uh,Uu,U0,U1,U2,U3,T9,TA,Sb,y];all_goals tactic=>exact rfl))
theorem aJx (os:List Int):iA false 3 (.tup []) (gC os 0)=(.tup [],gC os 0):=by
 cases os with
 | nil=>unfold gC; (sym=>(simp[Za,Y9,YY,Xb,Xs,Xv,XK,Wf,WA,WF,WH,WJ,WL,WM,WN,WO,WP,WV,WW,WY,Vb,Vc,Ve,Vs,V9,VA,VB,VW,VX,VZ,Ua,Ub,Uc,Uu,Uz,U0,U1,U2,U3,U6,UA,Sl];all_goals tactic=>exact rfl))
 | cons x r=>unfold gC; (sym=>(simp[Za,Y9,YY,Xa,Xb,Xs,Xu,Xv,XK,Wf,Wx,WA,WE,WF,WH,WI,WJ,WL,WN,WO,WP,WQ,WV,WW,WX,WY,Vb,Vc,Vd,Ve,Vs,V9,VA,VB,VW,VX,VY,VZ,Ua,Ub,Uc,Uh,Uu,U0,U1,U2,U3,U6,UA,Sl];all_goals tactic=>exact rfl))
theorem w85 {a:Nat} (ha:a<65536):runW aA 85 [.nilsl,.fn (.func 86) [] [.pt 0 0]] [cI a]=some (nL (dB (el a)),[some (.blk true (.cells true [.int .i64 0]))]):=by
 have e:=aLa (n:=2) (G:=fun i=>gC (dB ((el a).take i))) (X:=gC (dB (el a)) 0) ha rfl aJt
  (by intro i _ c;cases dB ((el a).take i)<;>rfl)
  (by
   show iA false 3 (.tup []) (gC (dB ((el a).take (el a).length)) 0)=_
   rw[List.take_length]
   exact aJx _)
  (by
   intro i v hv
   have e1:dB ((el a).take (i+1))=dB ((el a).take i)++[(v:Int)]:=by
    rw[List.take_add_one,hv]
    simp[dB]
   have hl:=cA ((el a).take i)
   have hl2:=rZ a
   rw[List.length_take]at hl
   rw[e1]
   generalize dB ((el a).take i)=os at *
   rcases os with _|⟨x,r⟩
   ·exact⟨_,yCn v,aJv _ _⟩
   ·exact⟨_,yCc v x r (by simp at hl;omega),aJu _ _⟩)
 have e:runW aA 86 [.fn (.yield 0) [] [],.pt 2 0] [some (.loop 85 0 [.pt 1 0] .ready),some (.blk true (.cells true [.nilsl])),cI a]=some (.tup [],gC (dB (el a)) 0):=e
 generalize dB (el a)=os at *
 rw[r85 (by simp)];unfold x85;dsimp only
 rcases os with _|⟨x,r⟩
 ·have e:runW aA 86 [.fn (.yield 0) [] [],.pt 2 0] [some (.loop 85 0 [.pt 1 0] .ready),some (.blk true (.cells true [.nilsl])),cI a]=some (.tup [],[some (.loop 85 0 [.pt 1 0] .ready),some (.blk true (.cells true [.nilsl])),some (.blk true (.cells true [.int .i64 0]))]):=e
  (sym=>(simp[Za,Zb,Zf,Zh,Zl,Zm,Zo,Zv,Zz,ZG,ZT,ZU,YZ,Xb,Xf,Xm,Xs,Xt,Xv,Xz,XO,Wj,Wu,Wx,Wy,Wz,W0,W5,W6,W7,W9,WA,WB,WC,WE,WG,WH,WI,WJ,WK,WL,WM,WN,WO,WP,WR,WS,WT,WV,WW,WY,Vb,Vc,Ve,Vf,Vg,Vh,Vi,Vs,V6,V7,V9,VA,VB,VC,VD,VG,VH,VI,VJ,VL,VW,VX,VY,VZ,Ua,Ub,Uc,Ud,Ue,Uh,Uj,Uu,Uz,U0,U1,U2,U3,UL,UM,UY,UZ,Td,Tg,Tm,Tn,Tr,Ts,Tv,Tz,T0,TR,TS,TV,TW,TX,TY,TZ,Sa,Sl,e];all_goals tactic=>exact rfl))
 ·have e:runW aA 86 [.fn (.yield 0) [] [],.pt 2 0] [some (.loop 85 0 [.pt 1 0] .ready),some (.blk true (.cells true [.nilsl])),cI a]=some (.tup [],[some (.loop 85 0 [.pt 1 0] .ready),some (.blk false (.cells true [.sl 3 0 1 (r.length+1)])),some (.blk true (.cells true [.int .i64 0])),some (.blk true (.cells true (I x::r.map I)))]):=e
  (sym=>(simp[Za,Zb,Zf,Zh,Zl,Zm,Zo,Zv,Zz,ZG,ZT,ZU,YZ,Xb,Xf,Xj,Xm,Xs,Xt,Xu,Xv,Xz,XM,XZ,Wg,Wu,Wx,Wy,Wz,W0,W5,W7,W9,WA,WB,WC,WE,WG,WH,WI,WJ,WK,WL,WN,WO,WP,WR,WS,WT,WV,WW,WX,WY,Vb,Vc,Ve,Vf,Vg,Vh,Vi,Vp,Vq,Vr,Vs,Vt,V1,V2,V3,V4,V6,V7,V9,VA,VB,VC,VD,VG,VH,VI,VJ,VL,VW,VX,VY,VZ,Ua,Ub,Uc,Ud,Ue,Uf,Uh,Uj,Ur,Uu,U0,U1,U2,U3,U4,U5,U8,U9,UL,UM,UY,UZ,Td,Tg,Tm,Tn,Tr,Ts,Tv,Tz,T0,TB,TC,TE,TP,TR,TS,TV,TW,TX,TY,TZ,Sa,Sl,Sm,Sn,e];all_goals tactic=>exact rfl))
theorem w79 {a:Nat} (ha:a<65536):runW aA 79 [.fn (.func 86) [] [.pt 0 0]] [cI a]=some (nL (dB (el a)),[some (.blk true (.cells true [.int .i64 0]))]):=by
 have e:=w85 ha
 generalize dB (el a)=os at *
 rw[r79 (by simp)];unfold x79;dsimp only
 (sym=>(simp[Za,Zb,Zf,Zh,Zl,Zv,ZO,ZP,ZT,ZU,YZ,Xb,Xc,Xe,Xt,Xv,Xw,Xy,XL,Wg,Wm,Wx,W0,W5,W6,W7,WA,WC,WE,WH,WI,WJ,WK,WL,WM,WN,WO,WP,WR,WS,WT,WV,WW,Vb,Vc,Vf,Vg,Vh,Vi,Vs,V6,V7,V9,VA,VB,VC,VD,VG,VH,VI,VJ,VL,VV,VW,VX,VZ,Ua,Ub,Uc,Ud,Ue,Uu,Uz,U0,U1,U2,U3,UA,UB,Tm,Tn,Ts,Tz,T0,Sl,e];all_goals tactic=>exact rfl))
theorem w80 {a:Nat}:runW aA 80 [I a] []=some (.fn (.func 86) [] [.pt 0 0],[cI a]):=by
 rw[r80 (by simp)];unfold x80;dsimp only
 (sym=>(simp[Za,Zb,Zf,Zh,Zl,Zo,Zv,Zx,Zz,Xb,Xe,Xg,Xv,Xy,XQ,Wc,Wm,Wo,Wx,W7,WA,WE,WF,WH,WI,WJ,WL,WN,WO,WP,WQ,WV,WW,Vc,Vs,V6,V7,V9,VA,VB,VC,VD,VG,VH,VI,VJ,VL,VV,VW,VX,VZ,Ua,Uc,Ue,Uh,Uu,U0,U1,U2,U3,UA,UB,UL,UM,Tg,Tm,Tn,Ts,Tz,T0,TD,Sl];all_goals tactic=>exact rfl))
theorem w63 {a:Nat} (ha:a<65536):runW aA 63 [I a] []=some (nL (dB (el a)),[]):=by
 have e:=w79 ha
 have e2:=w80 (a:=a)
 generalize dB (el a)=os at *
 rw[r63 (by simp)];unfold x63;dsimp only
 (sym=>(simp[Za,Zb,Zf,Zg,Zh,Zj,Zl,Zv,ZO,ZP,ZT,ZU,YU,YZ,Xb,Xe,Xp,Xt,Xv,Xy,X0,XL,Wc,Wg,Wx,W0,W5,W6,W7,WA,WC,WE,WG,WH,WI,WJ,WK,WL,WM,WN,WO,WP,WR,WS,WT,WV,WW,Vc,Vf,Vg,Vh,Vi,Vs,Vu,Vv,Vw,V6,V7,V9,VA,VB,VC,VD,VG,VH,VI,VJ,VL,VV,VW,VX,VZ,Ua,Uc,Ud,Ue,Uu,Uz,U0,U1,U2,U3,UA,UB,Tm,Tn,Ts,Tz,T0,Sl,S4,S5,S7,S8,S9,SA,e,e2];all_goals tactic=>exact rfl))
structure Va where
 F:Int
 bs:List (Int×Int)
 ps:List (Int×Int×Int)
 sick:Int
 nur:Int
 fix:Int
abbrev rB (l:List (Int×Int)):AV:=.fs (l.map fun b=>[I b.1,I b.2])
abbrev rP (l:List (Int×Int×Int)):AV:=.fs (l.map fun p=>[I p.1,I p.2.1,I p.2.2])
abbrev Va.c (v:Va):List AV:=[I v.F,rB v.bs,rP v.ps,I v.sick,I v.nur,I v.fix]
def fX (F a b:Int):Int:=if btw 0 a (F-1)&&btw 0 b (F-1) then (if a=b then 22 else 0) else 5
theorem sT (F a b:Int):(btw 0 a (F-1)=false∧fX F a b=5)∨(btw 0 a (F-1)=true∧btw 0 b (F-1)=false∧fX F a b=5) ∨
 (btw 0 a (F-1)=true∧btw 0 b (F-1)=true∧(a=b)=True∧fX F a b=22)∨(btw 0 a (F-1)=true∧btw 0 b (F-1)=true∧(a=b)=False∧fX F a b=0):=by
 unfold fX
 cases btw 0 a (F-1)
 ·simp
 cases btw 0 b (F-1)
 ·simp
 by_cases h:a=b
 ·simp[h]
 ·simp[h]
theorem w53 (v:Va) (hF:1≤v.F∧v.F≤16) (a b:Int):runW aA 53 [.agg v.c,I a,I b] []=some (I (fX v.F a b),[]):=by
 have u:IntKind.i64.wrap (v.F-1)=v.F-1:=aD (by omega) (by omega)
 have e1:=w45 0 a (v.F-1)
 have e2:=w45 0 b (v.F-1)
 rw[r53 (by simp)];unfold x53;dsimp only
 rcases sT v.F a b with ⟨h1,h⟩|⟨h1,h2,h⟩|⟨h1,h2,h3,h⟩|⟨h1,h2,h3,h⟩
 ·rw[h];rw[h1]at e1; (sym=>(simp[Za,Zb,Zf,Zh,Zl,Zm,Zo,Zp,Zt,Zv,Zy,Zz,Z3,Z5,Z8,ZG,ZO,ZP,ZT,ZU,ZV,ZY,Yb,Yk,YU,Xg,Xi,Xj,Xp,Xq,X0,Wc,We,Wg,Wq,Wx,Wy,Wz,W6,W7,W9,WH,WK,WL,WM,WN,WO,WP,WR,WS,Vf,Vg,Vh,Vs,V6,V7,V9,VA,VB,VC,VD,VG,VH,VI,VJ,VL,VQ,VR,VV,VW,VX,VZ,Ua,Uc,Ud,Ue,Uj,Un,Uz,U0,U1,U2,U3,U4,U5,UA,UB,UL,UM,UY,UZ,Td,Tg,Tl,Tm,Tn,Tr,Ts,Tu,Tw,Tz,T0,Sl,u,e1];all_goals tactic=>exact rfl))
 ·rw[h];rw[h1]at e1;rw[h2]at e2; (sym=>(simp[Za,Zb,Zf,Zh,Zl,Zm,Zo,Zp,Zr,Zv,Zy,Zz,Z3,Z5,Z8,ZG,ZO,ZP,ZT,ZU,ZW,ZY,Yb,Yk,YU,Xg,Xi,Xj,Xp,Xq,X0,Wc,We,Wg,Wq,Wx,Wy,Wz,W6,W7,W9,WH,WK,WL,WM,WN,WO,WP,WR,WS,Vf,Vg,Vh,Vs,V6,V7,V9,VA,VB,VC,VD,VG,VH,VI,VJ,VL,VQ,VR,VV,VW,VX,VZ,Ua,Uc,Ud,Ue,Uj,Um,Un,Uz,U0,U1,U2,U3,U4,U5,UA,UB,UL,UM,UY,UZ,Td,Tg,Tl,Tm,Tn,Tr,Ts,Tu,Tw,Tz,T0,Sl,u,e1,e2];all_goals tactic=>exact rfl))
 ·rw[h];rw[h1]at e1;rw[h2]at e2; (sym=>(simp[Za,Zb,Zf,Zh,Zl,Zm,Zo,Zp,Zr,Zv,Zy,Zz,Z3,Z5,Z8,ZG,ZO,ZP,ZT,ZU,ZW,ZY,Yb,Yk,Yq,YU,Xg,Xi,Xj,Xp,Xq,X0,Wc,We,Wg,Wq,Wx,Wy,Wz,W6,W7,W9,WH,WK,WL,WM,WN,WO,WP,WR,WS,Vf,Vg,Vh,Vs,V6,V7,V9,VA,VB,VC,VD,VG,VH,VI,VJ,VL,VQ,VR,VS,VV,VW,VX,VZ,Ua,Uc,Ud,Ue,Uj,Um,Uv,Uz,U0,U1,U2,U3,U4,U5,UA,UB,UL,UM,UY,UZ,Td,Tg,Tl,Tm,Tn,Tr,Ts,Tu,Tw,Tz,T0,Sl,u,e1,e2,h3];all_goals tactic=>exact rfl))
 ·rw[h];rw[h1]at e1;rw[h2]at e2; (sym=>(simp[Za,Zb,Zf,Zh,Zl,Zm,Zo,Zp,Zr,Zv,Zy,Zz,Z3,Z5,Z8,ZG,ZO,ZP,ZT,ZU,ZW,ZY,Yb,Yk,Yq,YU,Xg,Xi,Xj,Xp,Xq,X0,Wc,We,Wg,Wq,Wx,Wy,Wz,W6,W7,W9,WH,WK,WL,WM,WN,WO,WP,WR,WS,Vf,Vg,Vh,Vs,V6,V7,V9,VA,VB,VC,VD,VG,VH,VI,VJ,VL,VQ,VS,VV,VW,VX,VZ,Ua,Uc,Ud,Ue,Uj,Um,Uw,Uz,U0,U1,U2,U3,U4,U5,UA,UB,UL,UM,UY,UZ,Td,Tg,Tl,Tm,Tn,Tp,Tr,Ts,Tv,Tz,T0,Sl,u,e1,e2,h3];all_goals tactic=>exact rfl))
def bE (v:Va) (i:Nat):Int:=fX v.F (v.bs.getD i (0,0)).1 (v.bs.getD i (0,0)).2
def pE (v:Va) (i:Nat):Int:=if fX v.F (v.ps.getD i (0,0,0)).2.1 (v.ps.getD i (0,0,0)).2.2=0 then (if btw 0 (v.ps.getD i (0,0,0)).1 100 then 0 else 2) else fX v.F (v.ps.getD i (0,0,0)).2.1 (v.ps.getD i (0,0,0)).2.2
def Va.A (v:Va):Int:=2^v.F.toNat-1
def sE (v:Va):Int:=if btw 0 v.sick v.A&&(btw 0 v.nur v.A&&btw 0 v.fix v.A) then 0 else 2
def bsE (v:Va):Int:=if 60<v.bs.length then 1 else cJ (bE v) v.bs.length
def psE (v:Va):Int:=if 20<v.ps.length then 1 else cJ (pE v) v.ps.length
def vE (v:Va):Int:=if btw 1 v.F 16 then (if bsE v=0 then (if psE v=0 then sE v else psE v) else bsE v) else 2
theorem aHJ {n:Int} (h:n≠0):(n=0)=False:=eq_false h
theorem aY {α:Type} {l:List α} {i:Nat} {x d:α} (h:l[i]?=some x):l.getD i d=x:=by rw[List.getD_eq_getElem?_getD,h];rfl
abbrev bx (v:Va):XH:=[some (.blk true (.cells true v.c))]
theorem uQ (v:Va) (hF:1≤v.F∧v.F≤16) (hb:v.bs.length<1000000000) {i:Nat} (hi:i<v.bs.length) (h0:bE v i=0) :
 aV 0 [1,22,23,24] (execW aA 23 0 none (match pM with | .loop _ a=>a|c=>c) (aU [1,22,23,24] [.pt 0 0,rB v.bs,I v.bs.length,I (i:Nat)]) (bx v))=some ([.pt 0 0,rB v.bs,I v.bs.length,I (i+1:Nat)],bx v):=by
 obtain⟨x,hx⟩:=bZ hi
 have a1:=dP hi
 have a2:=fD hi (by omega)
 have e:=w53 v hF x.1 x.2
 have e0:fX v.F x.1 x.2=0:=by unfold bE at h0;rw[aY hx]at h0;exact h0
 rw[e0]at e
 unfold pM
 dsimp only
 (sym=>(simp[Za,Zb,Zc,Zf,Zg,Zh,Zj,Zl,Zm,Zv,Zw,Z3,Z9,ZA,ZG,ZK,ZL,ZO,ZP,ZT,ZU,Yg,Yh,Yj,Yr,Ys,Yw,Yx,Y8,YA,YD,YO,YU,YX,YZ,Xb,Xg,Xp,Xr,Xt,Xv,Wq,Wx,Wy,Wz,W0,W3,W4,W5,W6,W9,WA,WE,WF,WH,WI,WJ,WK,WL,WM,WN,WO,WP,WQ,WR,WS,WV,WW,Vc,Vf,Vg,Vh,Vs,Vu,Vv,Vx,Vy,V0,VN,VO,VP,VQ,VR,VS,VW,VX,VY,VZ,Ua,Uc,Ud,Ue,Uf,Ug,Uh,Uj,Um,Ur,Uu,Uv,Uz,U0,U1,U2,U3,U4,U5,UC,UY,UZ,Ta,Tb,Tc,Td,Te,Tf,Tl,Tm,Tp,Tr,Ts,Tv,Ty,Tz,T0,TD,S4,S5,S6,S8,S9,SA,a1,a2,hx,e];all_goals tactic=>exact rfl))
theorem aHW (v:Va) (hF:1≤v.F∧v.F≤16) {i:Nat} (hi:i<v.bs.length) (h0:bE v i≠0):∃ e h,
 execW aA 23 0 none (match pM with | .loop _ a=>a|c=>c) (aU [1,22,23,24] [.pt 0 0,rB v.bs,I v.bs.length,I (i:Nat)]) (bx v)=some (.ret,e,h)∧bR none x23.res x23.ownR 0 (some (.ret,e,h))=some (I (bE v i),[]):=by
 obtain⟨x,hx⟩:=bZ hi
 have a1:=dP hi
 have e:=w53 v hF x.1 x.2
 have e0:fX v.F x.1 x.2=bE v i:=by unfold bE;rw[aY hx]
 have n0:=aHJ h0
 rw[e0]at e
 refine fA ?_ ?_
 ·unfold pM
  dsimp only
  (sym=>(simp[Za,Zb,Zc,Zf,Zg,Zh,Zj,Zl,Zm,Zv,Zw,Z3,Z9,ZA,ZG,ZK,ZL,ZO,ZP,ZT,ZU,Yg,Yh,Yr,Ys,Yw,Yx,Y8,YA,YD,YO,YU,YX,YZ,Xg,Xp,Xr,Xt,Wq,Wx,Wy,Wz,W0,W3,W4,W5,W6,W9,WH,WK,WM,WR,WS,Vf,Vg,Vh,Vs,Vu,Vv,Vx,Vy,V0,VN,VQ,VR,VU,VW,VX,VY,VZ,Ua,Ud,Ue,Uf,Ug,Uh,Uj,Un,Ur,Uv,Uw,Uz,U0,U1,U2,U3,U4,U5,UC,UY,UZ,Ta,Tb,Tc,Td,Te,Tf,Tl,Tm,Tn,Tp,Tr,Ts,Tu,Tw,Tz,T0,S4,S5,S6,S8,S9,SA,a1,hx,e,n0];all_goals tactic=>exact rfl))
 ·unfold pM
  dsimp only
  (sym=>(simp[Za,Zb,Zc,Zf,Zg,Zh,Zj,Zl,Zm,Zv,Zw,Z3,Z9,ZA,ZG,ZK,ZL,ZO,ZP,ZT,ZU,Yg,Yh,Yr,Ys,Yw,Yx,Y8,YA,YD,YO,YU,YX,YZ,Xg,Xp,Xr,Xt,Wq,Wx,Wy,Wz,W0,W3,W4,W5,W6,W9,WH,WK,WM,WR,WS,Vf,Vg,Vh,Vs,Vu,Vv,Vx,Vy,V0,V6,VC,VN,VQ,VR,VW,VX,VY,VZ,Ua,Ud,Ue,Uf,Ug,Uh,Uj,Un,Ur,Uv,Uw,Uz,U0,U1,U2,U3,U4,U5,UC,UY,UZ,Ta,Tb,Tc,Td,Te,Tf,Tl,Tm,Tn,Tp,Tr,Ts,Tu,Tw,Tz,T0,S4,S5,S6,S8,S9,SA,a1,hx,e,n0];all_goals tactic=>exact rfl))
theorem qA (v:Va) {i:Nat} {p:Int×Int×Int} (hp:v.ps[i]?=some p):(fX v.F p.2.1 p.2.2≠0∧pE v i=fX v.F p.2.1 p.2.2)∨(fX v.F p.2.1 p.2.2=0∧btw 0 p.1 100=true∧pE v i=0)∨(fX v.F p.2.1 p.2.2=0∧btw 0 p.1 100=false∧pE v i=2):=by
 unfold pE
 rw[aY hp]
 by_cases h:fX v.F p.2.1 p.2.2=0
 ·cases h2:btw 0 p.1 100<;>simp[h]
 ·simp[h]
theorem aAv (v:Va) (hF:1≤v.F∧v.F≤16) (hb:v.ps.length<1000000000) {i:Nat} (hi:i<v.ps.length) (h0:pE v i=0) :
 aV 0 [1,43,44,45] (execW aA 23 0 none (match nX with | .loop _ a=>a|c=>c) (aU [1,43,44,45] [.pt 0 0,rP v.ps,I v.ps.length,I (i:Nat)]) (bx v))=some ([.pt 0 0,rP v.ps,I v.ps.length,I (i+1:Nat)],bx v):=by
 obtain⟨x,hx⟩:=bZ hi
 have a1:=dP hi
 have a2:=fD hi (by omega)
 have e:=w53 v hF x.2.1 x.2.2
 have e2:=w45 0 x.1 100
 rcases qA v hx with ⟨h1,h2⟩|⟨h1,h2,_⟩|⟨h1,h2,h3⟩
 ·exact absurd (h2.symm.trans h0) h1
 ·rw[h1]at e
  rw[h2]at e2
  unfold nX
  dsimp only
  (sym=>(simp[Za,Zb,Zc,Zf,Zg,Zh,Zj,Zl,Zm,Zv,Zw,Z3,Z5,Z8,ZA,ZG,ZK,ZL,ZO,ZP,ZT,ZU,ZY,Yb,Yg,Yh,Yj,Yr,Ys,Yw,Yx,YU,YX,YZ,Xb,Xg,Xp,Xq,Xr,Xt,Xv,Wq,Wx,Wy,Wz,W0,W3,W4,W5,W6,W9,WA,WE,WF,WH,WI,WJ,WK,WL,WM,WN,WO,WP,WQ,WR,WS,WV,WW,Vc,Vf,Vg,Vh,Vs,Vu,Vv,Vx,Vy,V0,VN,VO,VP,VQ,VR,VS,VW,VX,VY,VZ,Ua,Uc,Ud,Ue,Uf,Ug,Uh,Uj,Um,Ur,Uu,Uv,Uz,U0,U1,U2,U3,U4,U5,UC,UY,UZ,Ta,Tb,Tc,Td,Te,Tf,Tl,Tm,Tp,Tr,Ts,Tv,Ty,Tz,T0,TD,S4,S5,S6,S8,S9,SA,a1,a2,hx,e,e2];all_goals tactic=>exact rfl))
 ·rw[h0]at h3;simp at h3
theorem aHV (v:Va) (hF:1≤v.F∧v.F≤16) {i:Nat} (hi:i<v.ps.length) (h0:pE v i≠0):∃ e h,
 execW aA 23 0 none (match nX with | .loop _ a=>a|c=>c) (aU [1,43,44,45] [.pt 0 0,rP v.ps,I v.ps.length,I (i:Nat)]) (bx v)=some (.ret,e,h)∧bR none x23.res x23.ownR 0 (some (.ret,e,h))=some (I (pE v i),[]):=by
 obtain⟨x,hx⟩:=bZ hi
 have a1:=dP hi
 have e:=w53 v hF x.2.1 x.2.2
 have e2:=w45 0 x.1 100
 rcases qA v hx with ⟨h1,h2⟩|⟨h1,h2,h3⟩|⟨h1,h2,h3⟩
 ·have n0:=aHJ h1
  rw[h2]
  generalize fX v.F x.2.1 x.2.2=er at *
  refine fA ?_ ?_
  ·unfold nX
   dsimp only
   (sym=>(simp[Za,Zb,Zc,Zf,Zg,Zh,Zj,Zl,Zm,Zv,Zw,Z3,Z8,ZA,ZG,ZK,ZL,ZO,ZP,ZT,ZU,Yb,Yg,Yh,Yr,Ys,Yw,Yx,YU,YX,YZ,Xg,Xp,Xr,Xt,Wq,Wx,Wy,Wz,W0,W3,W4,W5,W6,W9,WH,WK,WM,WR,WS,Vf,Vg,Vh,Vs,Vu,Vv,Vx,Vy,V0,VN,VQ,VR,VU,VW,VX,VY,VZ,Ua,Ud,Ue,Uf,Ug,Uh,Uj,Un,Ur,Uv,Uw,Uz,U0,U1,U2,U3,U4,U5,UC,UY,UZ,Ta,Tb,Tc,Td,Te,Tf,Tl,Tm,Tn,Tp,Tr,Ts,Tu,Tw,Tz,T0,S4,S5,S6,S8,S9,SA,a1,hx,e,n0];all_goals tactic=>exact rfl))
  ·unfold nX
   dsimp only
   (sym=>(simp[Za,Zb,Zc,Zf,Zg,Zh,Zj,Zl,Zm,Zv,Zw,Z3,Z8,ZA,ZG,ZK,ZL,ZO,ZP,ZT,ZU,Yb,Yg,Yh,Yr,Ys,Yw,Yx,YU,YX,YZ,Xg,Xp,Xr,Xt,Wq,Wx,Wy,Wz,W0,W3,W4,W5,W6,W9,WH,WK,WM,WR,WS,Vf,Vg,Vh,Vs,Vu,Vv,Vx,Vy,V0,V6,VC,VN,VQ,VR,VW,VX,VY,VZ,Ua,Ud,Ue,Uf,Ug,Uh,Uj,Un,Ur,Uv,Uw,Uz,U0,U1,U2,U3,U4,U5,UC,UY,UZ,Ta,Tb,Tc,Td,Te,Tf,Tl,Tm,Tn,Tp,Tr,Ts,Tu,Tw,Tz,T0,S4,S5,S6,S8,S9,SA,a1,hx,e,n0];all_goals tactic=>exact rfl))
 ·exact absurd h3 h0
 ·rw[h1]at e
  rw[h2]at e2
  rw[h3]
  refine fA ?_ ?_
  ·unfold nX
   dsimp only
   (sym=>(simp[Za,Zb,Zc,Zf,Zg,Zh,Zj,Zl,Zm,Zv,Zw,Z3,Z5,Z8,ZA,ZG,ZK,ZL,ZO,ZP,ZT,ZU,ZY,Yb,Yg,Yh,Yr,Ys,Yw,Yx,YU,YX,YZ,Xg,Xp,Xq,Xr,Xt,Wq,Wx,Wy,Wz,W0,W3,W4,W5,W6,W9,WH,WK,WM,WR,WS,Vf,Vg,Vh,Vs,Vu,Vv,Vx,Vy,V0,VN,VQ,VR,VS,VU,VW,VX,VY,VZ,Ua,Ud,Ue,Uf,Ug,Uh,Uj,Um,Un,Ur,Uv,Uz,U0,U1,U2,U3,U4,U5,UC,UY,UZ,Ta,Tb,Tc,Td,Te,Tf,Tl,Tm,Tn,Tp,Tr,Ts,Tu,Tw,Tz,T0,S4,S5,S6,S8,S9,SA,a1,hx,e,e2];all_goals tactic=>exact rfl))
  ·unfold nX
   dsimp only
   (sym=>(simp[Za,Zb,Zc,Zf,Zg,Zh,Zj,Zl,Zm,Zv,Zw,Z3,Z5,Z8,ZA,ZG,ZK,ZL,ZO,ZP,ZT,ZU,ZY,Yb,Yg,Yh,Yr,Ys,Yw,Yx,YU,YX,YZ,Xg,Xp,Xq,Xr,Xt,Wq,Wx,Wy,Wz,W0,W3,W4,W5,W6,W9,WH,WK,WM,WR,WS,Vf,Vg,Vh,Vs,Vu,Vv,Vx,Vy,V0,V6,VC,VN,VQ,VR,VS,VW,VX,VY,VZ,Ua,Ud,Ue,Uf,Ug,Uh,Uj,Um,Un,Ur,Uv,Uz,U0,U1,U2,U3,U4,U5,UC,UY,UZ,Ta,Tb,Tc,Td,Te,Tf,Tl,Tm,Tn,Tp,Tr,Ts,Tu,Tw,Tz,T0,S4,S5,S6,S8,S9,SA,a1,hx,e,e2];all_goals tactic=>exact rfl))
theorem aLl (v:Va) (hF:1≤v.F∧v.F≤16):IntKind.i64.wrap (1*2^min v.F.toNat IntKind.i64.bits)=2^v.F.toNat∧IntKind.i64.wrap (2^v.F.toNat-1)=v.A∧0<v.A∧v.A<65536:=by
 obtain⟨f,hf⟩:∃ f:Nat,v.F=f:=⟨v.F.toNat,by omega⟩
 unfold Va.A
 rw[hf]at hF ⊢
 simp only[Int.toNat_natCast]
 have h1:=nG bW (i:=f) (by omega)
 have h2:(2:Nat)^f≤2^16:=Nat.pow_le_pow_right (by omega) (by omega)
 have h3:(2:Nat)^1≤2^f:=Nat.pow_le_pow_right (by omega) (by omega)
 have e:(2:Int)^f=((2^f:Nat):Int):=by norm_cast
 rw[h1,e]
 exact⟨rfl,aD (by omega) (by omega),by omega,by omega⟩
theorem aAo (v:Va):(btw 0 v.sick v.A=false∧sE v=2)∨(btw 0 v.sick v.A=true∧btw 0 v.nur v.A=false∧sE v=2)∨(btw 0 v.sick v.A=true∧btw 0 v.nur v.A=true∧btw 0 v.fix v.A=false∧sE v=2) ∨
 (btw 0 v.sick v.A=true∧btw 0 v.nur v.A=true∧btw 0 v.fix v.A=true∧sE v=0):=by
 unfold sE
 cases btw 0 v.sick v.A<;>cases btw 0 v.nur v.A<;>cases btw 0 v.fix v.A<;>simp
abbrev bx3 (v:Va):XH:=[some (.blk true (.cells true v.c)),some (.blk true (.cells true [I v.sick,I v.nur,I v.fix]))]
theorem aEW (v:Va) (hF:1≤v.F∧v.F≤16) {i:Nat} {s:Int} (hs:(i=0∧s=v.sick)∨(i=1∧s=v.nur)∨(i=2∧s=v.fix)) (h0:btw 0 s v.A=true) :
 aV 0 [1,69,70,71] (execW aA 23 0 none (match uH with | .loop _ a=>a|c=>c) (aU [1,69,70,71] [.pt 0 0,.sl 1 0 1 3,I 3,I (i:Nat)]) (bx3 v))=some ([.pt 0 0,.sl 1 0 1 3,I 3,I (i+1:Nat)],bx3 v):=by
 obtain⟨u1,u2,_,_⟩:=aLl v hF
 have e:=w45 0 s v.A
 have n0:(v.F<0)=False:=eq_false (by omega)
 rw[h0]at e
 rcases hs with ⟨rfl,rfl⟩|⟨rfl,rfl⟩|⟨rfl,rfl⟩
 all_goals
  unfold uH
  dsimp only
  (sym=>(simp[Za,Zb,Zf,Zg,Zh,Zj,Zl,Zm,Zv,Z3,Z5,Z8,ZA,ZG,ZO,ZP,ZT,ZU,ZY,Yb,Yf,Yj,Yk,Yo,Ys,Yz,Y0,Y1,Y8,Y9,YA,YB,YC,YD,YF,YU,Xa,Xb,Xp,Xq,Xu,Xv,X0,Wc,Wx,Wy,Wz,W6,W9,WA,WB,WE,WF,WH,WI,WJ,WK,WL,WM,WN,WO,WP,WQ,WR,WS,WV,WW,Vc,Vf,Vg,Vh,Vs,Vu,Vv,Vw,VN,VO,VP,VQ,VR,VS,VW,VX,VY,VZ,Ua,Uc,Ud,Ue,Uh,Um,Ur,Uu,Uv,Uz,U0,U1,U2,U3,UY,UZ,Td,Tl,Tm,Tp,Tr,Ts,Tv,Ty,Tz,T0,TD,Sl,S4,S5,S7,S8,S9,SA,u1,u2,e,n0];all_goals tactic=>exact rfl))
theorem aHU (v:Va) (hF:1≤v.F∧v.F≤16) {i:Nat} {s:Int} (hs:(i=0∧s=v.sick)∨(i=1∧s=v.nur)∨(i=2∧s=v.fix)) (h0:btw 0 s v.A=false):∃ e h,
 execW aA 23 0 none (match uH with | .loop _ a=>a|c=>c) (aU [1,69,70,71] [.pt 0 0,.sl 1 0 1 3,I 3,I (i:Nat)]) (bx3 v)=some (.ret,e,h)∧bR none x23.res x23.ownR 0 (some (.ret,e,h))=some (I 2,[]):=by
 obtain⟨u1,u2,_,_⟩:=aLl v hF
 have e:=w45 0 s v.A
 have n0:(v.F<0)=False:=eq_false (by omega)
 rw[h0]at e
 rcases hs with ⟨rfl,rfl⟩|⟨rfl,rfl⟩|⟨rfl,rfl⟩
 all_goals
  refine fA ?_ ?_
  ·unfold uH
   dsimp only
   (sym=>(simp[Za,Zb,Zf,Zg,Zh,Zj,Zl,Zm,Zv,Z3,Z5,Z8,ZA,ZG,ZO,ZP,ZT,ZU,ZY,Yb,Yf,Yk,Yo,Ys,Y8,Y9,YA,YB,YC,YD,YF,YU,Xp,Xq,X0,Wc,Wx,Wy,Wz,W6,W9,WH,WK,WM,WR,WS,Vf,Vg,Vh,Vs,Vu,Vv,Vw,VN,VQ,VR,VU,VW,VX,VZ,Ua,Ud,Ue,Un,Ur,Uv,Uz,U0,U1,U2,U3,UY,UZ,Td,Tl,Tm,Tn,Tp,Tr,Ts,Tu,Tw,Tz,T0,Sl,S4,S5,S7,S8,S9,SA,u1,u2,e,n0];all_goals tactic=>exact rfl))
  ·unfold uH
   dsimp only
   (sym=>(simp[Za,Zb,Zf,Zg,Zh,Zj,Zl,Zm,Zv,Z3,Z5,Z8,ZA,ZG,ZO,ZP,ZT,ZU,ZY,Yb,Yf,Yk,Yo,Ys,Y8,Y9,YA,YB,YC,YD,YF,YU,Xp,Xq,X0,Wc,Wx,Wy,Wz,W6,W9,WH,WK,WM,WR,WS,Vf,Vg,Vh,Vs,Vu,Vv,Vw,V6,VC,VN,VQ,VR,VW,VX,VZ,Ua,Ud,Ue,Un,Ur,Uv,Uz,U0,U1,U2,U3,UY,UZ,Td,Tl,Tm,Tn,Tp,Tr,Ts,Tu,Tw,Tz,T0,Sl,S4,S5,S7,S8,S9,SA,u1,u2,e,n0];all_goals tactic=>exact rfl))
theorem w23 (v:Va) (hb:v.bs.length<1000000000) (hp:v.ps.length<1000000000):runW aA 23 [.agg v.c] []=some (I (vE v),[]):=by
 have e0:=w45 1 v.F 16
 rw[r23 (by simp)];unfold x23;dsimp only
 unfold vE
 cases hF:btw 1 v.F 16
 ·rw[hF]at e0
  rw[if_neg (by simp)]
  (sym=>(simp[Za,Zb,Zf,Zg,Zh,Zj,Zl,Zm,Zo,Zv,Zz,Z5,Z8,ZG,ZO,ZP,ZT,ZU,ZY,Yb,YU,Xg,Xi,Xj,Xp,Xq,X0,Wc,We,Wg,Wq,Wx,Wy,Wz,W6,W7,W9,WH,WK,WL,WM,WN,WO,WP,WR,WS,Vf,Vg,Vh,Vs,Vu,Vv,Vx,Vy,V0,V6,V7,V9,VA,VB,VC,VD,VG,VH,VI,VJ,VL,VQ,VR,VV,VW,VX,VZ,Ua,Uc,Ud,Ue,Uj,Un,Uz,U0,U1,U2,U3,U4,U5,UA,UB,UL,UM,UY,UZ,Td,Tg,Tm,Tn,Tr,Ts,Tu,Tw,Tz,T0,Sl,S4,S5,S6,S8,S9,SA,e0];all_goals tactic=>exact rfl))
 ·rw[hF]at e0
  rw[if_pos rfl]
  have hF':=nD.1 hF
  unfold bsE
  by_cases h60:60<v.bs.length
  ·rw[if_pos h60,if_neg (by decide)]
   have c60:((60:Int)<(v.bs.length:Int))=True:=eq_true (by omega)
   (sym=>(simp[Za,Zb,Zf,Zg,Zh,Zj,Zl,Zm,Zo,Zv,Zz,Z3,Z5,Z8,ZF,ZG,ZO,ZP,ZT,ZU,ZY,Yb,Yc,Yu,YU,Xg,Xi,Xj,Xp,Xq,X0,Wc,We,Wg,Wq,Wx,Wy,Wz,W6,W7,W9,WH,WK,WL,WM,WN,WO,WP,WR,WS,Vf,Vg,Vh,Vs,Vu,Vv,Vx,Vy,V0,V6,V7,V9,VA,VB,VC,VD,VG,VH,VI,VJ,VL,VQ,VR,VS,VW,VX,VZ,Ua,Uc,Ud,Ue,Uf,Uj,Um,Uv,Uz,U0,U1,U2,U3,U4,U5,UA,UB,UL,UM,UY,UZ,Td,Tg,Tl,Tm,Tn,Tr,Ts,Tu,Tw,Tz,T0,Sl,S4,S5,S6,S8,S9,SA,e0,c60];all_goals tactic=>exact rfl))
  ·rw[if_neg h60]
   have g60:((60:Int)<(v.bs.length:Int))=False:=eq_false (by omega)
   have z:=UX (n:=(v.bs.length:Int))
   obtain⟨m,m1,m2,m3⟩:=dQ (bE v) v.bs.length
   rcases m3 with ⟨rfl,e⟩|⟨m3,m4,e⟩
   ·rw[e, if_pos rfl]
    unfold psE
    by_cases h20:20<v.ps.length
    ·rw[if_pos h20,if_neg (by decide)]
     have c20:((20:Int)<(v.ps.length:Int))=True:=eq_true (by omega)
     sym =>
      simp[Za,Zb,Zf,Zg,Zh,Zj,Zl,Zm,Zo,Zv,Zz,Z3,Z5,Z8,ZF,ZG,ZO,ZP,ZT,ZU,ZY,Yb,Yc,Yu,YU,Xg,Xi,Xj,Xp,Xq,Wc,We,Wg,Wq,Wx,Wy,Wz,W6,W7,W9,WH,WK,WM,WR,WS,Vf,Vg,Vh,Vs,Vu,Vv,Vx,Vy,V0,VL,VQ,VS,VW,VX,VZ,Ua,Ud,Ue,Uf,Uj,Um,Uw,Uz,U0,U1,U2,U3,U4,U5,UA,UB,UL,UM,UY,UZ,Td,Tg,Tl,Tm,Tp,Tr,Ts,Tv,Tz,T0,S4,S5,S6,S8,S9,SA,e0,g60]
      tactic =>
       unfold pM
       rw[aF v.bs.length (fun i=>[.pt 0 0,rB v.bs,I v.bs.length,I (i:Nat)]) (fun _=>bx v)]
       ·(sym=>(simp[Za,Zb,Zf,Zh,Zl,Zm,Zv,Z3,Z8,ZF,ZG,Yb,Yc,Ys,Yu,YU,Xp,X0,Wc,Wx,Wy,Wz,W9,WH,WL,WN,WO,WP,Vs,V6,V7,V9,VA,VB,VC,VD,VG,VH,VI,VJ,VN,VQ,VR,VS,VX,Ua,Uc,Uf,Uv,Uw,U0,U1,UX,UY,UZ,Td,Tl,Tm,Tn,Tq,Ts,Tt,Tu,Tx,Tz,T0,Sl,z,c20];all_goals tactic=>exact rfl))
       ·(sym=>(simp[Za,Y9,YU,YZ,Xb,Xp,Xt,Xv,Wx,WA,WE,WF,WH,WI,WJ,WL,WN,WO,WP,WQ,WV,WW,Vc,VO,VP,VW,VX,VZ,Ua,Uc,Uh,Uu,U0,U1,U2,U3,Ty,TD];all_goals tactic=>exact rfl))
       ·exact fun i hi=>uQ v hF' hb hi (m2 i hi)
       ·(sym=>(simp[Za,Zb,Zf,Zh,Zl,Zm,Z3,Ys,VN,VQ,VS,VT,Uw,UX,Tl,Tm,Tq,Ts,Tt,Tz,z];all_goals tactic=>exact rfl))
    ·rw[if_neg h20]
     have g20:((20:Int)<(v.ps.length:Int))=False:=eq_false (by omega)
     have z2:=UX (n:=(v.ps.length:Int))
     obtain⟨k,k1,k2,k3⟩:=dQ (pE v) v.ps.length
     sym =>
      simp[Za,Zb,Zf,Zg,Zh,Zj,Zl,Zm,Zo,Zv,Zz,Z3,Z5,Z8,ZF,ZG,ZO,ZP,ZT,ZU,ZY,Yb,Yc,Yu,YU,Xg,Xi,Xj,Xp,Xq,Wc,We,Wg,Wq,Wx,Wy,Wz,W6,W7,W9,WH,WK,WM,WR,WS,Vf,Vg,Vh,Vs,Vu,Vv,Vx,Vy,V0,VL,VQ,VS,VV,VW,VX,VZ,Ua,Ud,Ue,Uf,Uj,Um,Uw,Uz,U0,U1,U2,U3,U4,U5,UA,UB,UL,UM,UY,UZ,Td,Tg,Tl,Tm,Tp,Tr,Ts,Tv,Tz,T0,S4,S5,S6,S8,S9,SA,e0,g60]
      tactic =>
       unfold pM
       rw[aF v.bs.length (fun i=>[.pt 0 0,rB v.bs,I v.bs.length,I (i:Nat)]) (fun _=>bx v)]
       ·sym =>
        simp[Za,Zb,Zf,Zh,Zl,Zm,Zv,Z3,Z8,ZF,ZG,Yb,Yc,Ys,Yu,Wx,Wy,Wz,W9,VN,VQ,VS,Uf,Uw,UX,UY,UZ,Td,Tl,Tm,Tp,Tq,Tr,Ts,Tt,Tx,Tz,T0,z,g20]
        tactic =>
         rcases k3 with ⟨rfl,e3⟩|⟨k3,k4,e3⟩
         ·rw[e3, if_pos rfl]
          unfold nX
          rw[aF v.ps.length (fun i=>[.pt 0 0,rP v.ps,I v.ps.length,I (i:Nat)]) (fun _=>bx v)]
          ·sym =>
           simp[Za,Zb,Zd,Ze,Zf,Zg,Zh,Zj,Zl,Zm,Zo,Zv,Z1,Z3,Z8,ZF,ZG,Yb,Ye,Ys,YF,Xg,Wo,Wx,Wy,Wz,W3,W5,W6,W9,Vs,Vu,Vv,Vx,Vy,V0,VN,VQ,VS,VW,VX,VY,VZ,Ua,Ud,Ue,Uj,Ur,Uw,Ux,Uy,U4,U5,UC,UD,UE,UF,UN,UO,UP,UQ,UX,UY,UZ,Td,Tg,Tl,Tm,Tq,Tr,Ts,Tt,Tx,Tz,T0,TK,S4,S5,S6,S8,S9,SA,z2]
           tactic =>
            have lf:=fun i s hs h0=>aHU v hF' (i:=i) (s:=s) hs h0
            have rd:=fun i s hs h0=>aEW v hF' (i:=i) (s:=s) hs h0
            unfold uH at lf rd ⊢
            dsimp only at lf rd
            rcases aAo v with ⟨h1,h⟩|⟨h1,h2,h⟩|⟨h1,h2,h3,h⟩|⟨h1,h2,h3,h⟩
            ·rw[h]
             obtain⟨eo,ho,q1,q2⟩:=lf 0 v.sick (by simp) h1
             rw[aF 0 (fun i=>[.pt 0 0,.sl 1 0 1 3,I 3,I (i:Nat)]) (fun _=>bx3 v)]
             ·rw[q1];exact q2
             ·(sym=>(simp[Za,Y9,YU,Xa,Xb,Xp,Xu,Xv,Wx,WA,WB,WE,WF,WH,WI,WJ,WL,WN,WO,WP,WQ,WV,WW,Vc,VN,VO,VP,VW,VX,VY,VZ,Ua,Uc,Uh,Uu,U0,U1,U2,U3,Ty,TD];all_goals tactic=>exact rfl))
             ·intro i hi;omega
             ·rw[q1];rfl
            ·rw[h]
             obtain⟨eo,ho,q1,q2⟩:=lf 1 v.nur (by simp) h2
             rw[aF 1 (fun i=>[.pt 0 0,.sl 1 0 1 3,I 3,I (i:Nat)]) (fun _=>bx3 v)]
             ·rw[q1];exact q2
             ·(sym=>(simp[Za,Y9,YU,Xa,Xb,Xp,Xu,Xv,Wx,WA,WB,WE,WF,WH,WI,WJ,WL,WN,WO,WP,WQ,WV,WW,Vc,VN,VO,VP,VW,VX,VY,VZ,Ua,Uc,Uh,Uu,U0,U1,U2,U3,Ty,TD];all_goals tactic=>exact rfl))
             ·intro i hi
              obtain rfl:i=0:=by omega
              exact rd 0 v.sick (by simp) h1
             ·rw[q1];rfl
            ·rw[h]
             obtain⟨eo,ho,q1,q2⟩:=lf 2 v.fix (by simp) h3
             rw[aF 2 (fun i=>[.pt 0 0,.sl 1 0 1 3,I 3,I (i:Nat)]) (fun _=>bx3 v)]
             ·rw[q1];exact q2
             ·(sym=>(simp[Za,Y9,YU,Xa,Xb,Xp,Xu,Xv,Wx,WA,WB,WE,WF,WH,WI,WJ,WL,WN,WO,WP,WQ,WV,WW,Vc,VN,VO,VP,VW,VX,VY,VZ,Ua,Uc,Uh,Uu,U0,U1,U2,U3,Ty,TD];all_goals tactic=>exact rfl))
             ·intro i hi
              have:i=0∨i=1:=by omega
              rcases this with rfl|rfl
              ·exact rd 0 v.sick (by simp) h1
              ·exact rd 1 v.nur (by simp) h2
             ·rw[q1];rfl
            ·rw[h]
             rw[aF 3 (fun i=>[.pt 0 0,.sl 1 0 1 3,I 3,I (i:Nat)]) (fun _=>bx3 v)]
             ·(sym=>(simp[Za,Zb,Zf,Zh,Zl,Zm,Zv,Z3,Ys,YF,YU,Xp,X0,Wc,WH,WL,WN,WO,WP,Vs,V6,V7,V9,VA,VB,VC,VD,VG,VH,VI,VJ,VN,VQ,VS,VX,Ua,Uc,Uw,U0,U1,Tl,Tm,Tn,Tq,Ts,Tt,Tx,Tz,T0,Sl];all_goals tactic=>exact rfl))
             ·(sym=>(simp[Za,Y9,YU,Xa,Xb,Xp,Xu,Xv,Wx,WA,WB,WE,WF,WH,WI,WJ,WL,WN,WO,WP,WQ,WV,WW,Vc,VN,VO,VP,VW,VX,VY,VZ,Ua,Uc,Uh,Uu,U0,U1,U2,U3,Ty,TD];all_goals tactic=>exact rfl))
             ·intro i hi
              have:i=0∨i=1∨i=2:=by omega
              rcases this with rfl|rfl|rfl
              ·exact rd 0 v.sick (by simp) h1
              ·exact rd 1 v.nur (by simp) h2
              ·exact rd 2 v.fix (by simp) h3
             ·(sym=>(simp[Za,Zb,Zf,Zh,Zl,Zm,Z3,Ys,YF,VN,VQ,VS,VT,Uw,Tl,Tm,Tq,Ts,Tt,Tz];all_goals tactic=>exact rfl))
          ·(sym=>(simp[Za,Y9,YU,YZ,Xb,Xp,Xt,Xv,Wx,WA,WE,WF,WH,WI,WJ,WL,WN,WO,WP,WQ,WV,WW,Vc,VN,VO,VP,VW,VX,VZ,Ua,Uc,Uh,Uu,U0,U1,U2,U3,Ty,TD];all_goals tactic=>exact rfl))
          ·exact fun i hi=>aAv v hF' hp hi (k2 i hi)
          ·(sym=>(simp[Za,Zb,Zf,Zh,Zl,Zm,Z3,Ys,VN,VQ,VS,VT,Uw,UX,Tl,Tm,Tq,Ts,Tt,Tz,z2];all_goals tactic=>exact rfl))
         ·rw[e3,if_neg k4]
          obtain⟨eo,ho,q1,q2⟩:=aHV v hF' k3 k4
          unfold nX at q1 ⊢
          rw[aF k (fun i=>[.pt 0 0,rP v.ps,I v.ps.length,I (i:Nat)]) (fun _=>bx v)]
          ·dsimp only at q1;rw[q1];exact q2
          ·(sym=>(simp[Za,Y9,YU,YZ,Xb,Xp,Xt,Xv,Wx,WA,WE,WF,WH,WI,WJ,WL,WN,WO,WP,WQ,WV,WW,Vc,VN,VO,VP,VW,VX,VZ,Ua,Uc,Uh,Uu,U0,U1,U2,U3,Ty,TD];all_goals tactic=>exact rfl))
          ·exact fun i hi=>aAv v hF' hp (by omega) (k2 i hi)
          ·dsimp only at q1;rw[q1];rfl
       ·(sym=>(simp[Za,Y9,YU,YZ,Xb,Xp,Xt,Xv,Wx,WA,WE,WF,WH,WI,WJ,WL,WN,WO,WP,WQ,WV,WW,Vc,VO,VP,VW,VX,VZ,Ua,Uc,Uh,Uu,U0,U1,U2,U3,Ty,TD];all_goals tactic=>exact rfl))
       ·exact fun i hi=>uQ v hF' hb hi (m2 i hi)
       ·(sym=>(simp[Za,Zb,Zf,Zh,Zl,Zm,Z3,Ys,VN,VQ,VS,VT,Uw,UX,Tl,Tm,Tq,Ts,Tt,Tz,z];all_goals tactic=>exact rfl))
   ·rw[e,if_neg m4]
    obtain⟨eo,ho,q1,q2⟩:=aHW v hF' m3 m4
    sym =>
     simp[Za,Zb,Zf,Zg,Zh,Zj,Zl,Zm,Zo,Zv,Zz,Z3,Z5,Z8,ZF,ZG,ZO,ZP,ZT,ZU,ZY,Yb,Yc,Yu,YU,Xg,Xi,Xj,Xp,Xq,Wc,We,Wg,Wq,Wx,Wy,Wz,W6,W7,W9,WH,WK,WM,WR,WS,Vf,Vg,Vh,Vs,Vu,Vv,Vx,Vy,V0,VL,VQ,VS,VV,VW,VX,VZ,Ua,Ud,Ue,Uf,Uj,Um,Uw,Uz,U0,U1,U2,U3,U4,U5,UA,UB,UL,UM,UY,UZ,Td,Tg,Tl,Tm,Tp,Tr,Ts,Tv,Tz,T0,S4,S5,S6,S8,S9,SA,e0,g60]
     tactic =>
      unfold pM at q1 ⊢
      rw[aF m (fun i=>[.pt 0 0,rB v.bs,I v.bs.length,I (i:Nat)]) (fun _=>bx v)]
      ·dsimp only at q1;rw[q1];exact q2
      ·(sym=>(simp[Za,Y9,YU,YZ,Xb,Xp,Xt,Xv,Wx,WA,WE,WF,WH,WI,WJ,WL,WN,WO,WP,WQ,WV,WW,Vc,VO,VP,VW,VX,VZ,Ua,Uc,Uh,Uu,U0,U1,U2,U3,Ty,TD];all_goals tactic=>exact rfl))
      ·exact fun i hi=>uQ v hF' hb (by omega) (m2 i hi)
      ·dsimp only at q1;rw[q1];rfl
structure Vn where
 F:Nat
 bs:List (Nat×Nat)
 ps:List (Nat×Nat×Nat)
 sick:Nat
 nur:Nat
 fix:Nat
abbrev bI (b:Nat×Nat):Int×Int:=(b.1,b.2)
abbrev pI (p:Nat×Nat×Nat):Int×Int×Int:=(p.1,p.2.1,p.2.2)
def Vn.v (x:Vn):Va:=⟨x.F,x.bs.map bI,x.ps.map pI,x.sick,x.nur,x.fix⟩
structure Vn.Ok (x:Vn):Prop where
 F1:1≤x.F
 F16:x.F≤16
 nb:x.bs.length≤60
 np:x.ps.length≤20
 b:∀ p∈x.bs,p.1<x.F∧p.2<x.F∧p.1≠p.2
 p:∀ p∈x.ps,p.1≤100∧p.2.1<x.F∧p.2.2<x.F∧p.2.1≠p.2.2
 s:x.sick<2^x.F
 n:x.nur<2^x.F
 f:x.fix<2^x.F
theorem tP {F a b:Int}:fX F a b=0↔(0≤a∧a<F)∧(0≤b∧b<F)∧a≠b:=by
 rcases sT F a b with ⟨h1,h⟩|⟨h1,h2,h⟩|⟨h1,h2,h3,h⟩|⟨h1,h2,h3,h⟩
 ·rw[h];simp[btw]at h1;constructor
  ·intro h;simp at h
  ·intro h;have:=h1 h.1.1;omega
 ·rw[h];simp[btw]at h2;constructor
  ·intro h;simp at h
  ·intro h;have:=h2 h.2.1.1;omega
 ·rw[h];constructor
  ·intro h;simp at h
  ·intro h;exact absurd (of_eq_true h3) h.2.2
 ·rw[h]
  have g1:=nD.1 h1
  have g2:=nD.1 h2
  have g3:=of_eq_false h3
  simp only[true_iff]
  exact⟨by omega,by omega,g3⟩
theorem tZ {α β:Type} (f:α→β) (P:β→Prop) (hf:∀ b,P b→∃ a,f a=b):∀ l:List β,(∀ x∈l,P x)→∃ k:List α,k.map f=l
 | [],_=>⟨[],rfl⟩
 | x::l,h=>by
   obtain⟨a,ha⟩:=hf x (h x (by simp))
   obtain⟨k,hk⟩:=tZ f P hf l fun y hy=>h y (by simp[hy])
   exact⟨a::k,by simp[ha,hk]⟩
theorem aKu {v:Va} (h:vE v=0):∃ x:Vn,x.Ok∧v=x.v:=by
 unfold vE at h
 cases hF:btw 1 v.F 16
 ·rw[hF]at h;simp at h
 rw[hF,if_pos rfl]at h
 have hF':=nD.1 hF
 by_cases hb:bsE v=0
 ·rw[if_pos hb]at h
  by_cases hp:psE v=0
  ·rw[if_pos hp]at h
   unfold bsE at hb
   unfold psE at hp
   by_cases h60:60<v.bs.length
   ·rw[if_pos h60]at hb;simp at hb
   rw[if_neg h60]at hb
   by_cases h20:20<v.ps.length
   ·rw[if_pos h20]at hp;simp at hp
   rw[if_neg h20]at hp
   have hb':∀ b∈v.bs,(0≤b.1∧b.1<v.F)∧(0≤b.2∧b.2<v.F)∧b.1≠b.2:=fun b hm=>by
    obtain⟨i,hi⟩:=List.getElem?_of_mem hm
    have:=iL hb i (fG hi)
    unfold bE at this
    rw[aY hi]at this
    exact tP.1 this
   have hp':∀ p∈v.ps,(0≤p.1∧p.1≤100)∧(0≤p.2.1∧p.2.1<v.F)∧(0≤p.2.2∧p.2.2<v.F)∧p.2.1≠p.2.2:=fun p hm=>by
    obtain⟨i,hi⟩:=List.getElem?_of_mem hm
    have:=iL hp i (fG hi)
    rcases qA v hi with ⟨g1,g2⟩|⟨g1,g2,_⟩|⟨g1,g2,g3⟩
    ·exact absurd (g2.symm.trans this) g1
    ·exact⟨nD.1 g2,tP.1 g1⟩
    ·rw[g3]at this;simp at this
   obtain⟨bs,hbs⟩:=tZ bI (fun b=>0≤b.1∧0≤b.2) (fun b hh=>⟨(b.1.toNat,b.2.toNat),by
    obtain⟨b1,b2⟩:=b
    simp only[bI,Prod.mk.injEq]at hh ⊢
    omega⟩) v.bs fun b hm=>⟨(hb' b hm).1.1,(hb' b hm).2.1.1⟩
   obtain⟨ps,hps⟩:=tZ pI (fun p=>0≤p.1∧0≤p.2.1∧0≤p.2.2) (fun p hh=>⟨(p.1.toNat,p.2.1.toNat,p.2.2.toNat),by
    obtain⟨p1,p2,p3⟩:=p
    simp only[pI,Prod.mk.injEq]at hh ⊢
    omega⟩) v.ps fun p hm=>⟨(hp' p hm).1.1,(hp' p hm).2.1.1,(hp' p hm).2.2.1.1⟩
   obtain⟨f,hf⟩:∃ f:Nat,v.F=f:=⟨v.F.toNat,by omega⟩
   have hA:v.A=((2^f-1:Nat):Int):=by
    unfold Va.A
    rw[hf]
    simp only[Int.toNat_natCast]
    have e:(2:Int)^f=((2^f:Nat):Int):=by norm_cast
    have:=Nat.two_pow_pos f
    rw[e];omega
   rcases aAo v with ⟨h1,hs⟩|⟨h1,h2,hs⟩|⟨h1,h2,h3,hs⟩|⟨h1,h2,h3,hs⟩
   ·rw[hs]at h;simp at h
   ·rw[hs]at h;simp at h
   ·rw[hs]at h;simp at h
   have g1:=nD.1 h1
   have g2:=nD.1 h2
   have g3:=nD.1 h3
   rw[hA]at g1 g2 g3
   have:=Nat.two_pow_pos f
   refine⟨⟨f,bs,ps,v.sick.toNat,v.nur.toNat,v.fix.toNat⟩,⟨by show 1≤f;omega,by show f≤16;omega,?_,?_,?_,?_,by show v.sick.toNat<2^f;omega,by show v.nur.toNat<2^f;omega,by show v.fix.toNat<2^f;omega⟩,?_⟩
   ·have:=congrArg List.length hbs
    simp only[List.length_map]at this
    show bs.length≤60
    omega
   ·have:=congrArg List.length hps
    simp only[List.length_map]at this
    show ps.length≤20
    omega
   ·intro b hm
    have:=hb' (bI b) (by rw[←hbs];exact List.mem_map_of_mem hm)
    rw[hf]at this
    simp only[bI]at this
    show b.1<f∧b.2<f∧b.1≠b.2
    omega
   ·intro p hm
    have:=hp' (pI p) (by rw[←hps];exact List.mem_map_of_mem hm)
    rw[hf]at this
    simp only[pI]at this
    show p.1≤100∧p.2.1<f∧p.2.2<f∧p.2.1≠p.2.2
    omega
   ·obtain⟨F,vb,vp,s,n,x⟩:=v
    simp only[Vn.v]at *
    rw[hbs,hps,hf]
    simp only[Va.mk.injEq,true_and]
    omega
  ·rw[if_neg hp]at h;exact absurd h hp
 ·rw[if_neg hb]at h;exact absurd h hb
abbrev Vn.c (x:Vn):List AV:=[I x.F,rB (x.bs.map bI),rP (x.ps.map pI),I x.sick,I x.nur,I x.fix]
def lE (s:Nat) (c:Bool) (k:Nat):Nat:=if c then s|||2^k else s
def yH (ill o:Nat) (b:Nat×Nat):Nat:=lE (lE o (ill.testBit b.1) b.2) (ill.testBit b.2) b.1
def wU (cl:Nat) (n:Int) (o:Nat) (p:Nat×Nat×Nat):Nat:=lE o (decide ((p.1:Int)=n)&&(o.testBit p.2.1 && !cl.testBit p.2.2)) p.2.2
def bor (x:Vn) (ill:Nat):Nat:=x.bs.foldl (yH ill) ill
def aDp (x:Vn) (ill cl:Nat) (n:Int):Nat:=x.ps.foldl (wU cl n) (jP (bor x ill) cl)
theorem mM {s k n:Nat} {c:Bool} (hs:s<2^n) (hk:k<n):lE s c k<2^n:=by
 unfold lE
 split
 ·exact vD hs hk
 ·exact hs
theorem aJR {ill o n:Nat} {b:Nat×Nat} (ho:o<2^n) (h1:b.1<n) (h2:b.2<n):yH ill o b<2^n:=mM (mM ho h2) h1
theorem qK {α:Type} {f:Nat→α→Nat} {n:Nat}:∀ {l:List α} {o:Nat},(∀ x∈l,∀ o,o<2^n→f o x<2^n)→o<2^n→l.foldl f o<2^n
 | [],_,_,h=>h
 | x::l,o,hf,h=>qK (l:=l) (o:=f o x) (fun y hy=>hf y (by simp[hy])) (hf x (by simp) o h)
theorem gF {α β:Type} {f:β→α→β} {l:List α} {i:Nat} {x:α} (h:l[i]?=some x) (o:β):(l.take (i+1)).foldl f o=f ((l.take i).foldl f o) x:=by
 rw[List.take_add_one,h];simp
theorem aZ {n:Nat} (h:n≤16):2^n≤65536:=Nat.pow_le_pow_right (n:=2) (by omega) h
section
variable {x:Vn} (ok:x.Ok) {ill cl:Nat} {n:Int}
abbrev bx8 (x:Vn):XH:=[some (.blk true (.cells true x.c))]
def bF (x:Vn) (ill i:Nat):Nat:=(x.bs.take i).foldl (yH ill) ill
include ok in
theorem aGs (hi:ill<2^x.F) (i:Nat):bF x ill i<2^x.F:=qK (fun b hb o ho=>by
 have:=ok.b b (List.mem_of_mem_take hb)
 exact aJR ho this.1 this.2.1) hi
include ok in
def pF (x:Vn) (cl:Nat) (n:Int) (o i:Nat):Nat:=(x.ps.take i).foldl (wU cl n) o
include ok in
theorem aID {o:Nat} (ho:o<2^x.F) (i:Nat):pF x cl n o i<2^x.F:=qK (fun p hp o ho=>by
 have:=ok.p p (List.mem_of_mem_take hp)
 exact mM ho this.2.2.1) ho
include ok in
end
def yC (a i:Nat):List Nat:=(List.range i).filter (a.testBit ·)
theorem aFW (a i:Nat):yC a (i+1)=if a.testBit i then yC a i++[i] else yC a i:=by
 unfold yC
 rw[List.range_succ,List.filter_append]
 cases h:a.testBit i<;>simp[h]
theorem aIg (a i:Nat):(yC a i).length≤i:=by
 have:=List.length_filter_le (fun k=>a.testBit k) (List.range i)
 simpa [yC]using this
theorem zL (ks:List Nat) (k:Nat):dB (ks++[k])=dB ks++[(k:Int)]:=by simp[dB]
def bA (x:Vn) (cl:Nat):Nat→Nat
 | 0=>jP x.sick cl
 | n+1=>aDp x (bA x cl n) cl (n:Int)
theorem zS {a b n:Nat} (h:a<2^n):jP a b<2^n:=Nat.lt_of_le_of_lt (iS a b) h
theorem aGa {a:Nat} (h:a<65536):jP a 0=a:=by
 apply Nat.eq_of_testBit_eq
 intro i
 rw[bU (by omega),Nat.zero_testBit]
 by_cases hi:i<64
 ·simp[hi]
 ·rw[pD (n:=64) (by omega) (by omega)];rfl
theorem aGX {x:Vn} (ok:x.Ok) {ill cl:Nat} {n:Int} (h:ill<2^x.F):aDp x ill cl n<2^x.F:=by
 have h1:=aGs ok h x.bs.length
 have e1:bF x ill x.bs.length=bor x ill:=by unfold bF bor;rw[List.take_length]
 rw[e1]at h1
 have h2:=aID (cl:=cl) (n:=n) ok (zS (b:=cl) h1) x.ps.length
 unfold pF at h2
 rw[List.take_length]at h2
 exact h2
theorem dL {x:Vn} (ok:x.Ok) (cl:Nat):∀ n,bA x cl n<2^x.F
 | 0=>zS ok.s
 | n+1=>aGX ok (dL ok cl n)
theorem aKJ {x:Vn} (ok:x.Ok) {a:Nat} (h:a<2^x.F):a<65536:=Nat.lt_of_lt_of_le h (aZ ok.F16)
def isE (v:Va) (s:Int):Int:=if vE v=0 then (if btw 0 s 100 then 0 else 2) else vE v
def prC (c:List Int):Nat→Int
 | 0 => -1
 | i+1=>c.getD i 0
section
variable {x:Vn} (ok:x.Ok) {c:List Int} (hc:c.length<1000000000)
include ok hc in
end
section
variable {x:Vn} (ok:x.Ok) {c:List Int} (hc:c.length<1000000000)
include ok hc in
end
abbrev tE (L:List (Nat×Nat)):List (AV×AV):=L.map fun p=>(.nilifc,.agg [I p.1,I p.2])
abbrev chO (L:List (Nat×Nat)):Option XB:=some (.blk true (.map true ((.agg [.agg []],.fp [] 16 0)::tE L)))
abbrev gS (L:List (Nat×Nat)):XH:=[some (.loop 77 0 [.pt 1 0] .ready),some (.blk false (.cells true [.ch 2])),chO L]
theorem aKR (L:List (Nat×Nat)):aDU 3 (gS L):=by
 refine⟨fun _=>rfl,fun _ _=>rfl,fun _=>rfl,?_,?_⟩
 ·intro a e h0 h1
  (sym=>(simp[Xb,Xf,Xv,Xz,WA,WF,WH,WJ,WL,WM,WN,WO,WP,WV,WW,WX,WY,Vb,Vc,Vd,Ve,VO,VP,VW,VX,VY,VZ,Ua,Ub,Uc,Uu,Uz,U0,U1,U2,U3,Ty,SY,Ra,h0,h1];all_goals tactic=>exact rfl))
 ·intro a
  (sym=>(simp[Za,YY,Xb,Xs,Xv,XK,Wf,WA,WF,WH,WJ,WL,WM,WN,WO,WP,WV,WW,WX,WY,Vb,Vc,Vd,Ve,Vs,V9,VA,VB,VW,VX,VY,VZ,Ua,Ub,Uc,Uu,Uz,U0,U1,U2,U3,U6,UA,Sl,SY,Ra];all_goals tactic=>exact rfl))
theorem yS (v:Nat) (L:List (Nat×Nat)) (hl:L.length<16):Yd (gS L) (gS (L++[(v,0)])) v true:=by
 have b1:(L.length<16)=True:=eq_true hl
 have y:runYW aA (.fn (.yield 0) [] []) [I (v:Nat)] (gS L)=some (.bool true,gS (L++[(v,0)])):=by
  rw[iI (K:=77) (d:=x77) (site:=0) (vs:=[.pt 1 0]) rfl rfl (by rfl) rfl]
  (sym=>(simp[Za,Zb,Zc,Zd,Ze,Zf,Zh,Zl,Zm,Zv,Z0,ZG,ZK,Y9,YQ,YV,Xb,Xg,Xi,Xq,Xv,Wo,Wx,Wy,Wz,W0,W3,W5,W6,W9,WA,WF,WH,WJ,WL,WM,WN,WO,WP,WV,WW,WX,WY,Vb,Vc,Vd,Ve,V8,VB,VN,VW,VX,VY,VZ,Ua,Ub,Uc,Ud,Ue,Uf,Uj,Ur,Uu,Uz,U0,U1,U2,U3,U4,U5,UC,UD,UE,UF,UJ,UK,UY,UZ,Td,Tr,Tv,Tz,T0,T9,TR,TS,TT,TU,Sc,Sd,Se,Sf,SE,SK,SL,SY,Ra,b1];all_goals tactic=>exact rfl))
 intro a
 (sym=>(simp[Zd,Ze,Y9,YU,Xb,Xf,Xp,Xq,Xv,Xz,Wx,W0,W5,W6,W9,WA,WB,WC,WE,WG,WH,WI,WJ,WK,WM,WN,WR,WS,WT,WV,WW,WX,WY,Vc,Vd,Ve,Vf,Vg,Vh,Vi,VW,VX,VY,VZ,Ua,Ud,Ue,Uh,Uu,Uz,U0,U1,U2,U3,T9,Sb,SY,Ra,y];all_goals tactic=>exact rfl))
theorem aKK {D:Nat→Option XFn} {K k:Nat} {rd:Option Nat} {L:List Nat} {a:XCode} {e:aH} {h:XH}:execW D K k rd (.loop L a) e h=oA (execW D K k rd a (aU L (zZ k L e h)) (nA k L e h)) (execW D K k rd (.loop L a)):=iB
section
variable {x:Vn} (ok:x.Ok) {ill cl:Nat} {L:List (Nat×Nat)} {sn n:Int}
abbrev h77 (x:Vn) (L:List (Nat×Nat)) (n:Int):XH:=[chO L,some (.blk true (.cells true x.c)),some (.blk false (.cells true [.ch 0])),some (.blk true (.cells true [I n]))]
include ok in
theorem aEH (hill:ill<2^x.F) {i:Nat} (hi:i<x.bs.length) :
 aV 1 [1,4,7,8,10,11,30,31,36,37,38] (execW aA 77 1 none (match aCm with | .loop _ a=>a|c=>c) (aU [1,4,7,8,10,11,30,31,36,37,38] [I cl,.pt 1 0,.pt 2 0,I (bF x ill i:Nat),.pt 3 0,I ill,I sn,I n,rB (x.bs.map bI),I x.bs.length,I (i:Nat)]) (h77 x L n)) =
  some ([I cl,.pt 1 0,.pt 2 0,I (bF x ill (i+1):Nat),.pt 3 0,I ill,I sn,I n,rB (x.bs.map bI),I x.bs.length,I (i+1:Nat)],h77 x L n):=by
 obtain⟨b,hx⟩:=bZ hi
 have hb:=ok.b b (List.mem_of_getElem? hx)
 have hF:=ok.F16
 have hp:=aZ hF
 have a1:=dP hi
 have a2:=fD hi (by have:=ok.nb;omega)
 have l0:=aGs ok hill i
 have up:bF x ill (i+1)=yH ill (bF x ill i) b:=gF hx ill
 rw[up]
 generalize bF x ill i=o at *
 have e1:=pG (a:=ill) (j:=b.1) (by omega) (by omega)
 have e2:=pG (a:=ill) (j:=b.2) (by omega) (by omega)
 have s1:=w62 (j:=b.1) (by omega)
 have s2:=w62 (j:=b.2) (by omega)
 have p1:(2:Nat)^b.1≤2^16:=Nat.pow_le_pow_right (by omega) (by omega)
 have p2:(2:Nat)^b.2≤2^16:=Nat.pow_le_pow_right (by omega) (by omega)
 have o1:=cN bW (a:=o) (b:=2^b.2) (by omega) (by omega)
 have o1':=vD (a:=o) (i:=b.2) (n:=x.F) (by omega) hb.2.1
 have o2:=cN bW (a:=o|||2^b.2) (b:=2^b.1) (by omega) (by omega)
 have o3:=cN bW (a:=o) (b:=2^b.1) (by omega) (by omega)
 unfold yH lE
 generalize 2^b.1=q1 at *
 generalize 2^b.2=q2 at *
 cases h1:ill.testBit b.1<;>cases h2:ill.testBit b.2
 all_goals
  rw[h1]at e1
  rw[h2]at e2
  unfold aCm aIz
  dsimp only
  (sym=>(simp[Za,Zb,Zc,Zd,Ze,Zf,Zg,Zh,Zj,Zl,Zm,Zv,Zw,Z3,Z9,ZA,ZB,ZG,ZK,ZL,ZO,ZP,ZT,ZU,Yg,Yh,Yj,Yk,Yn,Ys,Yw,Yx,Yy,Yz,Y0,Y8,YA,YD,YO,YR,YU,YX,YZ,Xb,Xg,Xp,Xq,Xr,Xt,Xv,X0,Wc,Wq,Wx,Wy,Wz,W0,W3,W4,W5,W6,W9,WA,WB,WE,WF,WH,WI,WJ,WK,WL,WM,WN,WO,WP,WQ,WR,WS,WV,WW,WX,Vb,Vc,Vd,Vf,Vg,Vh,Vs,Vu,Vv,Vw,VN,VO,VP,VQ,VR,VS,VV,VW,VX,VY,VZ,Ua,Ub,Uc,Ud,Ue,Uf,Ug,Uh,Uj,Ur,Uu,Uv,Uw,Uz,U0,U1,U2,U3,U4,U5,UC,UY,UZ,Ta,Tb,Tc,Td,Te,Tf,Tl,Tm,Tp,Tq,Tr,Ts,Tt,Tv,Tx,Ty,Tz,T0,Sl,S4,S5,S7,S8,S9,SA,SY,Ra,a1,a2,hx,e1,e2,s1,s2,o1,o2,o3,aKK];all_goals tactic=>exact rfl))
end
theorem aIh {k cl:Nat} (hk:k<16) (hc:cl<65536):jP (2^k) cl=if cl.testBit k then 0 else 2^k:=by
 apply Nat.eq_of_testBit_eq
 intro i
 rw[bU (by omega),Nat.testBit_two_pow]
 by_cases hi:k=i
 ·subst hi
  cases h:cl.testBit k
  ·simp[Nat.testBit_two_pow];omega
  ·simp
 ·cases h:cl.testBit k
  ·simp[Nat.testBit_two_pow,hi]
  ·simp[hi]
section
variable {x:Vn} (ok:x.Ok) {ill cl:Nat} {L:List (Nat×Nat)} {sn n:Int}
include ok in
theorem aEG {o0:Nat} (ho:o0<2^x.F) (hcl:cl<2^x.F) {i:Nat} (hi:i<x.ps.length) :
 aV 1 [1,4,7,8,10,11,30,31,63,64,65] (execW aA 77 1 none (match xB with | .loop _ a=>a|c=>c) (aU [1,4,7,8,10,11,30,31,63,64,65] [I cl,.pt 1 0,.pt 2 0,I (pF x cl n o0 i:Nat),.pt 3 0,I ill,I sn,I n,rP (x.ps.map pI),I x.ps.length,I (i:Nat)]) (h77 x L n)) =
  some ([I cl,.pt 1 0,.pt 2 0,I (pF x cl n o0 (i+1):Nat),.pt 3 0,I ill,I sn,I n,rP (x.ps.map pI),I x.ps.length,I (i+1:Nat)],h77 x L n):=by
 obtain⟨p,hx⟩:=bZ hi
 have hb:=ok.p p (List.mem_of_getElem? hx)
 have hF:=ok.F16
 have hp:=aZ hF
 have a1:=dP hi
 have a2:=fD hi (by have:=ok.np;omega)
 have l0:=aID (cl:=cl) (n:=n) ok ho i
 have up:pF x cl n o0 (i+1)=wU cl n (pF x cl n o0 i) p:=gF hx o0
 rw[up]
 generalize pF x cl n o0 i=o at *
 have e1:=pG (a:=o) (j:=p.2.1) (by omega) (by omega)
 have s1:=w62 (j:=p.2.2) (by omega)
 have p1:(2:Nat)^p.2.2≤2^16:=Nat.pow_le_pow_right (by omega) (by omega)
 have d0:=aIh (k:=p.2.2) (cl:=cl) (by omega) (by omega)
 have d1:=kW bW (a:=2^p.2.2) (b:=cl) (by omega) (by omega)
 rw[d0]at d1
 have o1:=cN bW (a:=o) (b:=2^p.2.2) (by omega) (by omega)
 have o2:=cN bW (a:=o) (b:=0) (by omega) (by omega)
 rw[Nat.or_zero]at o2
 have o2:bV .or .i64 (o:Int) 0=(o:Int):=o2
 unfold wU lE
 generalize 2^p.2.2=q1 at *
 by_cases hn:(p.1:Int)=n
 ·have c1:((p.1:Int)=n)=True:=eq_true hn
  have g1:decide ((p.1:Int)=n)=true:=decide_eq_true hn
  rw[g1]
  cases h1:o.testBit p.2.1
  ·rw[h1]at e1
   unfold xB
   dsimp only
   (sym=>(simp[Za,Zb,Zc,Zd,Ze,Zf,Zg,Zh,Zj,Zl,Zm,Zp,Zq,Zv,Zw,Zy,Z3,Z8,ZA,ZG,ZK,ZL,ZO,ZP,ZT,ZU,ZV,Yb,Yg,Yh,Yj,Yq,Ys,Yw,Yx,YU,YZ,Xb,Xg,Xp,Xq,Xt,Xv,Wq,Wx,Wy,Wz,W0,W3,W4,W5,W6,W9,WA,WB,WE,WF,WH,WI,WJ,WK,WL,WM,WN,WO,WP,WQ,WR,WS,WV,WW,WX,Vb,Vc,Vd,Vf,Vg,Vh,Vs,Vu,Vv,Vx,Vy,V0,VN,VO,VP,VQ,VR,VS,VV,VW,VX,VY,VZ,Ua,Ub,Uc,Ud,Ue,Uf,Ug,Uh,Uj,Uk,Ul,Ur,Uu,Uv,Uz,U0,U1,U2,U3,U4,U5,UC,UY,UZ,Ta,Tb,Tc,Td,Te,Tf,Tl,Tm,Tp,Tr,Ts,Tv,Ty,Tz,T0,S4,S5,S6,S8,S9,SA,SY,Ra,a1,a2,hx,e1,c1];all_goals tactic=>exact rfl))
  ·rw[h1]at e1
   cases h2:cl.testBit p.2.2
   all_goals
    rw[h2]at d1
    unfold xB
    dsimp only
    (sym=>(simp[Za,Zb,Zc,Zd,Ze,Zf,Zg,Zh,Zj,Zl,Zm,Zp,Zq,Zv,Zw,Zy,Z3,Z8,ZA,ZG,ZK,ZL,ZO,ZP,ZT,ZU,ZV,Yb,Yg,Yh,Yj,Yn,Yq,Ys,Yw,Yx,Y9,YU,YZ,Xb,Xg,Xp,Xq,Xt,Xv,Wq,Wx,Wy,Wz,W0,W3,W4,W5,W6,W9,WA,WB,WE,WF,WH,WI,WJ,WK,WL,WM,WN,WO,WP,WQ,WR,WS,WV,WW,WX,Vb,Vc,Vd,Vf,Vg,Vh,Vs,Vu,Vv,Vx,Vy,V0,VN,VO,VP,VQ,VR,VV,VW,VX,VY,VZ,Ua,Ub,Uc,Ud,Ue,Uf,Ug,Uh,Uj,Ul,Um,Un,Ur,Uu,Uv,Uz,U0,U1,U2,U3,U4,U5,UC,UY,UZ,Ta,Tb,Tc,Td,Te,Tf,Tl,Tm,Tp,Tr,Ts,Tv,Ty,Tz,T0,S3,S4,S5,S6,S8,S9,SA,SY,Ra,a1,a2,hx,e1,c1,s1,d1,o1,o2];all_goals tactic=>exact rfl))
 ·have c1:((p.1:Int)=n)=False:=eq_false hn
  have g1:decide ((p.1:Int)=n)=false:=decide_eq_false hn
  rw[g1]
  unfold xB
  dsimp only
  (sym=>(simp[Za,Zb,Zc,Zd,Ze,Zf,Zg,Zh,Zj,Zl,Zm,Zp,Zs,Zv,Zw,Zy,Z3,Z8,ZA,ZG,ZK,ZL,ZW,Yb,Yg,Yh,Yj,Yq,Ys,Yw,Yx,YU,YZ,Xb,Xg,Xp,Xt,Xv,Wq,Wx,Wy,Wz,W0,W3,W4,W5,W6,W9,WA,WB,WE,WF,WH,WI,WJ,WL,WN,WO,WP,WQ,WV,WW,WX,Vb,Vc,Vd,Vs,Vu,Vv,Vx,Vy,V0,VN,VO,VP,VQ,VR,VS,VV,VW,VX,VY,VZ,Ua,Ub,Uc,Ud,Ue,Uf,Ug,Uh,Uj,Uk,Ur,Uu,Uv,Uw,U0,U1,U2,U3,U4,U5,UC,UY,UZ,Ta,Tb,Tc,Td,Te,Tf,Tl,Tm,Tp,Tr,Ts,Tv,Ty,Tz,T0,S4,S5,S6,S8,S9,SA,SY,Ra,a1,a2,hx,c1];all_goals tactic=>exact rfl))
end
abbrev gT (n:Nat) (L:List (Nat×Nat)):XH:=[some (.loop 77 1 [.pt 1 0,.pt 3 0] .ready),some (.blk false (.cells true [.ch 2])),chO L,some (.blk true (.cells true [I n]))]
theorem aKQ (n:Nat) (L:List (Nat×Nat)):aDU 4 (gT n L):=by
 refine⟨fun _=>rfl,fun _ _=>rfl,fun _=>rfl,?_,?_⟩
 ·intro a e h0 h1
  (sym=>(simp[Xb,Xf,Xv,Xz,WA,WF,WH,WJ,WL,WM,WN,WO,WP,WV,WW,WX,WY,Vb,Vc,Vd,Ve,VO,VP,VW,VX,VY,VZ,Ua,Ub,Uc,Uu,Uz,U0,U1,U2,U3,Ty,SY,Ra,h0,h1];all_goals tactic=>exact rfl))
 ·intro a
  (sym=>(simp[Za,YY,Xb,Xs,Xv,XK,Wf,WA,WF,WH,WJ,WL,WM,WN,WO,WP,WV,WW,WX,WY,Vb,Vc,Vd,Ve,Vs,V9,VA,VB,VW,VX,VY,VZ,Ua,Ub,Uc,Uu,Uz,U0,U1,U2,U3,U6,UA,Sl,SY,Ra];all_goals tactic=>exact rfl))
theorem yT (v n:Nat) (L:List (Nat×Nat)) (hl:L.length<16) (hn:n≤1000):Yd (gT n L) (gT n (L++[(v,n+1)])) v true:=by
 have b1:(L.length<16)=True:=eq_true hl
 have a2:IntKind.i64.wrap ((n:Int)+1)=(n:Int)+1:=aD (by omega) (by omega)
 have y:runYW aA (.fn (.yield 0) [] []) [I (v:Nat)] (gT n L)=some (.bool true,gT n (L++[(v,n+1)])):=by
  rw[iI (K:=77) (d:=x77) (site:=1) (vs:=[.pt 1 0,.pt 3 0]) rfl rfl (by rfl) rfl]
  (sym=>(simp[Za,Zb,Zc,Zd,Ze,Zf,Zh,Zl,Zm,Zv,Z0,Z3,ZG,ZK,Yj,YQ,YV,Xb,Xg,Xi,Xq,Xv,Wo,Wx,Wy,Wz,W0,W3,W5,W6,W9,WA,WF,WH,WJ,WL,WM,WN,WO,WP,WV,WW,WX,WY,Vb,Vc,Vd,Ve,V8,VB,VN,VW,VX,VY,VZ,Ua,Ub,Uc,Ud,Ue,Uf,Uj,Ur,Uu,Uz,U0,U1,U2,U3,U4,U5,UC,UD,UE,UF,UJ,UK,UY,UZ,Td,Tl,Tr,Tv,Tz,T0,T9,TR,TS,TT,TU,Sc,Sd,Se,Sf,SE,SK,SL,SY,Ra,b1,a2];all_goals tactic=>exact rfl))
 intro a
 (sym=>(simp[Zd,Ze,YU,Xb,Xf,Xp,Xq,Xv,Xz,Wx,W0,W5,W6,W9,WA,WB,WC,WE,WG,WH,WI,WJ,WK,WM,WN,WR,WS,WT,WV,WW,WX,WY,Vc,Vd,Ve,Vf,Vg,Vh,Vi,VW,VX,VY,VZ,Ua,Ud,Ue,Uh,Uu,Uz,U0,U1,U2,U3,T9,Sb,SY,Ra,y];all_goals tactic=>exact rfl))
theorem rX {p q:Nat→Bool} (h:∀ k,p k=true→q k=false):∀ l:List Nat,(l.filter fun k=>p k||q k).length=(l.filter p).length+(l.filter q).length
 | []=>rfl
 | k::l=>by
   have ih:=rX h l
   simp only[List.filter_cons]
   cases hp:p k
   ·cases hq:q k
    ·simpa using ih
    ·simp only[Bool.false_or,if_true,Bool.false_eq_true,if_false,List.length_cons];omega
   ·have hq:=h k hp
    rw[hq]
    simp only[Bool.true_or,if_true,Bool.false_eq_true,if_false,List.length_cons];omega
def kA (x:Vn) (cl:Nat):Nat→List (Nat×Nat)
 | 0=>(el (bA x cl 0)).map fun k=>(k,0)
 | n+1=>kA x cl n++(el (jP (bA x cl (n+1)) (bA x cl n))).map fun k=>(k,n+1)
theorem tQ (s k i:Nat) (c:Bool):(lE s c k).testBit i=(s.testBit i||(c&&decide (k=i))):=by
 unfold lE
 cases c
 ·simp
 ·rw[if_pos rfl,dN];simp
theorem vQ {α:Type} {f:Nat→α→Nat} (hf:∀ o x i,o.testBit i=true→(f o x).testBit i=true):∀ (l:List α) (o i:Nat),o.testBit i=true→(l.foldl f o).testBit i=true
 | [],_,_,h=>h
 | x::l,o,i,h=>vQ hf l (f o x) i (hf o x i h)
theorem aIo {ill:Nat} (o:Nat) (b:Nat×Nat) (i:Nat) (h:o.testBit i=true):(yH ill o b).testBit i=true:=by
 unfold yH
 rw[tQ,tQ,h];simp
theorem aHB {cl:Nat} {n:Int} (o:Nat) (p:Nat×Nat×Nat) (i:Nat) (h:o.testBit i=true):(wU cl n o p).testBit i=true:=by
 unfold wU
 rw[tQ,h];simp
theorem vO {x:Vn} (ok:x.Ok) {cl:Nat} (hcl:cl<2^x.F):∀ n i,(bA x cl n).testBit i=true→(bA x cl (n+1)).testBit i=true:=by
 have hp:=aZ ok.F16
 have dj:∀ n i,(bA x cl n).testBit i=true→cl.testBit i=false:=by
  intro n
  induction n with
  | zero =>
    intro i hi
    unfold bA at hi
    rw[bU (by omega)]at hi
    simp only[Bool.and_eq_true,Bool.not_eq_true']at hi
    exact hi.2.2
  | succ n ih =>
    intro i hi
    rw[bA,aDp]at hi
    have main:∀ (l:List (Nat×Nat×Nat)) (o:Nat),(∀ i,o.testBit i=true→cl.testBit i=false)→∀ i,(l.foldl (wU cl (n:Int)) o).testBit i=true→cl.testBit i=false:=by
     intro l
     induction l with
     | nil=>exact fun o h=>h
     | cons p l ihl =>
       intro o h
       refine ihl (wU cl n o p) fun i hi=>?_
       unfold wU at hi
       rw[tQ,Bool.or_eq_true]at hi
       rcases hi with hi|hi
       ·exact h i hi
       ·simp only[Bool.and_eq_true,Bool.not_eq_true',decide_eq_true_eq]at hi
        rw[←hi.2];exact hi.1.2.2
    refine main x.ps _ (fun i hi=>?_) i hi
    rw[bU (by omega)]at hi
    simp only[Bool.and_eq_true,Bool.not_eq_true']at hi
    exact hi.2.2
 intro n i hi
 rw[bA,aDp]
 refine vQ aHB _ _ _ ?_
 have hlt:=pD (dL ok cl n) (i:=i)
 have hi64:i<64:=by
  by_cases h:i<64
  ·exact h
  ·rw[hlt (by have:=ok.F16;omega)]at hi;simp at hi
 rw[bU (by omega),dj n i hi]
 have:(bor x (bA x cl n)).testBit i=true:=vQ aIo _ _ _ hi
 simp[this,hi64]
theorem aCR {x:Vn} (ok:x.Ok) {cl:Nat} (hcl:cl<2^x.F):∀ n,(kA x cl n).length=(el (bA x cl n)).length
 | 0=>by simp[kA]
 | n+1=>by
   have hp:=aZ ok.F16
   have hl:=dL ok cl n
   rw[kA,List.length_append,List.length_map,aCR ok hcl n]
   have e:el (bA x cl (n+1))=(List.range 16).filter fun k=>(bA x cl n).testBit k||(jP (bA x cl (n+1)) (bA x cl n)).testBit k:=by
    unfold el
    refine List.filter_congr fun k hk=>?_
    rw[List.mem_range]at hk
    rw[bU (by omega)]
    cases h:(bA x cl n).testBit k
    ·cases (bA x cl (n+1)).testBit k<;>simp;omega
    ·rw[vO ok hcl n k h];rfl
   rw[e,rX]
   ·rfl
   ·intro k hk
    rw[bU (by omega),hk];simp
theorem aJB {x:Vn} (ok:x.Ok) {cl:Nat} (hcl:cl<2^x.F) (n:Nat):(kA x cl n).length≤16:=by
 rw[aCR ok hcl];exact rZ _
theorem aKY {a n:Nat} {L:List (Nat×Nat)} (ha:a<65536) (hn:n≤1000) (hl:L.length+(el a).length≤16) :
 runW aA 86 [.fn (.yield 0) [] [],.pt 4 0] (gT n L++[cI a])=some (.tup [],gT n (L++(el a).map fun k=>(k,n+1))++[cI 0]):=by
 have e:=qL (n:=4) (G:=fun i=>gT n (L++((el a).take i).map fun k=>(k,n+1))) ha (fun i _=>aKQ n _) (by
  intro i v hv
  have h1:=yT v n (L++((el a).take i).map fun k=>(k,n+1)) (by have:=fG hv;simp;omega) hn
  have e1:(L++((el a).take i).map fun k=>(k,n+1))++[(v,n+1)]=L++((el a).take (i+1)).map fun k=>(k,n+1):=by
   rw[List.take_add_one,hv];simp
  rw[e1]at h1
  exact h1)
 rw[List.take_length]at e
 simpa using e
theorem aKZ {a:Nat} (ha:a<65536):runW aA 86 [.fn (.yield 0) [] [],.pt 3 0] (gS []++[cI a])=some (.tup [],gS ((el a).map fun k=>(k,0))++[cI 0]):=by
 have hl:=rZ a
 have e:=qL (n:=3) (G:=fun i=>gS (((el a).take i).map fun k=>(k,0))) ha (fun i _=>aKR _) (by
  intro i v hv
  have h1:=yS v (((el a).take i).map fun k=>(k,0)) (by have:=fG hv;simp;omega)
  have e1:(((el a).take i).map fun k=>(k,0))++[(v,0)]=((el a).take (i+1)).map fun k=>(k,0):=by
   rw[List.take_add_one,hv];simp
  rw[e1]at h1
  exact h1)
 rw[List.take_length]at e
 simpa using e
abbrev g77 (x:Vn) (L:List (Nat×Nat)):XH:=[chO L,some (.blk true (.cells true x.c)),some (.blk false (.cells true [.ch 0]))]
theorem aHg {x:Vn} (ok:x.Ok) {cl:Nat} (hcl:cl<2^x.F) {sn:Int} {n:Nat} (hn:n≤1000) (hs:(n:Int)<sn) :
 aV 1 [1,4,7,8,30,31] (execW aA 77 1 none (match aCl with | .loop _ a=>a|c=>c) (aU [1,4,7,8,30,31] [I cl,.pt 1 0,.pt 2 0,I (bA x cl n:Nat),I sn,I (n:Nat)]) (g77 x (kA x cl n))) =
  some ([I cl,.pt 1 0,.pt 2 0,I (bA x cl (n+1):Nat),I sn,I (n+1:Nat)],g77 x (kA x cl (n+1))):=by
 have hp:=aZ ok.F16
 have hi:=dL ok cl n
 have hi2:=dL ok cl (n+1)
 have c1:((n:Int)<sn)=True:=eq_true hs
 have a2:IntKind.i64.wrap ((n:Int)+1)=(n:Int)+1:=aD (by omega) (by omega)
 have lb:=aGs ok hi x.bs.length
 have eb:bF x (bA x cl n) x.bs.length=bor x (bA x cl n):=by unfold bF bor;rw[List.take_length]
 rw[eb]at lb
 have d1:=kW bW (a:=bor x (bA x cl n)) (b:=cl) (by omega) (by omega)
 have dl:=iS (bor x (bA x cl n)) cl
 have ep:pF x cl (n:Int) (jP (bor x (bA x cl n)) cl) x.ps.length=bA x cl (n+1):=by unfold pF;rw[List.take_length];rfl
 have z:=UX (n:=(x.bs.length:Int))
 have z2:=UX (n:=(x.ps.length:Int))
 have d2:=kW bW (a:=bA x cl (n+1)) (b:=bA x cl n) (by omega) (by omega)
 have dl2:=iS (bA x cl (n+1)) (bA x cl n)
 have w8:=w80 (a:=jP (bA x cl (n+1)) (bA x cl n))
 have e86:=aKY (a:=jP (bA x cl (n+1)) (bA x cl n)) (n:=n) (L:=kA x cl n) (by omega) hn (by
  have:=aJB ok hcl (n+1)
  rw[kA,List.length_append,List.length_map]at this
  exact this)
 rw[show kA x cl n++(el (jP (bA x cl (n+1)) (bA x cl n))).map (fun k=>(k,n+1))=kA x cl (n+1) from rfl]at e86
 have e86:runW aA 86 [.fn (.yield 0) [] [],.pt 4 0] [some (.loop 77 1 [.pt 1 0,.pt 3 0] .ready),some (.blk false (.cells true [.ch 2])),chO (kA x cl n),some (.blk true (.cells true [I n])),cI (jP (bA x cl (n+1)) (bA x cl n))] =
  some (.tup [],[some (.loop 77 1 [.pt 1 0,.pt 3 0] .ready),some (.blk false (.cells true [.ch 2])),chO (kA x cl (n+1)),some (.blk true (.cells true [I n])),some (.blk true (.cells true [.int .i64 0]))]):=e86
 have rb:=fun i hh=>aEG (L:=kA x cl n) (ill:=bA x cl n) (sn:=sn) (n:=(n:Int)) ok (o0:=jP (bor x (bA x cl n)) cl) (by omega) hcl (i:=i) hh
 have ra:=fun i hh=>aEH (L:=kA x cl n) (cl:=cl) (sn:=sn) (n:=(n:Int)) ok hi (i:=i) hh
 unfold aCl
 dsimp only
 sym =>
  simp[Za,Zb,Zc,Zf,Zh,Zl,Zm,Zv,Zw,Z3,Z8,ZF,ZG,ZK,ZL,Yb,Yc,Ys,Xg,Wo,Wx,Wy,Wz,W0,W3,W5,W6,W9,VN,VQ,VR,VY,VZ,Ua,Ud,Ue,Uf,Uj,Ur,Uv,U4,U5,UC,UY,UZ,Td,Te,Tf,Tl,Tm,Tp,Tr,Ts,Tz,T0,c1]
  tactic =>
   unfold aCm
   rw[aF x.bs.length (fun i=>[I cl,.pt 1 0,.pt 2 0,I (bF x (bA x cl n) i:Nat),.pt 3 0,I (bA x cl n:Nat),I sn,I (n:Nat),rB (x.bs.map bI),I x.bs.length,I (i:Nat)]) (fun _=>h77 x (kA x cl n) n)]
   ·rw[eb]
    sym =>
     simp[Za,Zb,Zf,Zh,Zl,Zm,Zv,Z3,Z8,ZF,ZG,Yb,Yc,Ys,Wx,Wy,Wz,W9,VN,VQ,VS,Uf,Uw,UX,UY,UZ,Td,Tl,Tm,Tq,Tr,Ts,Tt,Tx,Tz,T0,S3,z,d1]
     tactic =>
      unfold xB
      rw[aF x.ps.length (fun i=>[I cl,.pt 1 0,.pt 2 0,I (pF x cl (n:Int) (jP (bor x (bA x cl n)) cl) i:Nat),.pt 3 0,I (bA x cl n:Nat),I sn,I (n:Nat),rP (x.ps.map pI),I x.ps.length,I (i:Nat)]) (fun _=>h77 x (kA x cl n) n)]
      ·rw[ep]
       generalize jP (bA x cl (n+1)) (bA x cl n)=df at *
       generalize bA x cl (n+1)=q1 at *
       generalize kA x cl (n+1)=L2 at *
       generalize bA x cl n=q0 at *
       generalize kA x cl n=L1 at *
       (sym=>(simp[Za,Zb,Zf,Zh,Zl,Zm,Zv,Z3,ZO,ZP,ZT,ZU,Yj,Ys,YU,Xb,Xf,Xp,Xs,Xv,Xy,Xz,Wx,W0,W5,W6,W9,WA,WB,WC,WE,WF,WG,WH,WI,WJ,WK,WL,WM,WN,WO,WP,WQ,WR,WS,WT,WV,WW,WX,WY,Vb,Vc,Vd,Ve,Vf,Vg,Vh,Vi,VN,VO,VP,VQ,VS,VW,VX,VY,VZ,Ua,Ub,Uc,Ud,Ue,Uh,Uj,Uu,Uw,Uz,U0,U1,U2,U3,UX,Tl,Tm,Tq,Tr,Ts,Tt,Tv,Tx,Ty,Tz,T0,TR,TS,TV,TW,TX,TY,TZ,Sa,S3,SY,Ra,z2,d2,w8,e86,a2];all_goals tactic=>exact rfl))
      ·(sym=>(simp[Za,Y9,YU,YZ,Xb,Xp,Xt,Xv,Wx,WA,WB,WE,WF,WH,WI,WJ,WL,WN,WO,WP,WQ,WV,WW,WX,Vb,Vc,Vd,VN,VO,VP,VW,VX,VY,VZ,Ua,Ub,Uc,Uh,Uu,U0,U1,U2,U3,Ty,SY,Ra];all_goals tactic=>exact rfl))
      ·exact rb
      ·rw[ep]
       generalize bA x cl (n+1)=q1 at *
       (sym=>(simp[Za,Zb,Zf,Zh,Zl,Zm,Z3,Ys,VN,VQ,VS,VT,Uw,UX,Tl,Tm,Tq,Ts,Tt,Tz,z2];all_goals tactic=>exact rfl))
   ·(sym=>(simp[Za,Y9,YU,YZ,Xb,Xp,Xt,Xv,Wx,WA,WB,WE,WF,WH,WI,WJ,WL,WN,WO,WP,WQ,WV,WW,WX,Vb,Vc,Vd,VN,VO,VP,VW,VX,VY,VZ,Ua,Ub,Uc,Uh,Uu,U0,U1,U2,U3,Ty,SY,Ra];all_goals tactic=>exact rfl))
   ·exact ra
   ·(sym=>(simp[Za,Zb,Zf,Zh,Zl,Zm,Z3,Ys,VN,VQ,VS,VT,Uw,UX,Tl,Tm,Tq,Ts,Tt,Tz,z];all_goals tactic=>exact rfl))
theorem aGw {run:fK} {runY:gP} {l:List DOper} {e:aH} {h:XH}:eE run runY l e h=xo none run runY l e h:=rfl
abbrev chC (L:List (Nat×Nat)):Option XB:=some (.blk true (.map true ((.agg [.agg []],.fp [] 16 1)::tE L)))
theorem w77 {x:Vn} (ok:x.Ok) {cl:Nat} (hcl:cl<2^x.F) {sn:Nat} (hs:sn≤1000):runW aA 77 [.agg x.c,I cl,I sn,.ch 0] [chO []]=some (.tup [],[chC (kA x cl sn)]):=by
 have hp:=aZ ok.F16
 have hi:=dL ok cl 0
 have hk:=ok.s
 have d1:=kW bW (a:=x.sick) (b:=cl) (by omega) (by omega)
 rw[show jP x.sick cl=bA x cl 0 from rfl]at d1
 have w8:=w80 (a:=bA x cl 0)
 have e86:runW aA 86 [.fn (.yield 0) [] [],.pt 3 0] [some (.loop 77 0 [.pt 1 0] .ready),some (.blk false (.cells true [.ch 2])),some (.blk true (.map true [(.agg [.agg []],.fp [] 16 0)])),cI (bA x cl 0)] =
  some (.tup [],[some (.loop 77 0 [.pt 1 0] .ready),some (.blk false (.cells true [.ch 2])),chO (kA x cl 0),some (.blk true (.cells true [.int .i64 0]))]):=aKZ (a:=bA x cl 0) (by omega)
 have z:=UX (n:=(sn:Int))
 rw[r77 (by simp)]
 unfold x77
 dsimp only
 rw[aGw]
 have rd:=fun i (hh:i<sn)=>aHg (x:=x) ok hcl (sn:=(sn:Int)) (n:=i) (by omega) (by omega)
 generalize hf0:kA x cl 0=L0 at e86
 generalize hi0:bA x cl 0=q0 at e86 w8 d1
 sym =>
  simp[Za,Zb,Zf,Zh,Zl,Zm,Zo,Zv,Zz,Z3,Z8,ZG,ZO,ZP,ZT,ZU,Yb,YU,Xb,Xf,Xg,Xi,Xj,Xp,Xs,Xv,Xy,Xz,Wc,We,Wg,Wq,Wx,Wy,Wz,W0,W5,W6,W7,W9,WA,WB,WC,WE,WG,WH,WI,WJ,WK,WM,WN,WR,WS,WT,WV,WW,WX,WY,Vc,Vd,Ve,Vf,Vg,Vh,Vi,VL,VV,VW,VX,VY,VZ,Ua,Ud,Ue,Uh,Uj,Uu,Uz,U0,U1,U2,U3,U4,U5,UA,UB,UL,UM,UY,UZ,Td,Tg,Tl,Tm,Tr,Ts,Tv,Tz,T0,TR,TS,TV,TW,TX,TY,TZ,Sa,S3,SU,SV,SY,SZ,Ra,Rc,Rd,d1,w8,e86]
  tactic =>
   unfold aCl
   rw[aF sn (fun i=>[I cl,.pt 1 0,.pt 2 0,I (bA x cl i:Nat),I sn,I (i:Nat)]) (fun i=>g77 x (kA x cl i))]
   ·generalize bA x cl sn=q at *
    generalize kA x cl sn=L at *
    (sym=>(simp[Za,Zb,Zf,Zh,Zl,Zm,Z3,Ys,YY,Xs,XK,Wf,Wx,W0,WH,WL,WN,WO,WP,WV,WW,Vb,Vc,Vs,V7,V9,VA,VB,VC,VE,VG,VN,VQ,VS,VW,VX,Ua,Ub,Uc,Uw,U0,U1,U2,U6,UA,UX,Tl,Tm,Tq,Ts,Tt,Tx,Tz,Sl,SQ,SS,SW,SX,z];all_goals tactic=>exact rfl))
   ·rw[hf0,hi0]; (sym=>(simp[Za,Y9,YU,Xb,Xp,Xv,Wx,W7,WA,WB,WE,WF,WH,WI,WJ,WL,WN,WO,WP,WQ,WV,WW,WX,Vb,Vc,Vd,VL,VO,VP,VW,VX,VY,VZ,Ua,Ub,Uc,Uh,Uu,U0,U1,U2,U3,Ty,SY,Ra];all_goals tactic=>exact rfl))
   ·exact rd
   ·generalize bA x cl sn=q at *
    generalize kA x cl sn=L at *
    (sym=>(simp[Za,Zb,Zf,Zh,Zl,Zm,Z3,Ys,VN,VQ,VS,VT,Uw,UX,Tl,Tm,Tq,Ts,Tt,Tz,z];all_goals tactic=>exact rfl))
abbrev gI (x:Vn) (cl sn out:Nat) (c:Option XB):XH:=[some (.loop 46 0 [.pt 1 0] .ready),some (.blk true (.cells true [I out])),some (.blk true (.cells true x.c)),some (.blk true (.cells true [I cl])),some (.blk true (.cells true [I sn])),c]
theorem y46 {out v n:Nat} (ho:out<65536) (hv:v<16):runYW aA (.fn (.yield 0) [] []) [.agg [I (v:Nat),I (n:Nat)]] [some (.loop 46 0 [.pt 1 0] .ready),some (.blk true (.cells true [I out]))]=some (.bool true,[some (.loop 46 0 [.pt 1 0] .ready),some (.blk true (.cells true [I (out|||2^v:Nat)]))]):=by
 have w1:=w62 (j:=v) (by omega)
 have hp:2^v<65536:=Nat.pow_lt_pow_of_lt (a:=2) (n:=v) (m:=16) (by omega) hv
 have b1:=cN bW (a:=out) (b:=2^v) (by omega) (Nat.lt_trans hp (by omega))
 rw[iI (K:=46) (d:=x46) (site:=0) (vs:=[.pt 1 0]) rfl rfl (by rfl) rfl]
 (sym=>(simp[Za,Zb,Zc,Ze,Zf,Zg,Zh,Zk,Zl,Zm,Zw,Z3,Z8,ZH,ZJ,ZK,ZL,ZM,ZN,ZQ,ZR,ZT,ZU,Yb,Yn,YU,YV,Xb,Xg,Xp,Xq,Xv,Wo,Wq,Ww,Wx,Wy,Wz,W0,W3,W5,W6,W9,WA,WF,WH,WJ,WK,WL,WM,WN,WO,WP,WR,WS,WV,WW,WY,Vb,Vc,Ve,Vf,Vg,Vh,Vj,Vk,Vl,Vm,Vs,Vu,Vv,Vx,Vy,V0,V8,VB,VN,VW,VX,VY,VZ,Ua,Ub,Uc,Ud,Ue,Uj,Un,Uo,Uq,Ur,Uu,Ux,Uy,Uz,U0,U1,U2,U3,U4,U5,UC,UJ,UK,UY,UZ,Td,Te,Tf,Tl,Tr,Tv,Tz,T0,TR,TS,TT,TU,Sc,Sd,Se,Sf,Si,S4,S5,S6,S8,S9,SA,w1,b1];all_goals tactic=>exact rfl))
theorem aHh {x:Vn} {cl sn out:Nat} {p:Nat×Nat} {L:List (Nat×Nat)} (ho:out<65536) (hv:p.1<16) :
 aV 5 [0,13] (execW aA 76 5 none (match uE with | .loop _ a=>a|c=>c) (aU [0,13] [.fn (.yield 0) [] [],.ch 5]) (gI x cl sn out (chC (p::L))))=some ([.fn (.yield 0) [] [],.ch 5],gI x cl sn (out|||2^p.1) (chC L)):=by
 have y:=y46 (n:=p.2) ho hv
 unfold uE
 dsimp only
 have e1:chC (p::L)=some (.blk true (.map true ((.agg [.agg []],.fp [] 16 1)::(.nilifc,.agg [I p.1,I p.2])::tE L))):=rfl
 rw[e1,show chC L=some (.blk true (.map true ((.agg [.agg []],.fp [] 16 1)::tE L))) from rfl]
 generalize tE L=sl
 (sym=>(simp[Za,Zb,Zc,Zf,Zg,Zh,Zj,Zl,Zm,Zv,Zw,Z5,ZE,ZG,ZK,ZL,ZO,ZP,ZY,Yi,YU,YX,Xb,Xf,Xg,Xp,Xq,Xr,Xv,Xz,Wq,Wx,Wy,Wz,W0,W3,W4,W5,W6,W9,WA,WB,WC,WE,WF,WG,WH,WI,WJ,WK,WL,WM,WN,WO,WP,WQ,WR,WS,WT,WV,WW,WY,Vb,Vc,Ve,Vf,Vg,Vh,Vi,Vs,Vu,Vv,Vx,Vy,V0,VN,VO,VP,VQ,VR,VS,VW,VX,VY,VZ,Ua,Ub,Uc,Ud,Ue,Uh,Uj,Um,Ur,Uu,Uz,U0,U1,U2,U3,U4,U5,UC,UY,UZ,Tc,Te,Tf,Tm,Tp,Tr,Ts,Tv,Ty,Tz,Sb,S4,S5,S6,S8,S9,SA,SF,SM,SN,SP,SY,Ra,y];all_goals tactic=>exact rfl))
def orL (L:List (Nat×Nat)):Nat:=L.foldl (fun o p=>o|||2^p.1) 0
theorem aJa {L:List (Nat×Nat)} (h:∀ p∈L,p.1<16) (i:Nat):orL (L.take i)<65536:=by
 have:∀ (M:List (Nat×Nat)) (o:Nat),o<65536→(∀ p∈M,p.1<16)→M.foldl (fun o p=>o|||2^p.1) o<65536:=by
  intro M
  induction M with
  | nil=>intro o ho _;exact ho
  | cons p M ih =>
    intro o ho hm
    have h2:2^p.1<65536:=Nat.pow_lt_pow_of_lt (a:=2) (n:=p.1) (m:=16) (by omega) (hm p List.mem_cons_self)
    exact ih _ (Nat.or_lt_two_pow (n:=16) ho h2) (fun q hq=>hm q (List.mem_cons_of_mem _ hq))
 exact this _ 0 (by omega) (fun p hp=>h p (List.mem_of_mem_take hp))
theorem aFr {L:List (Nat×Nat)} {i:Nat} {p:Nat×Nat} (h:L[i]?=some p):orL (L.take (i+1))=orL (L.take i)|||2^p.1:=by
 rw[orL,List.take_add_one,h,List.foldl_append];rfl
theorem aLz {x:Vn} (ok:x.Ok) {cl sn:Nat} (hcl:cl<2^x.F) (hs:sn≤1000) (hm:∀ p∈kA x cl sn,p.1<16) :
 runW aA 76 [.fn (.yield 0) [] [],.pt 2 0,.pt 3 0,.pt 4 0] [some (.loop 46 0 [.pt 1 0] .ready),cI 0,some (.blk true (.cells true x.c)),some (.blk true (.cells true [I cl])),some (.blk true (.cells true [I sn]))] =
  some (.tup [],[some (.loop 46 0 [.pt 1 0] .ready),cI (orL (kA x cl sn)),some (.blk true (.cells true x.c)),some (.blk true (.cells true [I cl])),some (.blk true (.cells true [I sn]))]):=by
 have w:=w77 ok hcl hs
 generalize hL:kA x cl sn=L at *
 have rd:=fun(i:Nat) (hi:i<L.length)=>aHh (x:=x) (cl:=cl) (sn:=sn) (L:=L.drop (i+1)) (p:=L[i]) (aJa hm i) (hm _ (List.getElem_mem hi))
 have e0:orL (L.take 0)=0:=rfl
 have e1:orL (L.take L.length)=orL L:=by rw[List.take_length]
 rw[r76 (by simp)];unfold x76;dsimp only
 have w:runW aA 77 [.agg x.c,I cl,I sn,.ch 0] [some (.blk true (.map true [(.agg [.agg []],.fp [] 16 0)]))]=some (.tup [],[some (.blk true (.map true ((.agg [.agg []],.fp [] 16 1)::tE L)))]):=w
 generalize hs0:tE L=sl at *
 sym =>
  simp[Za,Zb,Zf,Zg,Zh,Zj,Zl,Zm,Zv,ZG,ZO,ZP,ZT,ZU,Y9,YU,YX,YZ,Xp,Xr,Xs,Xt,Wi,Wn,Wx,Wy,Wz,W0,W3,W4,W5,W6,W7,W9,WA,WC,WE,WH,WI,WJ,WK,WM,WN,WR,WS,WT,WV,WW,Vc,Vf,Vg,Vh,Vi,Vs,Vu,Vv,Vw,Vx,Vy,V0,VL,VV,VW,VX,VY,VZ,Ua,Ud,Ue,Uu,Uz,U0,U1,U2,U3,UA,UB,UY,UZ,Tc,Td,Tm,Tr,Ts,Tz,T0,Sl,S4,S5,S6,S7,S8,S9,SA,SG,SY,Ra,Rb,Rc,w]
  tactic =>
   unfold uE
   rw[aF L.length (fun _=>[.fn (.yield 0) [] [],.ch 5]) (fun i=>gI x cl sn (orL (L.take i)) (chC (L.drop i)))]
   ·rw[e1,show chC (L.drop L.length)=some (.blk true (.map true [(.agg [.agg []],.fp [] 16 1)])) from by rw[List.drop_length];rfl];generalize orL L=q; (sym=>(simp[Za,Zb,Zf,Zh,Zl,Zm,ZE,ZO,Yi,YY,Xb,Xs,Xv,XK,Wf,Wx,W0,W9,WA,WF,WH,WJ,WL,WN,WO,WP,WV,WW,WY,Vb,Vc,Ve,Vs,V5,V7,V9,VA,VB,VC,VE,VG,VN,VQ,VS,VW,VX,VZ,Ua,Ub,Uc,Uu,U0,U1,U2,U3,U6,UA,Tm,Tq,Ts,Tt,Tx,Tz,Sl,SF,SM,SO,SP];all_goals tactic=>exact rfl))
   ·rw[e0,show chC (L.drop 0)=some (.blk true (.map true ((.agg [.agg []],.fp [] 16 1)::sl))) from by rw[←hs0];rfl]; (sym=>(simp[Za,Y9,Xb,Xf,Xv,Xz,Wx,W7,WA,WB,WE,WF,WH,WI,WJ,WL,WN,WO,WP,WQ,WV,WW,WY,Vb,Vc,Ve,VL,VO,VP,VW,VX,VY,VZ,Ua,Ub,Uc,Uh,Uu,U0,U1,U2,U3,Ty,S5,S7,SY,Ra];all_goals tactic=>exact rfl))
   ·intro i hi
    have h:=rd i hi
    rw[←aFr (List.getElem?_eq_getElem hi),List.getElem_cons_drop]at h
    exact h
   ·rw[e1,show chC (L.drop L.length)=some (.blk true (.map true [(.agg [.agg []],.fp [] 16 1)])) from by rw[List.drop_length];rfl];generalize orL L=q; (sym=>(simp[Za,Zb,Zf,Zh,Zl,Zm,ZE,ZO,Yi,Wx,W0,W9,VN,VQ,VS,VT,Tm,Tq,Ts,Tt,Tz,SF,SM,SO,SP];all_goals tactic=>exact rfl))
abbrev nev:Int:=1125899906842624
theorem w50:∀ F,F<16→runW aA 50 [.sl 0 0 1 1,I ((F+1:Nat):Int)] [some (.blk true (.cells true [I nev]))]=some (.sl 1 0 1 (F+1),[some (.blk true (.cells true [I nev])),some (.blk true (.cells true ((List.replicate (F+1) nev).map I)))])
 | 0,_=>aT.2 ⟨400,by kernel_rfl⟩
 | 1,_=>aT.2 ⟨400,by kernel_rfl⟩
 | 2,_=>aT.2 ⟨400,by kernel_rfl⟩
 | 3,_=>aT.2 ⟨400,by kernel_rfl⟩
 | 4,_=>aT.2 ⟨400,by kernel_rfl⟩
 | 5,_=>aT.2 ⟨400,by kernel_rfl⟩
 | 6,_=>aT.2 ⟨400,by kernel_rfl⟩
 | 7,_=>aT.2 ⟨400,by kernel_rfl⟩
 | 8,_=>aT.2 ⟨400,by kernel_rfl⟩
 | 9,_=>aT.2 ⟨400,by kernel_rfl⟩
 | 10,_=>aT.2 ⟨400,by kernel_rfl⟩
 | 11,_=>aT.2 ⟨400,by kernel_rfl⟩
 | 12,_=>aT.2 ⟨400,by kernel_rfl⟩
 | 13,_=>aT.2 ⟨400,by kernel_rfl⟩
 | 14,_=>aT.2 ⟨400,by kernel_rfl⟩
 | 15,_=>aT.2 ⟨400,by kernel_rfl⟩
 | _+16,h=>absurd h (by omega)

abbrev gW (x:Vn) (cl sn:Nat) (l:List Int) (c:Option XB):XH:=[some (.loop 20 0 [.pt 1 0] .ready),some (.blk false (.cells true [.sl 2 0 1 l.length])),some (.blk true (.cells true (l.map I))),some (.blk true (.cells true x.c)),some (.blk true (.cells true [I cl])),some (.blk true (.cells true [I sn])),c]
theorem y20 {l:List Int} {v n:Nat} (hv:v<l.length) (hl:l.length≤16):runYW aA (.fn (.yield 0) [] []) [.agg [I (v:Nat),I (n:Nat)]] [some (.loop 20 0 [.pt 1 0] .ready),some (.blk false (.cells true [.sl 2 0 1 l.length])),some (.blk true (.cells true (l.map I)))]=some (.bool true,[some (.loop 20 0 [.pt 1 0] .ready),some (.blk false (.cells true [.sl 2 0 1 l.length])),some (.blk true (.cells true ((l.set v n).map I)))]):=by
 have e0:((0:Int)≤(v:Int))=True:=eq_true (by omega)
 have e1:((v:Int)<((l.length:Nat):Int))=True:=eq_true (by omega)
 have e6:(v+1≤l.length)=True:=eq_true (by omega)
 rw[←aEv hv]
 generalize hk:l.length=k at *
 rw[iI (K:=20) (d:=x20) (site:=0) (vs:=[.pt 1 0]) rfl rfl (by rfl) rfl]
 (sym=>(simp[Za,Zb,Zc,Zf,Zh,Zl,Zm,Zw,Z8,ZA,ZG,ZK,ZL,Yb,Yf,Yw,Yx,YV,Xa,Xb,Xg,Xq,Xu,Xv,Wo,Wq,Wx,Wy,Wz,W0,W3,W5,W6,W9,WA,WF,WH,WJ,WL,WN,WO,WP,WV,WW,WX,WY,Vb,Vc,Vd,Ve,V8,VB,VN,VW,VX,VY,VZ,Ua,Ub,Uc,Ud,Ue,Uf,Uj,Ur,Uu,U0,U1,U2,U3,U4,U5,UC,UJ,UK,UY,UZ,Td,Te,Tf,Tr,Tv,Tz,TB,TC,TG,TR,TS,TT,TU,Sc,Sd,Se,Sf,e0,e1,e6,hk];all_goals tactic=>exact rfl))
theorem aEI {x:Vn} {cl sn k:Nat} {l:List Int} {p:Nat×Nat} {L:List (Nat×Nat)} (hl:l.length=k) (hk:k≤16) (hv:p.1<k) :
 aV 6 [0,13] (execW aA 76 6 none (match uE with | .loop _ a=>a|c=>c) (aU [0,13] [.fn (.yield 0) [] [],.ch 6]) (gW x cl sn l (chC (p::L))))=some ([.fn (.yield 0) [] [],.ch 6],gW x cl sn (l.set p.1 p.2) (chC L)):=by
 have y:=y20 (n:=p.2) (l:=l) (v:=p.1) (by omega) (by omega)
 rw[gW,gW,List.length_set,hl]at *
 unfold uE
 dsimp only
 have e1:chC (p::L)=some (.blk true (.map true ((.agg [.agg []],.fp [] 16 1)::(.nilifc,.agg [I p.1,I p.2])::tE L))):=rfl
 rw[e1,show chC L=some (.blk true (.map true ((.agg [.agg []],.fp [] 16 1)::tE L))) from rfl]
 generalize tE L=sl
 generalize l.set p.1 (p.2:Int)=l2 at *
 (sym=>(simp[Za,Zb,Zc,Zf,Zg,Zh,Zj,Zl,Zm,Zv,Zw,Z5,ZE,ZG,ZK,ZL,ZO,ZP,ZY,Yi,YU,YX,Xa,Xb,Xf,Xg,Xp,Xq,Xr,Xu,Xv,Xz,Wq,Wx,Wy,Wz,W0,W3,W4,W5,W6,W9,WA,WB,WC,WE,WF,WG,WH,WI,WJ,WK,WL,WM,WN,WO,WP,WQ,WR,WS,WT,WV,WW,WX,WY,Vb,Vc,Vd,Ve,Vf,Vg,Vh,Vi,Vs,Vu,Vv,Vx,Vy,V0,VN,VO,VP,VQ,VR,VS,VW,VX,VY,VZ,Ua,Ub,Uc,Ud,Ue,Uh,Uj,Um,Ur,Uu,Uz,U0,U1,U2,U3,U4,U5,UC,UY,UZ,Tc,Te,Tf,Tm,Tp,Tr,Ts,Tv,Ty,Tz,Sb,S4,S5,S6,S8,S9,SA,SF,SM,SN,SP,SY,Ra,y];all_goals tactic=>exact rfl))
def whL (F:Nat) (L:List (Nat×Nat)):List Int:=L.foldl (fun o p=>o.set p.1 (p.2:Int)) (List.replicate F nev)
theorem tI {F:Nat} {L:List (Nat×Nat)}:(whL F L).length=F:=by
 have:∀ (M:List (Nat×Nat)) (o:List Int),(M.foldl (fun o p=>o.set p.1 (p.2:Int)) o).length=o.length:=by
  intro M
  induction M with
  | nil=>intro o;rfl
  | cons p M ih=>intro o;rw[List.foldl_cons,ih,List.length_set]
 rw[whL,this,List.length_replicate]
theorem aEa {F:Nat} {L:List (Nat×Nat)} {i:Nat} {p:Nat×Nat} (h:L[i]?=some p):whL F (L.take (i+1))=(whL F (L.take i)).set p.1 (p.2:Int):=by
 rw[whL,List.take_add_one,h,List.foldl_append];rfl
theorem aLy {x:Vn} (ok:x.Ok) {cl sn:Nat} (hcl:cl<2^x.F) (hs:sn≤1000) (hm:∀ p∈kA x cl sn,p.1<x.F) :
 runW aA 76 [.fn (.yield 0) [] [],.pt 3 0,.pt 4 0,.pt 5 0] [some (.loop 20 0 [.pt 1 0] .ready),some (.blk false (.cells true [.sl 2 0 1 x.F])),some (.blk true (.cells true ((List.replicate x.F nev).map I))),some (.blk true (.cells true x.c)),some (.blk true (.cells true [I cl])),some (.blk true (.cells true [I sn]))] =
  some (.tup [],[some (.loop 20 0 [.pt 1 0] .ready),some (.blk false (.cells true [.sl 2 0 1 x.F])),some (.blk true (.cells true ((whL x.F (kA x cl sn)).map I))),some (.blk true (.cells true x.c)),some (.blk true (.cells true [I cl])),some (.blk true (.cells true [I sn]))]):=by
 have w:=w77 ok hcl hs
 have hF:=ok.F16
 generalize hL:kA x cl sn=L at *
 have rd:=fun(i:Nat) (hi:i<L.length)=>aEI (x:=x) (cl:=cl) (sn:=sn) (L:=L.drop (i+1)) (p:=L[i]) (tI (F:=x.F) (L:=L.take i)) hF (hm _ (List.getElem_mem hi))
 have z:(whL x.F (L.take 0))=List.replicate x.F nev:=rfl
 generalize hr:(List.replicate x.F nev)=rp at *
 have zl:rp.length=x.F:=by rw[←hr,List.length_replicate]
 have zw:(whL x.F L).length=x.F:=tI
 rw[r76 (by simp)];unfold x76;dsimp only
 have w:runW aA 77 [.agg x.c,I cl,I sn,.ch 0] [some (.blk true (.map true [(.agg [.agg []],.fp [] 16 0)]))]=some (.tup [],[some (.blk true (.map true ((.agg [.agg []],.fp [] 16 1)::tE L)))]):=w
 generalize hs0:tE L=sl at *
 generalize hwl:whL x.F L=wl at *
 sym =>
  simp[Za,Zb,Zf,Zg,Zh,Zj,Zl,Zm,Zv,ZG,ZO,ZP,ZT,ZU,YU,YX,YZ,Xp,Xr,Xs,Xt,Wi,Wn,Wx,Wy,Wz,W0,W3,W4,W5,W6,W7,W9,WA,WC,WE,WH,WI,WJ,WK,WM,WN,WR,WS,WT,WV,WW,Vc,Vf,Vg,Vh,Vi,Vs,Vu,Vv,Vw,Vx,Vy,V0,VL,VV,VW,VX,VY,VZ,Ua,Ud,Ue,Uu,Uz,U0,U1,U2,U3,UA,UB,UY,UZ,Tc,Td,Tm,Tr,Ts,Tz,T0,Sl,S4,S5,S6,S7,S8,S9,SA,SG,SY,Ra,Rb,Rc,w]
  tactic =>
   unfold uE
   rw[aF L.length (fun _=>[.fn (.yield 0) [] [],.ch 6]) (fun i=>gW x cl sn (whL x.F (L.take i)) (chC (L.drop i)))]
   ·rw[show whL x.F (L.take L.length)=wl from by rw[List.take_length];exact hwl,show chC (L.drop L.length)=some (.blk true (.map true [(.agg [.agg []],.fp [] 16 1)])) from by rw[List.drop_length];rfl,gW,zw]; (sym=>(simp[Za,Zb,Zf,Zh,Zl,Zm,ZE,ZO,Yi,YY,Xa,Xb,Xs,Xu,Xv,XK,Wf,Wx,W0,W9,WA,WF,WH,WJ,WL,WN,WO,WP,WV,WW,WX,WY,Vb,Vc,Vd,Ve,Vs,V5,V7,V9,VA,VB,VC,VE,VG,VN,VQ,VS,VW,VX,VY,VZ,Ua,Ub,Uc,Uu,U0,U1,U2,U3,U6,UA,Tm,Tq,Ts,Tt,Tx,Tz,Sl,SF,SM,SO,SP];all_goals tactic=>exact rfl))
   ·rw[z,show chC (L.drop 0)=some (.blk true (.map true ((.agg [.agg []],.fp [] 16 1)::sl))) from by rw[←hs0];rfl,gW,zl]; (sym=>(simp[Za,Xa,Xb,Xf,Xu,Xv,Xz,Wx,W7,WA,WB,WE,WF,WH,WI,WJ,WL,WN,WO,WP,WQ,WV,WW,WX,WY,Vb,Vc,Vd,Ve,VL,VO,VP,VW,VX,VY,VZ,Ua,Ub,Uc,Uh,Uu,U0,U1,U2,U3,Ty,S5,S7,SY,Ra];all_goals tactic=>exact rfl))
   ·intro i hi
    have h:=rd i hi
    rw[←aEa (List.getElem?_eq_getElem hi),List.getElem_cons_drop]at h
    exact h
   ·rw[show whL x.F (L.take L.length)=wl from by rw[List.take_length];exact hwl,show chC (L.drop L.length)=some (.blk true (.map true [(.agg [.agg []],.fp [] 16 1)])) from by rw[List.drop_length];rfl,gW,zw]; (sym=>(simp[Za,Zb,Zf,Zh,Zl,Zm,ZE,ZO,Yi,Wx,W0,W9,VN,VQ,VS,VT,Tm,Tq,Ts,Tt,Tz,SF,SM,SO,SP];all_goals tactic=>exact rfl))
end Go.Proofs.YtiabjdfdkiijmaaDoor
namespace Go.Proofs.YtiabjdfdkiijmaaDoor
open Go Go.DL

theorem xW {x:Vn} (ok:x.Ok) {cl:Nat} (hcl:cl<2^x.F) {i:Nat} {m n:Nat} (h:m≤n) (hi:(bA x cl m).testBit i=true):(bA x cl n).testBit i=true:=by
 induction n with
 | zero=>rw[show m=0 by omega]at hi;exact hi
 | succ n ih =>
   by_cases e:m=n+1
   ·rw[←e];exact hi
   ·exact vO ok hcl n i (ih (by omega))
theorem eD {a F i:Nat} (h:a<2^F) (hi:a.testBit i=true):i<F:=by
 by_cases e:i<F
 ·exact e
 ·rw[pD h (by omega)]at hi;simp at hi
theorem aFN {x:Vn} (ok:x.Ok) {cl:Nat}:∀ n,∀ p∈kA x cl n,p.1<x.F
 | 0=>by
   intro p hp
   simp only[kA,List.mem_map,fB]at hp
   obtain⟨k,hk,rfl⟩:=hp
   exact eD (dL ok cl 0) hk.2
 | n+1=>by
   intro p hp
   rw[kA,List.mem_append]at hp
   rcases hp with hp|hp
   ·exact aFN ok n p hp
   ·simp only[List.mem_map,fB]at hp
    obtain⟨k,hk,rfl⟩:=hp
    exact eD (zS (dL ok cl (n+1))) hk.2
theorem aHD (L:List (Nat×Nat)) (i:Nat):(orL L).testBit i=L.any (·.1=i):=by
 have:∀ (M:List (Nat×Nat)) (o:Nat),(M.foldl (fun o p=>o|||2^p.1) o).testBit i=(o.testBit i||M.any (·.1=i)):=by
  intro M
  induction M with
  | nil=>intro o;simp
  | cons p M ih=>intro o;rw[List.foldl_cons,ih,dN,List.any_cons,Bool.or_assoc]
 rw[orL,this];simp
theorem aHC {x:Vn} (ok:x.Ok) {cl:Nat} (hcl:cl<2^x.F):∀ n,orL (kA x cl n)=bA x cl n:=by
 have hF:=ok.F16
 have hp:=aZ hF
 intro n
 apply Nat.eq_of_testBit_eq
 intro i
 rw[aHD]
 induction n with
 | zero =>
   rw[kA,List.any_map,Bool.eq_iff_iff]
   simp only[List.any_eq_true,fB,Function.comp,decide_eq_true_eq]
   constructor
   ·rintro ⟨k,hk,rfl⟩;exact hk.2
   ·intro h;exact⟨i,⟨by have:=eD (dL ok cl 0) h;omega,h⟩,rfl⟩
 | succ n ih =>
   have hl:=dL ok cl n
   rw[kA,List.any_append,ih,List.any_map,Bool.eq_iff_iff,Bool.or_eq_true]
   simp only[List.any_eq_true,fB,Function.comp,decide_eq_true_eq]
   constructor
   ·rintro (h|⟨k,hk,rfl⟩)
    ·exact vO ok hcl n i h
    ·rw[bU (by omega)]at hk
     simp only[Bool.and_eq_true]at hk
     exact hk.2.1
   ·intro h
    by_cases h1:(bA x cl n).testBit i=true
    ·exact .inl h1
    ·have:=eD (dL ok cl (n+1)) h
     refine .inr ⟨i,⟨by omega,?_⟩,rfl⟩
     rw[bU (by omega),h]
     simp only[Bool.not_eq_true]at h1
     simp[h1];omega
def whO (x:Vn) (cl n f:Nat):Int:=match (List.range (n+1)).find? (fun m=>(bA x cl m).testBit f)with
 | some m=>(m:Int)
 | none=>nev
theorem yX {c:Int} (f:Nat):∀ (ks:List Nat) (l:List Int),((ks.map fun k=>(k,c)).foldl (fun o p=>o.set p.1 p.2) l)[f]?=if f∈ks∧f<l.length then some c else l[f]?
 | [],l=>by simp
 | k::ks,l=>by
   rw[List.map_cons,List.foldl_cons,yX f ks,List.length_set,List.getElem?_set]
   by_cases h1:f∈ks
   ·by_cases h2:f<l.length
    ·simp[h1,h2]
    ·have:l[f]?=none:=List.getElem?_eq_none (by omega)
     simp only[h1,h2,and_false,if_false,List.mem_cons,or_true,this]
     split
     ·next h=>rw[if_neg (by omega)]
     ·rfl
   ·by_cases hk:k=f
    ·subst hk
     simp only[h1,false_and,if_false,if_true,List.mem_cons,true_or,true_and]
     split
     ·rfl
     ·rw[List.getElem?_eq_none (by omega)]
    ·have:¬f∈k::ks:=by simp[h1];omega
     simp[h1,hk];intro h;omega
theorem aDZ {x:Vn} (ok:x.Ok) {cl:Nat} (hcl:cl<2^x.F) (n f:Nat):whO x cl (n+1) f=if (bA x cl (n+1)).testBit f && !(bA x cl n).testBit f then ((n+1:Nat):Int) else whO x cl n f:=by
 unfold whO
 rw[List.range_succ,List.find?_append]
 by_cases h1:(bA x cl n).testBit f=true
 ·rw[h1]
  have:∃ m,(List.range (n+1)).find? (fun m=>(bA x cl m).testBit f)=some m:=by
   cases h:(List.range (n+1)).find? (fun m=>(bA x cl m).testBit f)with
   | some m=>exact⟨m,rfl⟩
   | none =>
     rw[List.find?_eq_none]at h
     exact absurd h1 (h n (List.mem_range.2 (by omega)))
  obtain⟨m,hm⟩:=this
  rw[hm];simp
 ·have:(List.range (n+1)).find? (fun m=>(bA x cl m).testBit f)=none:=by
   rw[List.find?_eq_none]
   intro m hm h
   rw[List.mem_range]at hm
   exact h1 (xW ok hcl (by omega) h)
  rw[this]
  simp only[Bool.not_eq_true]at h1
  rw[h1,List.find?_singleton]
  cases (bA x cl (n+1)).testBit f<;>simp
theorem aGF {x:Vn} (ok:x.Ok) {cl:Nat} (hcl:cl<2^x.F):∀ n,whL x.F (kA x cl n)=(List.range x.F).map (whO x cl n):=by
 have hF:=ok.F16
 have hp:=aZ hF
 intro n
 apply List.ext_getElem?
 intro f
 rw[List.getElem?_map]
 by_cases hf:f<x.F
 ·rw[List.getElem?_range hf]
  show _=some (whO x cl n f)
  induction n with
  | zero =>
    rw[whL,kA]
    have:=yX (c:=0) f (el (bA x cl 0)) (List.replicate x.F nev)
    rw[List.foldl_map]at this ⊢
    rw[show (fun(o:List Int) (k:Nat)=>o.set (k,0).1 ((k,0).2:Nat))=(fun(o:List Int) (k:Nat)=>o.set (k,(0:Int)).1 (k,(0:Int)).2) from rfl,this]
    rw[List.length_replicate,List.getElem?_replicate]
    simp only[fB]
    unfold whO
    rw[List.range_succ,List.range_zero,List.nil_append,List.find?_singleton]
    cases (bA x cl 0).testBit f
    ·simp[hf]
    ·have:f<16:=by omega
     simp[hf,this]
  | succ n ih =>
    have hl:=dL ok cl n
    rw[aDZ ok hcl]
    have:=yX (c:=((n+1:Nat):Int)) f (el (jP (bA x cl (n+1)) (bA x cl n))) (whL x.F (kA x cl n))
    rw[whL,kA,List.foldl_append]
    rw[List.foldl_map]at this ⊢
    rw[show (fun(o:List Int) (k:Nat)=>o.set (k,n+1).1 ((k,n+1).2:Nat))=(fun(o:List Int) (k:Nat)=>o.set (k,((n+1:Nat):Int)).1 (k,((n+1:Nat):Int)).2) from rfl]
    rw[show List.foldl (fun(o:List Int) (p:Nat×Nat)=>o.set p.1 (p.2:Int)) (List.replicate x.F nev) (kA x cl n)=whL x.F (kA x cl n) from rfl,this,ih,tI]
    simp only[fB,bU (show bA x cl n<2^64 by omega)]
    have h16:f<16:=by omega
    have h64:f<64:=by omega
    simp only[h16,h64,hf,true_and,and_true,decide_true,Bool.true_and]
    split<;>rfl
 ·rw[List.getElem?_eq_none (by rw[tI];omega),List.getElem?_eq_none (by rw[List.length_range];omega)];rfl
end Go.Proofs.YtiabjdfdkiijmaaDoor
namespace Go.Proofs.YtiabjdfdkiijmaaDoor
open Go Go.DL
set_option maxRecDepth 100000
set_option maxHeartbeats 4000000
theorem w51 (x:Vn) (cl sn:Nat):runW aA 51 [.agg x.c,I cl,I sn] []=some (.fn (.func 76) [] [.pt 0 0,.pt 1 0,.pt 2 0],[some (.blk true (.cells true x.c)),some (.blk true (.cells true [I cl])),some (.blk true (.cells true [I sn]))]):=by
 rw[r51 (by simp)];unfold x51;dsimp only
 (sym=>(simp[Za,Zb,Zf,Zh,Zl,Zo,Zv,Zx,Zz,Xb,Xe,Xg,Xi,Xj,Xv,Xy,XQ,Wc,We,Wg,Wm,Wo,Wq,Wx,W7,WA,WB,WE,WF,WH,WI,WJ,WL,WN,WO,WP,WQ,WV,WW,Vc,Vs,V6,V7,V9,VA,VB,VC,VD,VG,VH,VI,VJ,VL,VV,VW,VX,VY,VZ,Ua,Uc,Ud,Ue,Uh,Uj,Uu,U0,U1,U2,U3,U4,U5,UA,UB,UL,UM,Tg,Tm,Tn,Ts,Tz,T0,TD,Sl];all_goals tactic=>exact rfl))
theorem w46 {x:Vn} (ok:x.Ok) {cl sn:Nat} (hcl:cl<2^x.F) (hs:sn≤1000):runW aA 46 [.agg x.c,I cl,I sn] []=some (nL (dB (el (bA x cl sn))),[]):=by
 have hF:=ok.F16
 have e1:=w51 x cl sn
 have e2:=aLz ok hcl hs (fun p hp=>by have:=aFN ok sn p hp;omega)
 rw[aHC ok hcl]at e2
 have e3:=w63 (aKJ ok (dL ok cl sn))
 generalize dB (el (bA x cl sn))=os at *
 generalize bA x cl sn=q at *
 have e2:runW aA 76 [.fn (.yield 0) [] [],.pt 2 0,.pt 3 0,.pt 4 0] [some (.loop 46 0 [.pt 1 0] .ready),some (.blk true (.cells true [.int .i64 0])),some (.blk true (.cells true x.c)),some (.blk true (.cells true [I cl])),some (.blk true (.cells true [I sn]))] =
  some (.tup [],[some (.loop 46 0 [.pt 1 0] .ready),cI q,some (.blk true (.cells true x.c)),some (.blk true (.cells true [I cl])),some (.blk true (.cells true [I sn]))]):=e2
 rw[r46 (by simp)];unfold x46;dsimp only
 (sym=>(simp[Za,Zb,Zf,Zg,Zh,Zj,Zl,Zm,Zo,Zv,Zw,Zz,ZG,ZO,ZP,ZT,ZU,YU,YX,YZ,Xb,Xf,Xg,Xi,Xj,Xp,Xr,Xs,Xt,Xv,Xy,Xz,X0,XL,Wc,We,Wg,Wq,Wx,Wy,Wz,W0,W3,W4,W5,W6,W7,W9,WA,WB,WC,WE,WG,WH,WI,WJ,WK,WL,WM,WN,WO,WP,WR,WS,WT,WV,WW,WY,Vc,Ve,Vf,Vg,Vh,Vi,Vs,Vu,Vv,Vw,Vx,Vy,V0,V6,V7,V9,VA,VB,VC,VD,VG,VH,VI,VJ,VL,VV,VW,VX,VY,VZ,Ua,Uc,Ud,Ue,Uh,Uj,Uu,Uz,U0,U1,U2,U3,U4,U5,UA,UB,UL,UM,UY,UZ,Tc,Td,Tg,Tm,Tn,Tr,Ts,Tv,Tz,T0,TR,TS,TV,TW,TX,TY,TZ,Sa,Sl,S4,S5,S6,S7,S8,S9,SA,e1,e2,e3];all_goals tactic=>exact rfl))
theorem w18 (v:Va) (hb:v.bs.length<1000000000) (hp:v.ps.length<1000000000) (s:Int) :
 (isE v s≠0∧runW aA 18 [.agg v.c,I s] []=some (.tup [.fs [],I (isE v s)],[]))∨(isE v s=0∧∃ (x:Vn) (n:Nat),x.Ok∧v=x.v∧s=(n:Int)∧n≤100∧runW aA 18 [.agg v.c,I s] []=some (.tup [nL (dB (el (bA x 0 n))),I 0],[])):=by
 have e0:=w23 v hb hp
 have e1:=w45 0 s 100
 unfold isE
 by_cases hv:vE v=0
 ·rw[if_pos hv]
  rw[hv]at e0
  cases h2:btw 0 s 100
  ·left
   rw[h2]at e1
   refine⟨by simp,?_⟩
   rw[if_neg (by simp)]
   rw[r18 (by simp)];unfold x18;dsimp only
   (sym=>(simp[Za,Zb,Zf,Zg,Zh,Zj,Zl,Zm,Zo,Zv,Zz,Z3,Z5,ZG,ZO,ZP,ZT,ZU,ZY,Yr,YU,YX,YY,YZ,Xg,Xi,Xj,Xp,Xq,Xr,Xs,Xt,X0,XK,XO,Wc,We,Wf,Wg,Wj,Wq,Wx,Wy,Wz,W3,W4,W5,W6,W7,WH,WK,WL,WM,WN,WO,WP,WR,WS,Vf,Vg,Vh,Vs,Vu,Vv,Vw,Vx,Vy,V0,V6,V7,V9,VA,VB,VC,VF,VG,VH,VI,VJ,VL,VQ,VR,VS,VV,VW,VX,VZ,Ua,Uc,Ud,Ue,Uj,Um,Un,Uv,Uz,U0,U1,U2,U3,U4,U5,U6,U7,UA,UB,UL,UM,UY,UZ,Tc,Tg,Tl,Tm,Tn,Tp,Ts,Tu,Tz,T0,Sl,S4,S5,S6,S7,S8,S9,SA,e0,e1];all_goals tactic=>exact rfl))
  ·right
   rw[h2]at e1
   refine⟨by simp,?_⟩
   have hs:=nD.1 h2
   obtain⟨x,ok,rfl⟩:=aKu hv
   obtain⟨n,rfl⟩:∃ n:Nat,s=n:=⟨s.toNat,by omega⟩
   have hn:n≤100:=by omega
   refine⟨x,n,ok,rfl,rfl,hn,?_⟩
   have e0:runW aA 23 [.agg x.c] []=some (I 0,[]):=e0
   have e3:runW aA 46 [.agg x.c,I 0,I n] []=_:=w46 (cl:=0) (sn:=n) ok (Nat.two_pow_pos _) (by omega)
   show runW aA 18 [.agg x.c,I n] []=_
   generalize dB (Go.Proofs.YtiabjdfdkiijmaaDoor.el (bA x 0 n))=os at *
   rw[r18 (by simp)];unfold x18;dsimp only
   (sym=>(simp[Za,Zb,Zf,Zg,Zh,Zj,Zl,Zm,Zo,Zv,Zz,Z3,Z5,ZG,ZO,ZP,ZT,ZU,ZY,Yr,YU,YX,YY,YZ,Xg,Xi,Xj,Xp,Xq,Xr,Xs,Xt,X0,XK,XL,Wc,We,Wf,Wg,Wq,Wx,Wy,Wz,W3,W4,W5,W6,W7,WH,WK,WL,WM,WN,WO,WP,WR,WS,Vf,Vg,Vh,Vs,Vu,Vv,Vw,Vx,Vy,V0,V6,V7,V9,VA,VB,VC,VF,VG,VH,VI,VJ,VL,VQ,VS,VV,VW,VX,VZ,Ua,Uc,Ud,Ue,Uj,Um,Uv,Uz,U0,U1,U2,U3,U4,U5,U6,U7,UA,UB,UL,UM,UY,UZ,Tc,Tg,Tl,Tm,Tn,Tp,Ts,Tz,T0,Sl,S4,S5,S6,S7,S8,S9,SA,e0,e1,e3];all_goals tactic=>exact rfl))
 ·left
  rw[if_neg hv]
  refine⟨hv,?_⟩
  have n0:=aHJ hv
  generalize vE v=er at *
  rw[r18 (by simp)];unfold x18;dsimp only
  (sym=>(simp[Za,Zb,Zf,Zg,Zh,Zj,Zl,Zm,Zo,Zv,Zz,Z3,ZG,ZO,ZP,ZT,ZU,Yr,YU,YX,YY,YZ,Xg,Xi,Xj,Xp,Xr,Xs,Xt,X0,XK,XO,Wc,We,Wf,Wg,Wj,Wq,Wx,Wy,Wz,W3,W4,W5,W6,W7,WH,WK,WL,WM,WN,WO,WP,WR,WS,Vf,Vg,Vh,Vs,Vu,Vv,Vx,Vy,V0,V6,V7,V9,VA,VB,VC,VF,VG,VH,VI,VJ,VL,VQ,VR,VV,VW,VX,VZ,Ua,Uc,Ud,Ue,Uj,Un,Uw,Uz,U0,U1,U2,U3,U4,U5,U6,U7,UA,UB,UL,UM,UY,UZ,Tc,Tg,Tl,Tm,Tn,Ts,Tu,Tz,T0,Sl,S4,S5,S6,S8,S9,SA,e0,n0];all_goals tactic=>exact rfl))
def eW (x:Vn):List Int:=(List.range x.F).map (whO x 0 117)
theorem w20 (v:Va) (hb:v.bs.length<1000000000) (hp:v.ps.length<1000000000) :
 (vE v≠0∧runW aA 20 [.agg v.c] []=some (.tup [.fs [],I (vE v)],[]))∨(vE v=0∧∃ (x:Vn),x.Ok∧v=x.v∧runW aA 20 [.agg v.c] []=some (.tup [nL (eW x),I 0],[])):=by
 have e0:=w23 v hb hp
 by_cases hv:vE v=0
 ·right
  refine⟨hv,?_⟩
  rw[hv]at e0
  obtain⟨x,ok,rfl⟩:=aKu hv
  refine⟨x,ok,rfl,?_⟩
  have e0:runW aA 23 [.agg x.c] []=some (I 0,[]):=e0
  have h0:0<2^x.F:=Nat.two_pow_pos _
  have e1:runW aA 51 [.agg x.c,I 0,I 117] []=some (.fn (.func 76) [] [.pt 0 0,.pt 1 0,.pt 2 0],[some (.blk true (.cells true x.c)),some (.blk true (.cells true [I 0])),some (.blk true (.cells true [I 117]))]):=w51 x 0 117
  have e2:=aLy ok h0 (sn:=117) (by omega) (fun p hp=>aFN ok 117 p hp)
  have e5:=w50 (x.F-1) (by have:=ok.F16;omega)
  rw[show x.F-1+1=x.F by have:=ok.F1;omega]at e5
  rw[aGF ok h0]at e2
  show runW aA 20 [.agg x.c] []=_
  rw[show nL (eW x)=nL ((List.range x.F).map (whO x 0 117)) from rfl]
  have hz:((List.range x.F).map (whO x 0 117)).length=x.F:=by simp
  generalize (List.range x.F).map (whO x 0 117)=os at *
  generalize hr:List.replicate x.F nev=rp at *
  have e2:runW aA 76 [.fn (.yield 0) [] [],.pt 3 0,.pt 4 0,.pt 5 0] [some (.loop 20 0 [.pt 1 0] .ready),some (.blk false (.cells true [.sl 2 0 1 x.F])),some (.blk true (.cells true (rp.map I))),some (.blk true (.cells true x.c)),some (.blk true (.cells true [I 0])),some (.blk true (.cells true [I 117]))] =
   some (.tup [],[some (.loop 20 0 [.pt 1 0] .ready),some (.blk false (.cells true [.sl 2 0 1 x.F])),some (.blk true (.cells true (os.map I))),some (.blk true (.cells true x.c)),some (.blk true (.cells true [I 0])),some (.blk true (.cells true [I 117]))]):=e2
  have z1:(x.F≤os.length)=True:=eq_true (by omega)
  have z2:cC (os.map I) 0 1 x.F=os.map fun v=>[I v]:=by rw[←hz];exact TH
  rw[r20 (by simp)];unfold x20;dsimp only
  (sym=>(simp[Za,Zb,Zc,Zd,Ze,Zf,Zg,Zh,Zj,Zl,Zm,Zo,Zv,Zw,Zz,Z1,Z3,Z8,ZG,ZK,ZL,ZO,ZP,ZT,ZU,Yb,Yr,YU,YX,YY,YZ,Xa,Xb,Xf,Xg,Xi,Xj,Xk,Xm,Xp,Xr,Xs,Xt,Xu,Xv,Xy,Xz,X0,XK,XM,XV,XX,XZ,Wc,We,Wf,Wg,Wo,Wq,Ws,Wx,Wy,Wz,W0,W3,W4,W5,W6,W7,W9,WA,WB,WC,WE,WG,WH,WI,WJ,WK,WL,WM,WN,WO,WP,WR,WS,WT,WV,WW,WX,WY,Vc,Vd,Ve,Vf,Vg,Vh,Vi,Vp,Vq,Vr,Vs,Vt,Vu,Vv,Vx,Vy,V0,V1,V2,V3,V4,V6,V7,V9,VA,VB,VC,VF,VG,VH,VI,VJ,VL,VQ,VS,VV,VW,VX,VY,VZ,Ua,Uc,Ud,Ue,Uf,Uh,Uj,Ul,Um,Ur,Uu,Uv,Ux,Uy,Uz,U0,U1,U2,U3,U4,U5,U6,U7,U8,U9,UA,UB,UC,UD,UE,UF,UL,UM,UN,UO,UP,UQ,UY,UZ,Tc,Td,Te,Tf,Tg,Tl,Tm,Tn,Tp,Tr,Ts,Tv,Tz,T0,TB,TC,TI,TR,TS,TV,TW,TX,TY,TZ,Sa,Sl,Sm,Sn,S4,S5,S6,S8,S9,SA,e0,e1,e2,e5,z1,z2];all_goals tactic=>exact rfl))
 ·left
  refine⟨hv,?_⟩
  have n0:=aHJ hv
  generalize vE v=er at *
  rw[r20 (by simp)];unfold x20;dsimp only
  (sym=>(simp[Za,Zb,Zf,Zg,Zh,Zj,Zl,Zm,Zo,Zv,Zz,Z3,ZG,ZO,ZP,ZT,ZU,Yr,YU,YX,YY,YZ,Xg,Xi,Xj,Xp,Xr,Xs,Xt,X0,XK,XO,Wc,We,Wf,Wg,Wj,Wq,Wx,Wy,Wz,W3,W4,W5,W6,W7,WH,WK,WL,WM,WN,WO,WP,WR,WS,Vf,Vg,Vh,Vs,Vu,Vv,Vx,Vy,V0,V6,V7,V9,VA,VB,VC,VF,VG,VH,VI,VJ,VL,VQ,VR,VV,VW,VX,VZ,Ua,Uc,Ud,Ue,Uj,Un,Uw,Uz,U0,U1,U2,U3,U4,U5,U6,U7,UA,UB,UL,UM,UY,UZ,Tc,Tg,Tl,Tm,Tn,Ts,Tu,Tz,T0,Sl,S4,S5,S6,S8,S9,SA,e0,n0];all_goals tactic=>exact rfl))
abbrev gO (x:Vn):List Int→XH
 | []=>[some (.blk true (.cells true x.c))]
 | a::r=>[some (.blk true (.cells true x.c)),some (.blk true (.cells true (I a::r.map I)))]
section
variable {x:Vn} (ok:x.Ok) {c:List Int} (hc:c.length<1000000000)
include ok hc
end
def eK (x:Vn) (st:Nat→Nat):List AV:=x.c++(List.range 16).map fun k=>I (st k)
theorem dW (x:Vn) (st:Nat→Nat):(eK x st).length=22:=by simp[eK]
theorem iR {x:Vn} {st:Nat→Nat} {k:Nat} (h:k<16):(eK x st)[6+k]?=some (I (st k)):=by
 rw[eK,List.getElem?_append_right (by simp),show 6+k-x.c.length=k by simp,List.getElem?_map,List.getElem?_range h];rfl
theorem jG {l:List AV} {o:Nat} {v:AV} (h:o<l.length):bY l o [v]=l.set o v:=by
 rw[List.set_eq_take_append_cons_drop,if_pos h,bY];simp
def uI (st:Nat→Nat) (k v:Nat):Nat→Nat:=fun j=>if j=k then v else st j
theorem tS {x:Vn} {st:Nat→Nat} {k v:Nat} (h:k<16):bY (eK x st) (6+k) [I v]=eK x (uI st k v):=by
 rw[jG (by rw[dW];omega)]
 apply List.ext_getElem?
 intro j
 rw[List.getElem?_set,dW]
 by_cases hj:6+k=j
 ·subst hj
  rw[if_pos rfl,if_pos (by omega),iR h,uI,if_pos rfl]
 ·rw[if_neg hj]
  by_cases h6:j<6
  ·rw[eK,eK,List.getElem?_append_left (by simpa using h6),List.getElem?_append_left (by simpa using h6)]
  ·by_cases h22:j<22
   ·obtain⟨i,rfl⟩:∃ i,j=6+i:=⟨j-6,by omega⟩
    rw[iR (by omega),iR (by omega),uI,if_neg (by omega)]
   ·rw[List.getElem?_eq_none (by rw[dW];omega),List.getElem?_eq_none (by rw[dW];omega)]
def addS (st:Nat→Nat) (a b:Nat):Nat→Nat:=uI st a (st a|||2^b)
def stB (x:Vn) (i:Nat):Nat→Nat:=(x.bs.take i).foldl (fun st b=>addS (addS st b.1 b.2) b.2 b.1) fun _=>0
def stP (x:Vn) (i:Nat):Nat→Nat:=(x.ps.take i).foldl (fun st p=>addS st p.2.1 p.2.2) (stB x x.bs.length)
def dS (x:Vn):Nat→Nat:=stP x x.ps.length
theorem aAd {n:Nat} {st:Nat→Nat} {a b:Nat} (h:∀ k,st k<2^n) (hb:b<n):∀ k,addS st a b k<2^n:=by
 intro k
 unfold addS uI
 split
 ·exact vD (h a) hb
 ·exact h k
theorem aEl {x:Vn} (ok:x.Ok):∀ i k,stB x i k<2^x.F:=by
 intro i
 have:∀ (l:List (Nat×Nat)) (st:Nat→Nat),(∀ b∈l,b.1<x.F∧b.2<x.F)→(∀ k,st k<2^x.F)→∀ k,(l.foldl (fun st b=>addS (addS st b.1 b.2) b.2 b.1) st) k<2^x.F:=by
  intro l
  induction l with
  | nil=>intro st _ h;exact h
  | cons b l ih =>
    intro st hl h
    have hb:=hl b List.mem_cons_self
    exact ih _ (fun c hc=>hl c (List.mem_cons_of_mem _ hc)) (aAd (aAd h hb.2) hb.1)
 exact this _ _ (fun b hb=>by have:=ok.b b (List.mem_of_mem_take hb);exact⟨this.1,this.2.1⟩) (fun _=>Nat.two_pow_pos _)
theorem fU {x:Vn} (ok:x.Ok):∀ i k,stP x i k<2^x.F:=by
 intro i
 have:∀ (l:List (Nat×Nat×Nat)) (st:Nat→Nat),(∀ b∈l,b.2.2<x.F)→(∀ k,st k<2^x.F)→∀ k,(l.foldl (fun st p=>addS st p.2.1 p.2.2) st) k<2^x.F:=by
  intro l
  induction l with
  | nil=>intro st _ h;exact h
  | cons b l ih =>
    intro st hl h
    exact ih _ (fun c hc=>hl c (List.mem_cons_of_mem _ hc)) (aAd h (hl b List.mem_cons_self))
 exact this _ _ (fun b hb=>(ok.p b (List.mem_of_mem_take hb)).2.2.1) (aEl ok _)
abbrev gL (x:Vn) (st:Nat→Nat):XH:=[some (.blk true (.cells true x.c)),some (.blk true (.cells true (eK x st)))]
theorem aEL {x:Vn} (ok:x.Ok) {i:Nat} (hi:i<x.bs.length) :
 aV 0 [1,5,19,20,21] (execW aA 56 0 none (match aCp with | .loop _ a=>a|c=>c) (aU [1,5,19,20,21] [.pt 0 0,.pt 1 0,rB (x.bs.map bI),I x.bs.length,I (i:Nat)]) (gL x (stB x i)))=some ([.pt 0 0,.pt 1 0,rB (x.bs.map bI),I x.bs.length,I (i+1:Nat)],gL x (stB x (i+1))):=by
 obtain⟨b,hx⟩:=bZ hi
 have hb:=ok.b b (List.mem_of_getElem? hx)
 have hF:=ok.F16
 have hp:=aZ hF
 have a1:=dP hi
 have a2:=fD hi (by have:=ok.nb;omega)
 have l0:=aEl ok i
 have up:stB x (i+1)=addS (addS (stB x i) b.1 b.2) b.2 b.1:=gF hx _
 rw[up]
 generalize stB x i=st at *
 have e1:=w62 (j:=b.1) (by omega)
 have e2:=w62 (j:=b.2) (by omega)
 have n1:((0:Int)≤b.1)=True:=eq_true (by omega)
 have n2:((0:Int)≤b.2)=True:=eq_true (by omega)
 have m1:((b.1:Int)<16)=True:=eq_true (by omega)
 have m2:((b.2:Int)<16)=True:=eq_true (by omega)
 have p1:(2:Nat)^b.1≤2^16:=Nat.pow_le_pow_right (by omega) (by omega)
 have p2:(2:Nat)^b.2≤2^16:=Nat.pow_le_pow_right (by omega) (by omega)
 have k1:=l0 b.1
 have k2:=l0 b.2
 have o1:=cN bW (a:=st b.1) (b:=2^b.2) (by omega) (by omega)
 have q1:=iR (x:=x) (st:=st) (k:=b.1) (by omega)
 have s1:=tS (x:=x) (st:=st) (k:=b.1) (v:=st b.1|||2^b.2) (by omega)
 have q2:=iR (x:=x) (st:=addS st b.1 b.2) (k:=b.2) (by omega)
 have r2:addS st b.1 b.2 b.2=st b.2:=by unfold addS uI;rw[if_neg (fun h=>hb.2.2 h.symm)]
 have o2:=cN bW (a:=st b.2) (b:=2^b.1) (by omega) (by omega)
 have s2:=tS (x:=x) (st:=addS st b.1 b.2) (k:=b.2) (v:=st b.2|||2^b.1) (by omega)
 rw[show uI st b.1 (st b.1|||2^b.2)=addS st b.1 b.2 from rfl]at s1
 rw[show uI (addS st b.1 b.2) b.2 (st b.2|||2^b.1)=addS (addS st b.1 b.2) b.2 b.1 by rw[addS.eq_def (addS st b.1 b.2),r2]]at s2
 rw[r2]at q2
 have z1:=dW x st
 have z2:=dW x (addS st b.1 b.2)
 have t1:(6+b.1+1≤22)=True:=eq_true (by omega)
 have t2:(6+b.2+1≤22)=True:=eq_true (by omega)
 generalize addS (addS st b.1 b.2) b.2 b.1=st2 at *
 generalize addS st b.1 b.2=st1 at *
 unfold aCp
 dsimp only
 (sym=>(simp[Za,Zb,Zc,Zd,Ze,Zf,Zh,Zi,Zl,Zm,Zv,Zw,Z2,Z3,Z8,Z9,ZA,ZG,ZH,ZJ,ZK,ZL,ZM,ZN,ZQ,ZR,ZT,ZU,Yb,Yg,Yh,Yj,Yn,Ys,Yw,Yx,Y8,YA,YD,YO,YT,YU,YZ,Xb,Xg,Xp,Xt,Xv,Wo,Wq,Ww,Wx,Wy,Wz,W0,W3,W4,W5,W6,W9,WA,WB,WE,WF,WH,WI,WJ,WK,WL,WM,WN,WO,WP,WQ,WR,WS,WV,WW,Vc,Vf,Vg,Vh,Vj,Vk,Vl,Vm,VN,VO,VP,VQ,VR,VW,VX,VY,VZ,Ua,Uc,Ud,Ue,Uf,Ug,Uh,Uj,Un,Uo,Uq,Ur,Uu,Uv,Ux,Uy,Uz,U0,U1,U2,U3,U4,U5,UC,UY,UZ,Ta,Tb,Tc,Td,Te,Tf,Tl,Tm,Tp,Tr,Ts,Tv,Ty,Tz,T0,TB,TD,Si,Sx,a1,a2,hx,e1,e2,n1,n2,m1,m2,o1,o2,q1,q2,s1,s2,z1,z2,t1,t2];all_goals tactic=>exact rfl))
abbrev gL1 (x:Vn) (st:Nat→Nat):XH:=[some (.blk true (.cells true (eK x st)))]
theorem aEK {x:Vn} (ok:x.Ok) {i:Nat} (hi:i<x.ps.length) :
 aV 0 [5,55,56,57] (execW aA 56 0 none (match aCo with | .loop _ a=>a|c=>c) (aU [5,55,56,57] [.pt 0 0,rP (x.ps.map pI),I x.ps.length,I (i:Nat)]) (gL1 x (stP x i)))=some ([.pt 0 0,rP (x.ps.map pI),I x.ps.length,I (i+1:Nat)],gL1 x (stP x (i+1))):=by
 obtain⟨b,hx⟩:=bZ hi
 have hb:=ok.p b (List.mem_of_getElem? hx)
 have hF:=ok.F16
 have hp:=aZ hF
 have a1:=dP hi
 have a2:=fD hi (by have:=ok.np;omega)
 have l0:=fU ok i
 have up:stP x (i+1)=addS (stP x i) b.2.1 b.2.2:=gF hx _
 rw[up]
 generalize stP x i=st at *
 have e2:=w62 (j:=b.2.2) (by omega)
 have n1:((0:Int)≤b.2.1)=True:=eq_true (by omega)
 have m1:((b.2.1:Int)<16)=True:=eq_true (by omega)
 have p2:(2:Nat)^b.2.2≤2^16:=Nat.pow_le_pow_right (by omega) (by omega)
 have k1:=l0 b.2.1
 have o1:=cN bW (a:=st b.2.1) (b:=2^b.2.2) (by omega) (by omega)
 have q1:=iR (x:=x) (st:=st) (k:=b.2.1) (by omega)
 have s1:=tS (x:=x) (st:=st) (k:=b.2.1) (v:=st b.2.1|||2^b.2.2) (by omega)
 rw[show uI st b.2.1 (st b.2.1|||2^b.2.2)=addS st b.2.1 b.2.2 from rfl]at s1
 have z1:=dW x st
 have t1:(6+b.2.1+1≤22)=True:=eq_true (by omega)
 generalize addS st b.2.1 b.2.2=st1 at *
 unfold aCo
 dsimp only
 (sym=>(simp[Za,Zb,Zc,Zd,Ze,Zf,Zg,Zh,Zk,Zl,Zm,Zv,Zw,Z2,Z3,Z8,Z9,ZA,ZG,ZH,ZJ,ZK,ZL,ZM,ZN,ZQ,ZR,ZT,ZU,Yb,Yg,Yh,Yj,Yn,Ys,Yw,Yx,YO,YT,YU,YZ,Xb,Xg,Xp,Xt,Xv,Wo,Wq,Ww,Wx,Wy,Wz,W0,W3,W4,W5,W6,W9,WA,WE,WF,WH,WI,WJ,WK,WL,WM,WN,WO,WP,WQ,WR,WS,WV,WW,Vc,Vf,Vg,Vh,Vj,Vk,Vl,Vm,Vs,Vu,Vv,Vx,Vy,V0,VN,VO,VP,VQ,VR,VW,VX,VY,VZ,Ua,Uc,Ud,Ue,Uf,Ug,Uh,Uj,Un,Uo,Uq,Ur,Uu,Uv,Ux,Uy,Uz,U0,U1,U2,U3,U4,U5,UC,UY,UZ,Ta,Tb,Tc,Td,Te,Tf,Tl,Tm,Tp,Tr,Ts,Tv,Ty,Tz,T0,TB,TD,Si,Sx,S4,S5,S6,S8,S9,SA,a1,a2,hx,e2,n1,m1,o1,q1,s1,z1,t1];all_goals tactic=>exact rfl))
theorem aKL (x:Vn):eK x (fun _=>0)=[I x.F,rB (x.bs.map bI),rP (x.ps.map pI),I x.sick,I x.nur,I x.fix,I 0,I 0,I 0,I 0,I 0,I 0,I 0,I 0,I 0,I 0,I 0,I 0,I 0,I 0,I 0,I 0]:=rfl
theorem w56 {x:Vn} (ok:x.Ok) (h23:runW aA 23 [.agg x.c] []=some (I 0,[])) :
 runW aA 56 [.agg x.c] []=some (.tup [.pt 0 0,I 0],[some (.blk true (.cells true (eK x (dS x))))]):=by
 have rd:=fun i (hi:i<x.bs.length)=>aEL ok hi
 have rd2:=fun i (hi:i<x.ps.length)=>aEK ok hi
 have z:=UX (n:=(x.bs.length:Int))
 have zp:=UX (n:=(x.ps.length:Int))
 have n1:(x.bs.map bI).length=x.bs.length:=List.length_map ..
 have n2:(x.ps.map pI).length=x.ps.length:=List.length_map ..
 rw[r56 (by simp)];unfold x56;dsimp only
 sym =>
  simp[Za,Zb,Zd,Ze,Zf,Zg,Zh,Zj,Zl,Zm,Zo,Zv,Zz,Z0,Z3,Z8,ZF,ZG,ZO,ZP,ZT,ZU,Yb,Yc,Yr,YQ,YU,YX,YZ,Xg,Xi,Xj,Xp,Xr,Xt,Wc,We,Wg,Wq,Wx,Wy,Wz,W3,W4,W5,W6,W7,W9,WH,WK,WM,WR,WS,Vf,Vg,Vh,Vs,Vu,Vv,Vx,Vy,V0,VL,VQ,VS,VV,VW,VX,VY,VZ,Ua,Ud,Ue,Uf,Uj,Um,Ur,Uv,Uz,U0,U1,U2,U3,U4,U5,UA,UB,UC,UD,UE,UF,UL,UM,UY,UZ,Tc,Td,Tg,Tl,Tm,Tp,Tr,Ts,Tz,T0,S4,S5,S6,S8,S9,SA,h23]
  tactic =>
   unfold aCp
   rw[aF x.bs.length (fun i=>[.pt 0 0,.pt 1 0,rB (x.bs.map bI),I x.bs.length,I (i:Nat)]) (fun i=>gL x (stB x i))]
   ·rw[show stB x x.bs.length=stP x 0 from rfl]
    generalize hst:stP x 0=st
    sym =>
     simp[Za,Zb,Zf,Zh,Zl,Zm,Zv,Z3,Z8,ZF,ZG,Yb,Yc,Ys,Wx,Wy,Wz,W9,VN,VQ,VS,Uf,Uw,UX,UY,UZ,Td,Tl,Tm,Tq,Tr,Ts,Tt,Tx,Tz,T0,z,zp]
     tactic =>
      unfold aCo
      rw[aF x.ps.length (fun i=>[.pt 0 0,rP (x.ps.map pI),I x.ps.length,I (i:Nat)]) (fun i=>gL1 x (stP x i))]
      ·rw[show stP x x.ps.length=dS x from rfl]
       generalize dS x=st2
       (sym=>(simp[Za,Zb,Zf,Zh,Zl,Zm,Zv,Z3,Ys,YU,YY,Xb,Xp,Xs,Xv,X0,XK,XN,Wc,Wf,Wi,Wx,WA,WE,WF,WH,WI,WJ,WL,WN,WO,WP,WQ,WV,WW,Vc,Vs,V6,V7,V9,VA,VB,VC,VF,VG,VH,VI,VJ,VN,VQ,VS,VX,VZ,Ua,Uc,Uh,Uu,Uw,U0,U1,U2,U3,U6,U7,UA,UB,UX,Tl,Tm,Tn,Tq,Ts,Tt,Tx,Tz,T0,TD,Sl,zp];all_goals tactic=>exact rfl))
      ·rw[hst]
       (sym=>(simp[Za,Y9,YU,YZ,Xb,Xp,Xt,Xv,Wx,WA,WE,WF,WH,WI,WJ,WL,WN,WO,WP,WQ,WV,WW,Vc,VN,VO,VP,VW,VX,VZ,Ua,Uc,Uh,Uu,U0,U1,U2,U3,Ty,TD,zp];all_goals tactic=>exact rfl))
      ·exact rd2
      ·rw[show stP x x.ps.length=dS x from rfl]
       generalize dS x=st2
       (sym=>(simp[Za,Zb,Zf,Zh,Zl,Zm,Z3,Ys,VN,VQ,VS,VT,Uw,UX,Tl,Tm,Tq,Ts,Tt,Tz,zp];all_goals tactic=>exact rfl))
   ·rw[show stB x 0=(fun _=>0) from rfl,gL,aKL]
    (sym=>(simp[Za,Y9,YU,YZ,Xb,Xp,Xt,Xv,Wx,WA,WB,WE,WF,WH,WI,WJ,WL,WN,WO,WP,WQ,WV,WW,Vc,VO,VP,VW,VX,VY,VZ,Ua,Uc,Uh,Uu,U0,U1,U2,U3,Ty,TD,z];all_goals tactic=>exact rfl))
   ·exact rd
   ·generalize stB x x.bs.length=st
    (sym=>(simp[Za,Zb,Zf,Zh,Zl,Zm,Z3,Ys,VN,VQ,VS,VT,Uw,UX,Tl,Tm,Tq,Ts,Tt,Tz,z];all_goals tactic=>exact rfl))
end Go.Proofs.YtiabjdfdkiijmaaDoor
namespace Go.Proofs.YtiabjdfdkiijmaaDoor
open Go Go.DL

def bS (a:Nat):Nat:=(el a).length
theorem nN {p q:Nat→Bool}:∀ l:List Nat,(∀ k∈l,p k=true→q k=true)→(l.filter p).length≤(l.filter q).length
 | [],_=>Nat.le_refl _
 | k::l,h=>by
   have ih:=nN l (fun j hj=>h j (List.mem_cons_of_mem _ hj))
   have hk:=h k List.mem_cons_self
   simp only[List.filter_cons]
   cases hp:p k
   ·cases hq:q k
    ·simpa using ih
    ·simp only[Bool.false_eq_true,if_false,if_true,List.length_cons];omega
   ·rw[hk hp];simpa using ih
theorem rY {p q:Nat→Bool} {i:Nat} (hp:p i=false) (hq:q i=true):∀ l:List Nat,i∈l→(∀ k∈l,p k=true→q k=true)→(l.filter p).length<(l.filter q).length
 | [],hi,_=>by simp at hi
 | k::l,hi,h=>by
   simp only[List.filter_cons]
   by_cases hk:k=i
   ·subst hk
    have:=nN l (fun j hj=>h j (List.mem_cons_of_mem _ hj))
    rw[hp,hq]
    simp only[Bool.false_eq_true,if_false,if_true,List.length_cons];omega
   ·have ih:=rY hp hq l (by rcases List.mem_cons.1 hi with rfl|h;exact absurd rfl hk;exact h) (fun j hj=>h j (List.mem_cons_of_mem _ hj))
    have hk:=h k List.mem_cons_self
    cases hp:p k
    ·cases hq:q k
     ·simpa using ih
     ·simp only[Bool.false_eq_true,if_false,if_true,List.length_cons];omega
    ·rw[hk hp];simpa using ih
def sub (a b:Nat):Prop:=∀ i,a.testBit i=true→b.testBit i=true
theorem dD (a:Nat):sub a a:=fun _ h=>h
theorem rA {a b c:Nat} (h:sub a b) (g:sub b c):sub a c:=fun i hi=>g i (h i hi)
theorem aIQ (a k:Nat):sub a (a|||2^k):=fun i hi=>by rw[dN,hi];rfl
theorem iW {a b:Nat} (h:sub a b) (g:sub b a):a=b:=by
 apply Nat.eq_of_testBit_eq
 intro i
 rw[Bool.eq_iff_iff]
 exact⟨h i,g i⟩
theorem qS {a b:Nat} (h:sub a b):bS a≤bS b:=nN _ fun k _ hk=>h k hk
theorem aCW {a b i:Nat} (h:sub a b) (hi:i<16) (ha:a.testBit i=false) (hb:b.testBit i=true):bS a<bS b:=rY ha hb _ (List.mem_range.2 hi) fun k _ hk=>h k hk
theorem lR (a:Nat):bS a≤16:=rZ a
theorem iE {a i:Nat} (ha:a<65536) (hi:a.testBit i=true):i<16:=eD (F:=16) ha hi
theorem zY {a b:Nat} (h:sub a b) (hb:b<65536) (hc:bS b≤bS a):a=b:=by
 refine iW h fun i hi=>?_
 cases ha:a.testBit i
 ·have:=aCW h (iE hb hi) ha hi
  omega
 ·rfl
theorem aGl {a F:Nat} (ha:a<2^F) (hF:F≤16):bS a≤F:=by
 have e:el a=(List.range F).filter (a.testBit ·):=by
  unfold el
  rw[show (16:Nat)=F+(16-F) by omega,List.range_add,List.filter_append]
  rw[(List.filter_eq_nil_iff (l:=List.map (F + ·) (List.range (16-F)))).2,List.append_nil]
  intro k hk
  rw[List.mem_map]at hk
  obtain⟨j,_,rfl⟩:=hk
  rw[pD ha (by omega)];simp
 rw[bS,e]
 have:=List.length_filter_le (fun k=>a.testBit k) (List.range F)
 simpa using this
theorem aCd:bS 0=0:=rfl
theorem aGj {a i:Nat} (hi:i<16) (h:a.testBit i=true):0<bS a:=by
 have:=aCW (a:=0) (b:=a) (fun _ h=>by simp at h) hi (by simp) h
 omega
theorem zX {a b:Nat} (h:∀ i,a.testBit i=true→b.testBit i=false):bS (a|||b)=bS a+bS b:=by
 unfold bS el
 rw[←rX h]
 congr 2
 funext k
 rw[Nat.testBit_or]
theorem aBb {i:Nat} (hi:i<16):bS (2^i)=1:=by
 match i,hi with
 | 0,_=>rfl
 | 1,_=>rfl
 | 2,_=>rfl
 | 3,_=>rfl
 | 4,_=>rfl
 | 5,_=>rfl
 | 6,_=>rfl
 | 7,_=>rfl
 | 8,_=>rfl
 | 9,_=>rfl
 | 10,_=>rfl
 | 11,_=>rfl
 | 12,_=>rfl
 | 13,_=>rfl
 | 14,_=>rfl
 | 15,_=>rfl
 | _+16,h=>exact absurd h (by omega)
theorem pY (i j:Nat):(2^i).testBit j=decide (i=j):=by rw[Nat.testBit_two_pow]
theorem lQ {a i:Nat} (hi:i<16) (ha:a.testBit i=false):bS (a|||2^i)=bS a+1:=by
 rw[zX,aBb hi]
 intro j hj
 rw[pY]
 have:i≠j:=fun h=>by rw[h,hj]at ha;simp at ha
 simp[this]
inductive Rch (st:Nat→Nat) (s cl:Nat):Nat→Prop
 | base {f:Nat}:s.testBit f=true→cl.testBit f=false→Rch st s cl f
 | step {a b:Nat}:Rch st s cl a→(st a).testBit b=true→cl.testBit b=false→Rch st s cl b
theorem Rch.free {st:Nat→Nat} {s cl f:Nat} (h:Rch st s cl f):cl.testBit f=false:=by cases h<;>assumption
theorem Rch.lt {st:Nat→Nat} {s cl f F:Nat} (hs:s<2^F) (hst:∀ k,st k<2^F) (h:Rch st s cl f):f<F:=by
 cases h with
 | base h _=>exact eD hs h
 | step _ h _=>exact eD (hst _) h
def Clo (st:Nat→Nat) (cl m:Nat):Prop:=∀ a b,m.testBit a=true→(st a).testBit b=true→cl.testBit b=false→m.testBit b=true
theorem Rch.sub {st:Nat→Nat} {s cl m f:Nat} (h0:∀ i,s.testBit i=true→cl.testBit i=false→m.testBit i=true) (hc:Clo st cl m) (h:Rch st s cl f):m.testBit f=true:=by
 induction h with
 | base h g=>exact h0 _ h g
 | step _ h g ih=>exact hc _ _ ih h g
theorem Rch.mono {st st':Nat→Nat} {s s' cl cl' f:Nat} (h0:Go.Proofs.YtiabjdfdkiijmaaDoor.sub s s') (h1:∀ k,Go.Proofs.YtiabjdfdkiijmaaDoor.sub (st k) (st' k)) (h2:Go.Proofs.YtiabjdfdkiijmaaDoor.sub cl' cl) (h:Rch st s cl f):Rch st' s' cl' f:=by
 have g:∀ i,cl.testBit i=false→cl'.testBit i=false:=fun i hi=>by
  cases h:cl'.testBit i
  ·rfl
  ·rw[h2 i h]at hi;simp at hi
 induction h with
 | base h q=>exact .base (h0 _ h) (g _ q)
 | step _ h q ih=>exact .step ih (h1 _ _ h) (g _ q)
theorem aKS {F:Nat} {M:Nat→Nat} {P:Nat→Prop} (hF:F≤16) (hl:∀ k,M k<2^F) (hm:∀ k,sub (M k) (M (k+1))) (hp:∀ k,M (k+1)=M k→P (M k)) (hk:∀ k,P (M k)→P (M (k+1))) (hfull:P (2^F-1)):P (M F):=by
 have up:∀ k,P (M k)∨k≤bS (M k):=by
  intro k
  induction k with
  | zero=>exact .inr (Nat.zero_le _)
  | succ k ih =>
    rcases ih with ih|ih
    ·exact .inl (hk k ih)
    ·by_cases e:M (k+1)=M k
     ·exact .inl (hk k (hp k e))
     ·right
      have h16:M (k+1)<65536:=Nat.lt_of_lt_of_le (hl _) (aZ hF)
      by_cases hc:bS (M (k+1))≤bS (M k)
      ·exact absurd (zY (hm k) h16 hc).symm e
      ·omega
 rcases up F with h|h
 ·exact h
 ·have e:M F=2^F-1:=by
   refine zY ?_ ?_ ?_
   ·intro i hi
    rw[Nat.testBit_two_pow_sub_one]
    simpa using eD (hl F) hi
   ·have:=aZ hF
    have:=Nat.two_pow_pos F
    omega
   ·have:=aGl (a:=2^F-1) (F:=F) (by have:=Nat.two_pow_pos F;omega) hF
    omega
  rw[e];exact hfull
end Go.Proofs.YtiabjdfdkiijmaaDoor
namespace Go.Proofs.YtiabjdfdkiijmaaDoor
open Go Go.DL
set_option maxRecDepth 100000
set_option maxHeartbeats 4000000
theorem aEw {σ:Type} (n:Nat) (Inv:Nat→σ→Prop) (St:Nat→σ→σ→Prop) (s0:σ) (h0:Inv 0 s0) (hs:∀ i s,i<n→Inv i s→∃ s',Inv (i+1) s'∧St i s s'):∃ F:Nat→σ,F 0=s0∧(∀ i,i≤n→Inv i (F i))∧∀ i,i<n→St i (F i) (F (i+1)):=by
 induction n with
 | zero=>exact⟨fun _=>s0,rfl,fun i hi=>by obtain rfl:i=0:=(by omega);exact h0,fun i hi=>by omega⟩
 | succ n ih =>
   obtain⟨F,h1,h2,h3⟩:=ih fun i s hi=>hs i s (by omega)
   obtain⟨s',h4,h5⟩:=hs n (F n) (by omega) (h2 n (Nat.le_refl _))
   refine⟨fun i=>if i≤n then F i else s',(if_pos (Nat.zero_le n)).trans h1,fun i hi=>?_,fun i hi=>?_⟩
   ·dsimp only
    by_cases h:i≤n
    ·rw[if_pos h];exact h2 i h
    ·obtain rfl:i=n+1:=by omega
     rw[if_neg h];exact h4
   ·dsimp only
    by_cases h:i+1≤n
    ·rw[if_pos h,if_pos (by omega)];exact h3 i (by omega)
    ·obtain rfl:i=n:=by omega
     rw[if_neg h,if_pos (Nat.le_refl _)];exact h5
abbrev gV (M:Nat) (ci:Int) (l:List AV):XH:=[cI M,some (.blk true (.cells true [I ci])),some (.blk false (.cells true [.pt 3 0])),some (.blk true (.cells true l)),some (.blk false (.cells true [.fn (.func 84) [] [.pt 0 0,.pt 1 0,.pt 2 0,.pt 4 0]]))]
abbrev gX (K:Nat) (M:Nat) (ci:Int) (l:List AV):XH:=[some (.loop K 0 [.pt 1 0] .ready),some (.blk false (.cells true [.fn (.func 84) [] [.pt 2 0,.pt 3 0,.pt 4 0,.pt 1 0]])),cI M,some (.blk true (.cells true [I ci])),some (.blk false (.cells true [.pt 5 0])),some (.blk true (.cells true l))]
theorem aIF (K M:Nat) (ci:Int) (l:List AV):aDU 6 (gX K M ci l):=by
 refine⟨fun _=>rfl,fun _ _=>rfl,fun _=>rfl,?_,?_⟩
 ·intro a e h0 h1
  (sym=>(simp[Xb,Xe,Xf,Xv,Xy,Xz,WA,WF,WH,WJ,WL,WM,WN,WO,WP,WV,WW,WX,WY,Vb,Vc,Vd,Ve,VO,VP,VW,VX,VY,VZ,Ua,Ub,Uc,Uu,Uz,U0,U1,U2,U3,Ty,h0,h1];all_goals tactic=>exact rfl))
 ·intro a
  (sym=>(simp[Za,YY,Xb,Xe,Xs,Xv,Xy,XK,Wf,WA,WF,WH,WJ,WL,WM,WN,WO,WP,WV,WW,WX,WY,Vb,Vc,Vd,Ve,Vs,V9,VA,VB,VW,VX,VY,VZ,Ua,Ub,Uc,Uu,Uz,U0,U1,U2,U3,U6,UA,Sl];all_goals tactic=>exact rfl))
structure aLj (st:Nat→Nat) (cl M M' f:Nat):Prop where
 sub:sub M M'
 lt:M'<65536
 has:cl.testBit f=true∨M'.testBit f=true
 new:∀ a,M'.testBit a=true→M.testBit a=false→Rch st (2^f) cl a∧∀ b,(st a).testBit b=true→cl.testBit b=false→M'.testBit b=true
def Clr (ci:Int) (cl:Nat):Prop:=∀ f:Nat,f<16→runW aA 60 [I ci,I f] []=some (.bool (cl.testBit f),[])
def wM (l:List AV) (ci:Int) (M M' f:Nat):Prop:=runW aA 84 [I (f:Nat),.pt 0 0,.pt 1 0,.pt 2 0,.pt 4 0] (gV M ci l)=some (.tup [],gV M' ci l)
theorem aLm {l:List AV} {ci:Int} {M M' v:Nat} (h:wM l ci M M' v):Yd (gX 84 M ci l) (gX 84 M' ci l) v true:=by
 unfold wM at h
 have y:runYW aA (.fn (.yield 0) [] []) [I (v:Nat)] (gX 84 M ci l)=some (.bool true,gX 84 M' ci l):=by
  rw[iI (K:=84) (d:=x84) (site:=0) (vs:=[.pt 1 0]) rfl rfl (by rfl) rfl]
  (sym=>(simp[Za,Zb,Zf,Zg,Zh,Zj,Zl,Zm,Zv,ZG,ZO,ZP,ZT,ZU,YU,YV,Xb,Xe,Xp,Xq,Xs,Xv,Xy,X0,Wc,Wx,Wy,Wz,W0,W5,W6,W9,WA,WB,WC,WE,WF,WG,WH,WI,WJ,WK,WL,WM,WN,WO,WP,WR,WS,WT,WV,WW,WX,WY,Vb,Vc,Vd,Ve,Vf,Vg,Vh,Vi,Vs,Vu,Vv,Vw,V8,VB,VN,VW,VX,VY,VZ,Ua,Ub,Uc,Ud,Ue,Uh,Ut,Uu,Uz,U0,U1,U2,U3,UJ,UK,UY,UZ,Td,Tr,Tv,Tz,TR,TS,TT,TU,Sc,Sd,Se,Sf,Sl,S4,S5,S7,S8,S9,SA,h];all_goals tactic=>exact rfl))
 intro a
 (sym=>(simp[YU,Xb,Xe,Xf,Xp,Xq,Xv,Xy,Xz,Wx,W0,W5,W6,W9,WA,WB,WC,WE,WG,WH,WI,WJ,WK,WM,WN,WR,WS,WT,WV,WW,WX,WY,Vc,Vd,Ve,Vf,Vg,Vh,Vi,VW,VX,VY,VZ,Ua,Ud,Ue,Uh,Ut,Uu,Uz,U0,U1,U2,U3,Sb,y];all_goals tactic=>exact rfl))
theorem aEd {st:Nat→Nat} {l:List AV} {ci:Int} {cl:Nat} {M0:Nat} (h0:M0<65536) (a:Nat) (hv:∀ M v,M<65536→sub M0 M→v∈el a→∃ M',aLj st cl M M' v∧wM l ci M M' v) :
 ∃ F:Nat→Nat,F 0=M0∧(∀ i v,(el a)[i]?=some v→wM l ci (F i) (F (i+1)) v)∧sub M0 (F (el a).length)∧F (el a).length<65536∧(∀ v∈el a,cl.testBit v=true∨(F (el a).length).testBit v=true) ∧
   (∀ b,(F (el a).length).testBit b=true→M0.testBit b=false→(∃ v∈el a,Rch st (2^v) cl b)∧∀ c,(st b).testBit c=true→cl.testBit c=false→(F (el a).length).testBit c=true):=by
 obtain⟨F,f0,f1,f2⟩:=aEw (el a).length
  (fun i M=>sub M0 M∧M<65536∧(∀ j v,j<i→(el a)[j]?=some v→cl.testBit v=true∨M.testBit v=true) ∧
   (∀ b,M.testBit b=true→M0.testBit b=false→(∃ v∈el a,Rch st (2^v) cl b)∧∀ c,(st b).testBit c=true→cl.testBit c=false→M.testBit c=true))
  (fun i M M'=>∀ v,(el a)[i]?=some v→wM l ci M M' v) M0
  ⟨dD _,h0,fun j v hj=>absurd hj (by omega),fun b h1 h2=>by rw[h1]at h2;simp at h2⟩
  (by
   rintro i M hi ⟨g1,g2,g3,g4⟩
   obtain⟨v,hx⟩:=bZ hi
   have hm:=List.mem_of_getElem? hx
   obtain⟨M',p,k⟩:=hv M v g2 g1 hm
   refine⟨M',⟨rA g1 p.sub,p.lt,?_,?_⟩,fun w hw=>by rw[hx]at hw;rw[←Option.some.inj hw];exact k⟩
   ·intro j w hj hw
    by_cases e:j=i
    ·subst e
     rw[hx]at hw
     rw[←Option.some.inj hw];exact p.has
    ·rcases g3 j w (by omega) hw with h|h
     ·exact .inl h
     ·exact .inr (p.sub _ h)
   ·intro b h1 h2
    cases hb:M.testBit b
    ·have:=p.new b h1 hb
     exact⟨⟨v,hm,this.1⟩,this.2⟩
    ·obtain⟨q1,q2⟩:=g4 b hb h2
     exact⟨q1,fun c hc hd=>p.sub _ (q2 c hc hd)⟩)
 obtain⟨e1,e2,e3,e4⟩:=f1 _ (Nat.le_refl _)
 refine⟨F,f0,fun i v hx=>f2 i (fG hx) v hx,e1,e2,?_,e4⟩
 intro v hm
 obtain⟨j,hj⟩:=List.getElem?_of_mem hm
 exact e3 j v (fG hj) hj
theorem aHx {st:Nat→Nat} {cl f v b:Nat} (hf:cl.testBit f=false) (hv:(st f).testBit v=true) (h:Rch st (2^v) cl b):Rch st (2^f) cl b:=by
 induction h with
 | base h g =>
   rw[pY]at h
   obtain rfl:=of_decide_eq_true h
   exact .step (.base (by rw[pY];simp) hf) hv g
 | step _ h g ih=>exact .step ih h g
theorem w84 {l:List AV} {st:Nat→Nat} {ci:Int} {cl:Nat} (hl:∀ k,k<16→l[6+k]?=some (I (st k))) (hst:∀ k,st k<65536) (hc:Clr ci cl) :
 ∀ n M f,M<65536→f<16→16≤bS M+n→∃ M',aLj st cl M M' f∧wM l ci M M' f:=by
 intro n
 induction n with
 | zero =>
   intro M f hM hf hn
   have e1:=pG (a:=M) (j:=f) (by omega) (by omega)
   cases h:M.testBit f
   ·have:=lQ hf h
    have:=lR (M|||2^f)
    omega
   ·refine⟨M,⟨dD _,hM,.inr h,fun a h1 h2=>by rw[h1]at h2;simp at h2⟩,?_⟩
    rw[h]at e1
    unfold wM
    rw[r84 (by simp)];unfold x84;dsimp only
    (sym=>(simp[Za,Zb,Zf,Zg,Zj,Zl,Zm,Zp,Zt,Zv,Zy,ZG,ZO,ZP,ZT,ZU,ZV,YU,YY,Xb,Xe,Xp,Xq,Xs,Xv,Xy,XK,Wc,Wf,Wi,Wx,Wy,Wz,W6,W7,W9,WA,WF,WH,WJ,WK,WL,WM,WN,WO,WP,WR,WS,WV,WW,WX,Vb,Vc,Vd,Vf,Vg,Vh,Vs,Vu,Vv,Vx,Vy,V0,V6,V7,V9,VA,VB,VC,VE,VG,VL,VQ,VR,VV,VW,VX,VY,VZ,Ua,Ub,Uc,Ud,Ue,Uu,Uz,U0,U1,U2,U3,U6,UA,UB,UY,UZ,Td,Tm,Tn,Ts,Tu,Tz,T0,Sl,S4,S5,S6,S8,S9,SA,e1];all_goals tactic=>exact rfl))
 | succ n ih =>
   intro M f hM hf hn
   have e1:=pG (a:=M) (j:=f) (by omega) (by omega)
   have e2:=hc f hf
   cases h:M.testBit f
   ·cases h2:cl.testBit f
    ·rw[h]at e1
     rw[h2]at e2
     have e3:=w62 (j:=f) (by omega)
     have hp:2^f<65536:=Nat.pow_lt_pow_of_lt (a:=2) (n:=f) (m:=16) (by omega) hf
     have o1:=cN bW (a:=M) (b:=2^f) (by omega) (Nat.lt_trans hp (by omega))
     have hM1:M|||2^f<65536:=Nat.or_lt_two_pow (n:=16) hM hp
     have hcu:=lQ hf h
     obtain⟨F,f0,f1,f2,f3,f4,f5⟩:=aEd (st:=st) (l:=l) (ci:=ci) (cl:=cl) hM1 (st f) (fun M' v h1 h2 h3=>ih M' v h1 (fB.1 h3).1 (by have:=qS h2;omega))
     have ea:=qL (n:=6) (G:=fun i=>gX 84 (F i) ci l) (hst f) (fun i _=>aIF 84 _ _ _) (fun i v hx=>aLm (f1 i v hx))
     rw[f0]at ea
     have w8:=w80 (a:=st f)
     have k1:=hl f hf
     have n1:((0:Int)≤f)=True:=eq_true (by omega)
     have m1:((f:Int)<16)=True:=eq_true (by omega)
     refine⟨F (el (st f)).length,⟨rA (aIQ M f) f2,f3,.inr (f2 f (by rw[dN];simp)),?_⟩,?_⟩
     ·intro a h3 h4
      by_cases ha:f=a
      ·subst ha
       refine⟨.base (by rw[pY];simp) h2,fun b hb hd=>?_⟩
       rcases f4 b (fB.2 ⟨iE (hst f) hb,hb⟩)with q|q
       ·rw[hd]at q;simp at q
       ·exact q
      ·obtain⟨⟨v,hv,q1⟩,q2⟩:=f5 a h3 (by rw[dN,h4];simp[ha])
       exact⟨aHx h2 (fB.1 hv).2 q1,q2⟩
     ·unfold wM
      generalize M|||2^f=M1 at *
      generalize F (el (st f)).length=M2 at *
      have ea:runW aA 86 [.fn (.yield 0) [] [],.pt 6 0] [some (.loop 84 0 [.pt 1 0] .ready),some (.blk false (.cells true [.fn (.func 84) [] [.pt 2 0,.pt 3 0,.pt 4 0,.pt 1 0]])),cI M1,some (.blk true (.cells true [I ci])),some (.blk false (.cells true [.pt 5 0])),some (.blk true (.cells true l)),cI (st f)] =
       some (.tup [],[some (.loop 84 0 [.pt 1 0] .ready),some (.blk false (.cells true [.fn (.func 84) [] [.pt 2 0,.pt 3 0,.pt 4 0,.pt 1 0]])),cI M2,some (.blk true (.cells true [I ci])),some (.blk false (.cells true [.pt 5 0])),some (.blk true (.cells true l)),some (.blk true (.cells true [.int .i64 0]))]):=ea
      rw[r84 (by simp)];unfold x84;dsimp only
      (sym=>(simp[Za,Zb,Zc,Ze,Zf,Zg,Zh,Zi,Zj,Zl,Zm,Zp,Zr,Zv,Zy,Z2,Z3,Z8,Z9,ZG,ZH,ZJ,ZK,ZM,ZN,ZO,ZP,ZQ,ZR,ZT,ZU,ZW,Yb,Yn,Yw,Yx,YO,YT,YU,YY,Xb,Xe,Xf,Xg,Xp,Xq,Xs,Xv,Xy,Xz,XK,Wc,Wf,Wi,Wo,Ww,Wx,Wy,Wz,W0,W3,W5,W6,W7,W9,WA,WB,WC,WE,WF,WG,WH,WI,WJ,WK,WL,WM,WN,WO,WP,WR,WS,WT,WV,WW,WX,WY,Vb,Vc,Vd,Ve,Vf,Vg,Vh,Vi,Vj,Vk,Vl,Vm,Vs,Vu,Vv,Vx,Vy,V0,V5,V7,V9,VA,VB,VC,VE,VG,VL,VQ,VS,VV,VW,VX,VY,VZ,Ua,Ub,Uc,Ud,Ue,Uh,Uj,Un,Uo,Uq,Ur,Ut,Uu,Ux,Uy,Uz,U0,U1,U2,U3,U4,U5,U6,UA,UB,UC,UY,UZ,Td,Te,Tf,Tl,Tm,Tp,Tr,Ts,Tv,Tz,T0,TB,TR,TS,TV,TW,TX,TY,TZ,Sa,Si,Sl,Sx,S4,S5,S6,S8,S9,SA,e1,e2,e3,o1,w8,k1,n1,m1,ea];all_goals tactic=>exact rfl))
    ·refine⟨M,⟨dD _,hM,.inl h2,fun a h1 h2=>by rw[h1]at h2;simp at h2⟩,?_⟩
     rw[h]at e1
     rw[h2]at e2
     unfold wM
     rw[r84 (by simp)];unfold x84;dsimp only
     (sym=>(simp[Za,Zb,Zf,Zg,Zj,Zl,Zm,Zp,Zr,Zv,Zy,ZG,ZO,ZP,ZT,ZU,ZW,YU,YY,Xb,Xe,Xp,Xq,Xs,Xv,Xy,XK,Wc,Wf,Wi,Wx,Wy,Wz,W6,W7,W9,WA,WF,WH,WJ,WK,WL,WM,WN,WO,WP,WR,WS,WV,WW,WX,Vb,Vc,Vd,Vf,Vg,Vh,Vs,Vu,Vv,Vx,Vy,V0,V6,V7,V9,VA,VB,VC,VE,VG,VL,VQ,VR,VV,VW,VX,VY,VZ,Ua,Ub,Uc,Ud,Ue,Uu,Uz,U0,U1,U2,U3,U6,UA,UB,UY,UZ,Td,Tm,Tn,Ts,Tu,Tz,T0,Sl,S4,S5,S6,S8,S9,SA,e1,e2];all_goals tactic=>exact rfl))
   ·refine⟨M,⟨dD _,hM,.inr h,fun a h1 h2=>by rw[h1]at h2;simp at h2⟩,?_⟩
    rw[h]at e1
    unfold wM
    rw[r84 (by simp)];unfold x84;dsimp only
    (sym=>(simp[Za,Zb,Zf,Zg,Zj,Zl,Zm,Zp,Zt,Zv,Zy,ZG,ZO,ZP,ZT,ZU,ZV,YU,YY,Xb,Xe,Xp,Xq,Xs,Xv,Xy,XK,Wc,Wf,Wi,Wx,Wy,Wz,W6,W7,W9,WA,WF,WH,WJ,WK,WL,WM,WN,WO,WP,WR,WS,WV,WW,WX,Vb,Vc,Vd,Vf,Vg,Vh,Vs,Vu,Vv,Vx,Vy,V0,V6,V7,V9,VA,VB,VC,VE,VG,VL,VQ,VR,VV,VW,VX,VY,VZ,Ua,Ub,Uc,Ud,Ue,Uu,Uz,U0,U1,U2,U3,U6,UA,UB,UY,UZ,Td,Tm,Tn,Ts,Tu,Tz,T0,Sl,S4,S5,S6,S8,S9,SA,e1];all_goals tactic=>exact rfl))
def oL (st:Nat→Nat) (cl:Nat) (m a:Nat):Nat:=if m.testBit a then m|||jP (st a) cl else m
def aKG (st:Nat→Nat) (cl:Nat) (m:Nat):Nat:=(List.range 16).foldl (oL st cl) m
def pX (st:Nat→Nat) (s cl:Nat):Nat→Nat
 | 0=>jP s cl
 | n+1=>aKG st cl (pX st s cl n)
def jH (st:Nat→Nat) (s cl:Nat):Nat:=pX st s cl 16
section
variable {st:Nat→Nat} {s cl:Nat} (hst:∀ k,st k<65536) (hs:s<65536) (hcl:cl<65536)
theorem aAB (m a:Nat):sub m (oL st cl m a):=fun i hi=>by
 unfold oL
 split
 ·rw[Nat.testBit_or,hi];rfl
 ·exact hi
include hst in
theorem aHy {m:Nat} (a:Nat) (h:m<65536):oL st cl m a<65536:=by
 unfold oL
 split
 ·exact Nat.or_lt_two_pow (n:=16) h (Nat.lt_of_le_of_lt (iS _ _) (hst a))
 ·exact h
theorem rW (l:List Nat) (m:Nat):sub m (l.foldl (oL st cl) m):=by
 induction l generalizing m with
 | nil=>exact dD _
 | cons a l ih=>exact rA (aAB m a) (ih _)
include hst in
theorem aFM (l:List Nat) {m:Nat} (h:m<65536):l.foldl (oL st cl) m<65536:=by
 induction l generalizing m with
 | nil=>exact h
 | cons a l ih=>exact ih (aHy hst a h)
include hst hs in
theorem tM:∀ n,pX st s cl n<2^16
 | 0=>Nat.lt_of_le_of_lt (iS _ _) hs
 | n+1=>aFM hst _ (tM n)
include hcl in
theorem aFm:∀ n i,(pX st s cl n).testBit i=true→Rch st s cl i:=by
 have main:∀ (l:List Nat) (m:Nat),(∀ i,m.testBit i=true→Rch st s cl i)→∀ i,(l.foldl (oL st cl) m).testBit i=true→Rch st s cl i:=by
  intro l
  induction l with
  | nil=>intro m h;exact h
  | cons a l ih =>
    intro m h
    refine ih _ fun i hi=>?_
    unfold oL at hi
    split at hi
    ·next ha =>
     rw[Nat.testBit_or,Bool.or_eq_true]at hi
     rcases hi with hi|hi
     ·exact h i hi
     ·rw[bU (by omega)]at hi
      simp only[Bool.and_eq_true,Bool.not_eq_true']at hi
      exact .step (h a ha) hi.1 hi.2.2
    ·exact h i hi
 intro n
 induction n with
 | zero =>
   intro i hi
   rw[pX,bU (by omega)]at hi
   simp only[Bool.and_eq_true,Bool.not_eq_true']at hi
   exact .base hi.1 hi.2.2
 | succ n ih=>exact main _ _ ih
include hst hcl in
theorem aDw {m:Nat} (hm:m<65536) (h:aKG st cl m=m):Clo st cl m:=by
 intro a b ha hb hc
 have h16:=iE hm ha
 have main:∀ (l:List Nat) (m:Nat),m.testBit a=true→a∈l→(l.foldl (oL st cl) m).testBit b=true:=by
  intro l
  induction l with
  | nil=>intro m _ h;simp at h
  | cons k l ih =>
    intro m hm hk
    by_cases e:a=k
    ·subst e
     refine rW l _ b ?_
     unfold oL
     rw[if_pos hm,Nat.testBit_or,bU (by omega),hb,hc]
     have:=iE (hst a) hb
     simp;omega
    ·exact ih _ (aAB m k a hm) (by rcases List.mem_cons.1 hk with h|h;exact absurd h e;exact h)
 have:=main (List.range 16) m ha (List.mem_range.2 h16)
 rw[show (List.range 16).foldl (oL st cl) m=m from h]at this
 exact this
include hst hs hcl in
theorem lC (i:Nat):(jH st s cl).testBit i=true↔Rch st s cl i:=by
 constructor
 ·exact aFm hcl 16 i
 ·intro h
  refine h.sub (m:=jH st s cl) (fun j hj hc=>?_) ?_
  ·have:∀ n,(pX st s cl n).testBit j=true:=by
    intro n
    induction n with
    | zero =>
      rw[pX,bU (by omega),hj,hc]
      have:=iE hs hj
      simp;omega
    | succ n ih=>exact rW _ _ j ih
   exact this 16
  ·refine aKS (F:=16) (M:=pX st s cl) (P:=Clo st cl) (by omega) (tM hst hs) (fun k=>rW _ _) (fun k hk=>aDw hst hcl (tM hst hs k) hk) (fun k hk=>?_) ?_
   ·have e:pX st s cl (k+1)=pX st s cl k:=by
     have hin:∀ (l:List Nat),l.foldl (oL st cl) (pX st s cl k)=pX st s cl k:=by
      intro l
      induction l with
      | nil=>rfl
      | cons a l ih =>
        have:oL st cl (pX st s cl k) a=pX st s cl k:=by
         unfold oL
         split
         ·next ha =>
          refine iW (fun i hi=>?_) (fun i hi=>by rw[Nat.testBit_or,hi];rfl)
          rw[Nat.testBit_or,Bool.or_eq_true]at hi
          rcases hi with hi|hi
          ·exact hi
          ·rw[bU (by omega)]at hi
           simp only[Bool.and_eq_true,Bool.not_eq_true']at hi
           exact hk a i ha hi.1 hi.2.2
         ·rfl
        rw[List.foldl_cons,this,ih]
     exact hin _
    rw[e];exact hk
   ·intro a b _ hb _
    rw[Nat.testBit_two_pow_sub_one]
    simpa using iE (hst a) hb
include hst hs in
theorem aDv:jH st s cl<65536:=tM hst hs 16
end
theorem w78 {l:List AV} {st:Nat→Nat} {ci:Int} {s cl:Nat} (hl:∀ k,k<16→l[6+k]?=some (I (st k))) (h3:l[3]?=some (I s)) (hst:∀ k,st k<65536) (hs:s<65536) (hcl:cl<65536) (hc:Clr ci cl) :
 runW aA 78 [.pt 0 0,I ci] [some (.blk true (.cells true l))]=some (I (jH st s cl:Nat),[some (.blk true (.cells true l))]):=by
 obtain⟨F,f0,f1,f2,f3,f4,f5⟩:=aEd (st:=st) (l:=l) (ci:=ci) (cl:=cl) (M0:=0) (by omega) s (fun M' v h1 h2 h3=>w84 hl hst hc 16 M' v h1 (fB.1 h3).1 (by omega))
 have er:F (el s).length=jH st s cl:=by
  apply Nat.eq_of_testBit_eq
  intro i
  rw[Bool.eq_iff_iff,lC hst hs hcl]
  constructor
  ·intro h
   obtain⟨⟨v,hv,q⟩,_⟩:=f5 i h (by simp)
   refine q.mono (fun j hj=>?_) (fun _=>dD _) (dD _)
   rw[pY]at hj
   rw[←of_decide_eq_true hj];exact(fB.1 hv).2
  ·intro h
   refine h.sub (fun j hj hd=>?_) (fun a b ha hb hd=>(f5 a ha (by simp)).2 b hb hd)
   rcases f4 j (fB.2 ⟨iE hs hj,hj⟩)with q|q
   ·rw[hd]at q;simp at q
   ·exact q
 have ea:=qL (n:=6) (G:=fun i=>gX 78 (F i) ci l) hs (fun i _=>aIF 78 _ _ _) (fun i v hx=>by
  have h:=f1 i v hx
  generalize F i=M at *
  generalize F (i+1)=M' at *
  unfold wM at h
  have y:runYW aA (.fn (.yield 0) [] []) [I (v:Nat)] (gX 78 M ci l)=some (.bool true,gX 78 M' ci l):=by
   rw[iI (K:=78) (d:=x78) (site:=0) (vs:=[.pt 1 0]) rfl rfl (by rfl) rfl]
   (sym=>(simp[Za,Zb,Zf,Zg,Zh,Zj,Zl,Zm,Zv,ZG,ZO,ZP,ZT,ZU,YU,YV,Xb,Xe,Xp,Xq,Xs,Xv,Xy,X0,Wc,Wx,Wy,Wz,W0,W5,W6,W9,WA,WB,WC,WE,WF,WG,WH,WI,WJ,WK,WL,WM,WN,WO,WP,WR,WS,WT,WV,WW,WX,WY,Vb,Vc,Vd,Ve,Vf,Vg,Vh,Vi,Vs,Vu,Vv,Vw,V8,VB,VN,VW,VX,VY,VZ,Ua,Ub,Uc,Ud,Ue,Uh,Ut,Uu,Uz,U0,U1,U2,U3,UJ,UK,UY,UZ,Td,Tr,Tv,Tz,TR,TS,TT,TU,Sc,Sd,Se,Sf,Sl,S4,S5,S7,S8,S9,SA,h];all_goals tactic=>exact rfl))
  intro a
  (sym=>(simp[YU,Xb,Xe,Xf,Xp,Xq,Xv,Xy,Xz,Wx,W0,W5,W6,W9,WA,WB,WC,WE,WG,WH,WI,WJ,WK,WM,WN,WR,WS,WT,WV,WW,WX,WY,Vc,Vd,Ve,Vf,Vg,Vh,Vi,VW,VX,VY,VZ,Ua,Ud,Ue,Uh,Ut,Uu,Uz,U0,U1,U2,U3,Sb,y];all_goals tactic=>exact rfl)))
 rw[f0]at ea
 have w8:=w80 (a:=s)
 rw[er]at ea
 generalize jH st s cl=M2 at *
 have ea:runW aA 86 [.fn (.yield 0) [] [],.pt 6 0] [some (.loop 78 0 [.pt 1 0] .ready),some (.blk false (.cells true [.fn (.func 84) [] [.pt 2 0,.pt 3 0,.pt 4 0,.pt 1 0]])),some (.blk true (.cells true [.int .i64 0])),some (.blk true (.cells true [I ci])),some (.blk false (.cells true [.pt 5 0])),some (.blk true (.cells true l)),cI s] =
  some (.tup [],[some (.loop 78 0 [.pt 1 0] .ready),some (.blk false (.cells true [.fn (.func 84) [] [.pt 2 0,.pt 3 0,.pt 4 0,.pt 1 0]])),cI M2,some (.blk true (.cells true [I ci])),some (.blk false (.cells true [.pt 5 0])),some (.blk true (.cells true l)),some (.blk true (.cells true [.int .i64 0]))]):=ea
 rw[r78 (by simp)];unfold x78;dsimp only
 (sym=>(simp[Za,Zb,Zc,Zf,Zh,Zl,Zm,Zo,Zv,Zw,Zx,Zz,Z2,Z8,ZG,ZK,ZL,ZO,ZP,ZT,ZU,Yb,YT,YU,Xb,Xe,Xf,Xg,Xl,Xn,Xo,Xp,Xs,Xv,Xy,Xz,X0,Wc,Wi,Wo,Wt,Wv,Wx,Wy,Wz,W0,W3,W5,W6,W7,W9,WA,WB,WC,WE,WG,WH,WI,WJ,WK,WL,WM,WN,WO,WP,WR,WS,WT,WV,WW,WX,WY,Vb,Vc,Vd,Ve,Vf,Vg,Vh,Vi,Vs,V6,V7,V9,VA,VB,VC,VD,VG,VH,VI,VJ,VL,VV,VW,VX,VY,VZ,Ua,Ub,Uc,Ud,Ue,Uh,Uj,Ul,Ur,Ut,Uu,Uz,U0,U1,U2,U3,U4,U5,UA,UB,UC,UL,UM,UY,UZ,Td,Te,Tf,Tg,Tm,Tn,Tr,Ts,Tv,Tz,T0,TR,TS,TV,TW,TX,TY,TZ,Sa,Sl,w8,h3,ea];all_goals tactic=>exact rfl))
def rC (st:Nat→Nat) (s nur cl:Nat):Bool:=decide (jH st s cl&&&nur=0)
theorem xH:∀ l:List AV,(∀ e∈l,cK e e=true)→eB l l=true
 | [],_=>by simp[eB]
 | x::l,h=>by
   have:=xH l (fun e he=>h e (List.mem_cons_of_mem _ he))
   simp[eB,this,h x List.mem_cons_self]
theorem rE:∀ l:List (List AV),(∀ e∈l,eB e e=true)→pO l l=true
 | [],_=>by simp[pO]
 | x::l,h=>by
   have:=rE l (fun e he=>h e (List.mem_cons_of_mem _ he))
   simp[pO,this,h x List.mem_cons_self]
theorem aFA (x:Vn) (st:Nat→Nat):eB (eK x st) (eK x st)=true:=by
 refine xH _ fun e he=>?_
 rw[eK,List.mem_append]at he
 rcases he with he|he
 ·simp only[List.mem_cons,List.not_mem_nil,or_false]at he
  rcases he with rfl|rfl|rfl|rfl|rfl|rfl
  ·simp[cK]
  ·rw[cK]
   refine rE _ fun r hr=>?_
   rw[List.mem_map]at hr
   obtain⟨b,_,rfl⟩:=hr
   simp[eB,cK]
  ·rw[cK]
   refine rE _ fun r hr=>?_
   rw[List.mem_map]at hr
   obtain⟨b,_,rfl⟩:=hr
   simp[eB,cK]
  ·simp[cK]
  ·simp[cK]
  ·simp[cK]
 ·rw[List.mem_map]at he
  obtain⟨b,_,rfl⟩:=he
  simp[cK]
theorem w57 {l:List AV} {st:Nat→Nat} {ci:Int} {s nur cl:Nat} (hsm:eB l l=true) (hl:∀ k,k<16→l[6+k]?=some (I (st k))) (h3:l[3]?=some (I s)) (h4:l[4]?=some (I nur)) (hst:∀ k,st k<65536) (hs:s<65536) (hn:nur<65536) (hcl:cl<65536) (hc:Clr ci cl) :
 runW aA 57 [.pt 0 0,I ci] [some (.blk true (.cells true l))]=some (.bool (rC st s nur cl),[some (.blk true (.cells true l))]):=by
 have e:=w78 hl h3 hst hs hcl hc
 have hr:=aDv (cl:=cl) hst hs
 have b1:=qT bW (a:=jH st s cl) (b:=nur) (by omega) (by omega)
 unfold rC
 generalize jH st s cl=R at *
 by_cases h:R&&&nur=0
 ·have c1:(((R&&&nur:Nat):Int)=0)=True:=eq_true (by omega)
  rw[decide_eq_true h]
  rw[r57 (by simp)];unfold x57;dsimp only
  (sym=>(simp[Za,Zb,Zd,Ze,Zf,Zg,Zh,Zk,Zl,Zm,Zv,Z2,Z3,Z8,ZH,ZJ,ZM,ZQ,ZR,ZT,ZU,Yb,Ym,Yq,YT,YU,YV,Xb,Xp,Xq,Xv,X0,XI,XN,Wc,Wd,Wi,Wx,Wy,Wz,W0,W5,W6,W7,WA,WC,WE,WH,WI,WJ,WK,WL,WM,WN,WO,WP,WR,WS,WT,WV,WW,Vb,Vc,Vf,Vg,Vh,Vi,Vk,Vl,Vm,Vo,Vs,Vu,Vv,Vw,V6,V7,V9,VA,VB,VC,VD,VG,VH,VI,VJ,VL,VV,VW,VX,VZ,Ua,Ub,Uc,Ud,Ue,Uj,Um,Uq,Uu,Uv,Ux,Uy,Uz,U0,U1,U2,U3,UA,UB,UY,UZ,Td,Tl,Tm,Tn,Ts,Tz,T0,Sl,Sp,S4,S5,S7,S8,S9,SA,e,b1,h4,c1,hsm];all_goals tactic=>exact rfl))
 ·have c1:(((R&&&nur:Nat):Int)=0)=False:=eq_false (by omega)
  rw[decide_eq_false h]
  rw[r57 (by simp)];unfold x57;dsimp only
  (sym=>(simp[Za,Zb,Zd,Ze,Zf,Zg,Zh,Zk,Zl,Zm,Zv,Z2,Z3,Z8,ZH,ZJ,ZM,ZQ,ZR,ZT,ZU,Yb,Ym,Yq,YT,YU,YV,Xb,Xp,Xq,Xv,X0,XI,XN,Wc,Wd,Wi,Wx,Wy,Wz,W0,W5,W6,W7,WA,WC,WE,WH,WI,WJ,WK,WL,WM,WN,WO,WP,WR,WS,WT,WV,WW,Vb,Vc,Vf,Vg,Vh,Vi,Vk,Vl,Vm,Vo,Vs,Vu,Vv,Vw,V6,V7,V9,VA,VB,VC,VD,VG,VH,VI,VJ,VL,VV,VW,VX,VZ,Ua,Ub,Uc,Ud,Ue,Uj,Um,Uq,Uu,Uw,Ux,Uy,Uz,U0,U1,U2,U3,UA,UB,UY,UZ,Td,Tl,Tm,Tn,Ts,Tz,T0,Sl,Sp,S4,S5,S7,S8,S9,SA,e,b1,h4,c1,hsm];all_goals tactic=>exact rfl))
section
variable {x:Vn} (ok:x.Ok) {a c:Nat}
include ok in
end
section
variable {st:Nat→Nat} {s cl F:Nat}
end
section
variable {x:Vn} (ok:x.Ok) {cl:Nat} (hcl:cl<2^x.F)
include ok hcl in
end
section
variable {x:Vn} (ok:x.Ok) {c:List Int} (hc:c.length<1000000000)
include ok hc in
end
def jQ (a b:Int):Int:=Int.tmod a b
def kZ (a b:Int):Int:=Int.tdiv a b
def aFk (z:Bool) (k:IntKind) (v:Int):Option AV:=if z then none else some (.int k v)
theorem bH (k:IntKind) (v:Int):aFk false k v=some (.int k v):=rfl
theorem aM {k:IntKind} {a b:Int}:eL .rem k a k b=aFk (decide (b=0)) k (jQ a b):=by
 by_cases h:b=0<;>simp[eL,aFk,h,jQ]
theorem aN {k:IntKind} {a b:Int}:eL .quo k a k b=aFk (decide (b=0)) k (k.wrap (kZ a b)):=by
 by_cases h:b=0<;>simp[eL,aFk,h,kZ]
theorem bX (a b:Nat):kZ (a:Int) (b:Int)=((a/b:Nat):Int):=by rw[kZ,Int.tdiv_eq_ediv_of_nonneg (by omega)];exact(Int.natCast_ediv a b).symm
theorem bD (a b:Nat):jQ (a:Int) (b:Int)=((a%b:Nat):Int):=by rw[jQ,Int.tmod_eq_emod_of_nonneg (by omega)];exact(Int.natCast_emod a b).symm
def flC (fl:Nat→Nat→Int):List AV:=(List.range 1156).map fun k=>I (fl (k/34) (k%34))
def fZ (v:AV) (fl:Nat→Nat→Int):List AV:=v::flC fl
theorem aKH (l:List Nat) (f:Nat→Int):lU (l.map fun k=>I (f k))=[]:=by
 induction l with
 | nil=>simp[lU]
 | cons a l ih=>rw[List.map_cons,lU,ih];rfl
theorem aKF (s:Nat→Option Nat) (l:List Nat) (f:Nat→Int):kD s (l.map fun k=>I (f k))=l.map fun k=>I (f k):=by
 induction l with
 | nil=>simp[kD]
 | cons a l ih=>rw[List.map_cons,kD,ih];rfl
theorem aIG (l:List Nat) (f:Nat→Int):eY (l.map fun k=>I (f k))=true:=by
 induction l with
 | nil=>simp[eY]
 | cons a l ih=>rw[List.map_cons,eY,ih];rfl
theorem aKV (b:Nat) (cs:List AV) (l:List Nat) (f:Nat→Int):tH b cs (l.map fun k=>I (f k))=l.map fun k=>I (f k):=by
 induction l with
 | nil=>simp[tH]
 | cons a l ih=>rw[List.map_cons,tH,ih];rfl
theorem aJ {v:AV} {fl:Nat→Nat→Int}:lU (fZ v fl)=nmA v:=by rw[fZ,lU,flC,aKH (List.range 1156) (fun k=>fl (k/34) (k%34)),List.append_nil]
theorem aI {s:Nat→Option Nat} {v:AV} {fl:Nat→Nat→Int}:kD s (fZ v fl)=fZ (rnA s v) fl:=by rw[fZ,kD,flC,aKF s (List.range 1156) (fun k=>fl (k/34) (k%34))];rfl
theorem aK {v:AV} {fl:Nat→Nat→Int}:eY (fZ v fl)=fR v:=by rw[fZ,eY,flC,aIG (List.range 1156) (fun k=>fl (k/34) (k%34)),Bool.and_true]
theorem aL {b:Nat} {cs:List AV} {v:AV} {fl:Nat→Nat→Int}:tH b cs (fZ v fl)=fZ (wV b cs v) fl:=by rw[fZ,tH,flC,aKV b cs (List.range 1156) (fun k=>fl (k/34) (k%34))];rfl
theorem aS {v:AV} {fl:Nat→Nat→Int}:(fZ v fl)[0]?=some v:=rfl
theorem aId (fl:Nat→Nat→Int):(flC fl).length=1156:=by simp[flC]
theorem aE {v:AV} {fl:Nat→Nat→Int}:(fZ v fl).length=1157:=by rw[fZ,List.length_cons,aId]
theorem bP {v:AV} {fl:Nat→Nat→Int} {a b:Nat} (ha:a<34) (hb:b<34):(fZ v fl)[1+a*34+b]?=some (I (fl a b)):=by
 rw[show 1+a*34+b=(a*34+b)+1 by omega,fZ,List.getElem?_cons_succ,flC,List.getElem?_map,List.getElem?_range (by omega),Option.map_some]
 rw[show (a*34+b)/34=a by omega,show (a*34+b)%34=b by omega]
def jW (fl:Nat→Nat→Int) (a b:Nat) (v:Int):Nat→Nat→Int:=fun c d=>if c=a∧d=b then v else fl c d
theorem qC {v:AV} {fl:Nat→Nat→Int} {a b:Nat} {n:Int} (ha:a<34) (hb:b<34):bY (fZ v fl) (1+a*34+b) [I n]=fZ v (jW fl a b n):=by
 rw[jG (by rw[aE];omega)]
 apply List.ext_getElem?
 intro j
 rw[List.getElem?_set,aE]
 by_cases hj:1+a*34+b=j
 ·subst hj
  rw[if_pos rfl,if_pos (by omega),bP ha hb,jW,if_pos ⟨rfl,rfl⟩]
 ·rw[if_neg hj]
  by_cases h0:j=0
  ·subst h0;rfl
  ·by_cases h:j<1157
   ·obtain⟨c,d,hc,hd,rfl⟩:∃ c d,c<34∧d<34∧j=1+c*34+d:=⟨(j-1)/34,(j-1)%34,by omega,by omega,by omega⟩
    rw[bP hc hd,bP hc hd,jW,if_neg (by rintro ⟨rfl,rfl⟩;exact hj rfl)]
   ·rw[List.getElem?_eq_none (by rw[aE];omega),List.getElem?_eq_none (by rw[aE];omega)]
def bQ (st:Nat→Nat) (s nur fix a b:Nat):Int :=
 if a=32 then (if b%2=0∧b<32∧s.testBit (b/2)=true then 16 else 0)
 else if b=33 then (if a%2=1∧a<32∧nur.testBit (a/2)=true then 16 else 0)
 else if 32≤a∨32≤b then 0
 else if a%2=0∧b=a+1 then (if fix.testBit (a/2)=true then 16 else 1)
 else if a%2=1∧b%2=0∧(st (a/2)).testBit (b/2)=true then 16 else 0
structure aCh (l:List AV) (st:Nat→Nat) (F s nur fix:Nat):Prop where
 k:∀ k,k<16→l[6+k]?=some (I (st k))
 l0:l[0]?=some (I F)
 l3:l[3]?=some (I s)
 l4:l[4]?=some (I nur)
 l5:l[5]?=some (I fix)
 F16:F≤16
 st:∀ k,st k<65536
 s:s<65536
 nur:nur<65536
 fix:fix<65536
theorem aNH {x:Vn} (ok:x.Ok):aCh (eK x (dS x)) (dS x) x.F x.sick x.nur x.fix:=by
 have hp:=aZ ok.F16
 have:=ok.s
 have:=ok.n
 have:=ok.f
 exact⟨fun k hk=>iR hk,rfl,rfl,rfl,rfl,ok.F16,fun k=>Nat.lt_of_lt_of_le (fU ok _ k) hp,by omega,by omega,by omega⟩
def FlB (fl:Nat→Nat→Int):Prop:=∀ a b,0≤fl a b∧fl a b≤100
def cM (st:Nat→Nat) (s nur fix:Nat) (fl:Nat→Nat→Int) (a b:Nat):Int:=bQ st s nur fix a b-fl a b+fl b a
abbrev gN (l:List AV) (fl:Nat→Nat→Int):XH:=[some (.blk false (.cells true (fZ (.pt 1 0) fl))),some (.blk true (.cells true l))]
section
variable {l:List AV} {st:Nat→Nat} {F s nur fix:Nat} (h:aCh l st F s nur fix) {fl:Nat→Nat→Int} (hf:FlB fl) {a b:Nat} (ha:a<34) (hb:b<34)
include h hf ha hb
theorem aFd (c:a=32∧b%2=0∧b<32) (hv:(s).testBit (b/2)=true):runW aA 89 [.pt 0 0,I a,I b] (gN l fl)=some (I (cM st s nur fix fl a b),gN l fl):=by
 have hcap:bQ st s nur fix a b=16:=by
  unfold bQ
  rw[hv,if_pos c.1,if_pos ⟨c.2.1,c.2.2,rfl⟩]
 have f1:=hf a b
 have f2:=hf b a
 have hs:=h.s
 have hn:=h.nur
 have hx:=h.fix
 have hk:=h.st (a/2)
 have u1:IntKind.i64.wrap (16-fl a b)=16-fl a b:=aD (by omega) (by omega)
 have u2:IntKind.i64.wrap (16-fl a b+fl b a)=16-fl a b+fl b a:=aD (by omega) (by omega)
 have t1:jQ (a:Int) 2=((a%2:Nat):Int):=bD a 2
 have t2:jQ (b:Int) 2=((b%2:Nat):Int):=bD b 2
 have t3:kZ (a:Int) 2=((a/2:Nat):Int):=bX a 2
 have t4:kZ (b:Int) 2=((b/2:Nat):Int):=bX b 2
 have t5:IntKind.i64.wrap ((a/2:Nat):Int)=((a/2:Nat):Int):=aD (by omega) (by omega)
 have t6:IntKind.i64.wrap ((b/2:Nat):Int)=((b/2:Nat):Int):=aD (by omega) (by omega)
 have v1:((0:Int)≤a)=True:=eq_true (by omega)
 have v2:((a:Int)<34)=True:=eq_true (by omega)
 have v3:((0:Int)≤b)=True:=eq_true (by omega)
 have v4:((b:Int)<34)=True:=eq_true (by omega)
 have k1:=bP (v:=.pt 1 0) (fl:=fl) ha hb
 have k2:=bP (v:=.pt 1 0) (fl:=fl) hb ha
 have c_a32:((a:Int)=32)=True:=eq_true (by omega)
 have c_be:(((b%2:Nat):Int)=0)=True:=eq_true (by omega)
 have c_b32:((b:Int)<32)=True:=eq_true (by omega)
 have e:=pG (a:=s) (j:=b/2) (by omega) (by omega)
 rw[hv]at e
 have q:=h.l3
 unfold cM
 rw[hcap]
 generalize hA:a/2=a2 at *
 generalize hB:b/2=b2 at *
 generalize hA2:a%2=a3 at *
 generalize hB2:b%2=b3 at *
 rw[r89 (by simp)];unfold x89;dsimp only
 (sym=>(simp[aM,aN,bH,aJ,aI,aK,aL,aS,aE,Za,Zb,Zf,Zh,Zi,Zl,Zm,Zp,Zq,Zv,Zy,Z2,Z3,Z8,Z9,ZG,ZH,ZJ,ZO,ZP,ZT,ZU,ZV,Yb,Yj,Yk,Yq,Ys,Yw,Yx,YO,YT,YU,Xb,Xp,Xq,Xv,X0,Wc,Wi,Wx,Wy,Wz,W6,W7,WA,WF,WH,WJ,WK,WL,WM,WN,WO,WP,WR,WS,WV,WW,WX,Vb,Vc,Vd,Vf,Vg,Vh,Vs,V6,V7,V9,VA,VB,VC,VD,VG,VH,VI,VJ,VL,VQ,VR,VV,VW,VX,VZ,Ua,Ub,Uc,Ud,Ue,Ur,Uu,Uv,Uw,Uz,U0,U1,U2,U3,UA,UB,UY,UZ,Td,Tl,Tm,Tn,Tr,Ts,Tv,Tz,T0,TB,Sl,Sz,u1,u2,t1,t2,t3,t4,t5,t6,v1,v2,v3,v4,k1,k2,c_a32,c_be,c_b32,e,q];all_goals tactic=>exact rfl))
theorem aFe (c:a=32∧b%2=0∧b<32) (hv:(s).testBit (b/2)=false):runW aA 89 [.pt 0 0,I a,I b] (gN l fl)=some (I (cM st s nur fix fl a b),gN l fl):=by
 have hcap:bQ st s nur fix a b=0:=by
  unfold bQ
  rw[hv,if_pos c.1,if_neg (by simp)]
 have f1:=hf a b
 have f2:=hf b a
 have hs:=h.s
 have hn:=h.nur
 have hx:=h.fix
 have hk:=h.st (a/2)
 have u1:IntKind.i64.wrap (0-fl a b)=0-fl a b:=aD (by omega) (by omega)
 have u2:IntKind.i64.wrap (0-fl a b+fl b a)=0-fl a b+fl b a:=aD (by omega) (by omega)
 have t1:jQ (a:Int) 2=((a%2:Nat):Int):=bD a 2
 have t2:jQ (b:Int) 2=((b%2:Nat):Int):=bD b 2
 have t3:kZ (a:Int) 2=((a/2:Nat):Int):=bX a 2
 have t4:kZ (b:Int) 2=((b/2:Nat):Int):=bX b 2
 have t5:IntKind.i64.wrap ((a/2:Nat):Int)=((a/2:Nat):Int):=aD (by omega) (by omega)
 have t6:IntKind.i64.wrap ((b/2:Nat):Int)=((b/2:Nat):Int):=aD (by omega) (by omega)
 have v1:((0:Int)≤a)=True:=eq_true (by omega)
 have v2:((a:Int)<34)=True:=eq_true (by omega)
 have v3:((0:Int)≤b)=True:=eq_true (by omega)
 have v4:((b:Int)<34)=True:=eq_true (by omega)
 have k1:=bP (v:=.pt 1 0) (fl:=fl) ha hb
 have k2:=bP (v:=.pt 1 0) (fl:=fl) hb ha
 have c_a32:((a:Int)=32)=True:=eq_true (by omega)
 have c_be:(((b%2:Nat):Int)=0)=True:=eq_true (by omega)
 have c_b32:((b:Int)<32)=True:=eq_true (by omega)
 have e:=pG (a:=s) (j:=b/2) (by omega) (by omega)
 rw[hv]at e
 have q:=h.l3
 unfold cM
 rw[hcap]
 generalize hA:a/2=a2 at *
 generalize hB:b/2=b2 at *
 generalize hA2:a%2=a3 at *
 generalize hB2:b%2=b3 at *
 rw[r89 (by simp)];unfold x89;dsimp only
 (sym=>(simp[aM,aN,bH,aJ,aI,aK,aL,aS,aE,Za,Zb,Zf,Zh,Zi,Zl,Zm,Zp,Zq,Zv,Zy,Z2,Z3,Z8,Z9,ZG,ZH,ZJ,ZO,ZP,ZT,ZU,ZV,Yb,Yj,Yk,Yq,Ys,Yw,Yx,YO,YT,YU,Xb,Xp,Xq,Xv,X0,Wc,Wi,Wx,Wy,Wz,W6,W7,WA,WF,WH,WJ,WK,WL,WM,WN,WO,WP,WR,WS,WV,WW,WX,Vb,Vc,Vd,Vf,Vg,Vh,Vs,V6,V7,V9,VA,VB,VC,VD,VG,VH,VI,VJ,VL,VQ,VR,VS,VV,VW,VX,VZ,Ua,Ub,Uc,Ud,Ue,Ur,Uu,Uv,Uw,Uz,U0,U1,U2,U3,UA,UB,UY,UZ,Td,Tl,Tm,Tn,Tp,Tr,Ts,Tv,Tz,T0,TB,Sl,Sz,u1,u2,t1,t2,t3,t4,t5,t6,v1,v2,v3,v4,k1,k2,c_a32,c_be,c_b32,e,q];all_goals tactic=>exact rfl))
theorem aHt (c:a=32∧b%2=0∧¬b<32):runW aA 89 [.pt 0 0,I a,I b] (gN l fl)=some (I (cM st s nur fix fl a b),gN l fl):=by
 have hcap:bQ st s nur fix a b=0:=by
  unfold bQ
  split<;>(try split)<;>(try split)<;>(try split)<;>(try split)<;>first|rfl|(exfalso;simp at *;omega)|(exfalso;omega)
 have f1:=hf a b
 have f2:=hf b a
 have hs:=h.s
 have hn:=h.nur
 have hx:=h.fix
 have hk:=h.st (a/2)
 have u1:IntKind.i64.wrap (0-fl a b)=0-fl a b:=aD (by omega) (by omega)
 have u2:IntKind.i64.wrap (0-fl a b+fl b a)=0-fl a b+fl b a:=aD (by omega) (by omega)
 have t1:jQ (a:Int) 2=((a%2:Nat):Int):=bD a 2
 have t2:jQ (b:Int) 2=((b%2:Nat):Int):=bD b 2
 have t3:kZ (a:Int) 2=((a/2:Nat):Int):=bX a 2
 have t4:kZ (b:Int) 2=((b/2:Nat):Int):=bX b 2
 have t5:IntKind.i64.wrap ((a/2:Nat):Int)=((a/2:Nat):Int):=aD (by omega) (by omega)
 have t6:IntKind.i64.wrap ((b/2:Nat):Int)=((b/2:Nat):Int):=aD (by omega) (by omega)
 have v1:((0:Int)≤a)=True:=eq_true (by omega)
 have v2:((a:Int)<34)=True:=eq_true (by omega)
 have v3:((0:Int)≤b)=True:=eq_true (by omega)
 have v4:((b:Int)<34)=True:=eq_true (by omega)
 have k1:=bP (v:=.pt 1 0) (fl:=fl) ha hb
 have k2:=bP (v:=.pt 1 0) (fl:=fl) hb ha
 have c_a32:((a:Int)=32)=True:=eq_true (by omega)
 have c_be:(((b%2:Nat):Int)=0)=True:=eq_true (by omega)
 have c_b32:((b:Int)<32)=False:=eq_false (by omega)
 unfold cM
 rw[hcap]
 generalize hA:a/2=a2 at *
 generalize hB:b/2=b2 at *
 generalize hA2:a%2=a3 at *
 generalize hB2:b%2=b3 at *
 rw[r89 (by simp)];unfold x89;dsimp only
 (sym=>(simp[aM,aN,bH,aJ,aI,aK,aL,aS,aE,Za,Zb,Zf,Zh,Zi,Zl,Zm,Zp,Zq,Zs,Zv,Zy,Z2,Z3,Z8,Z9,ZH,ZJ,ZV,ZW,Yb,Yj,Yk,Yq,Ys,Yw,Yx,YO,YT,YU,Xb,Xp,Xv,X0,Wc,Wi,Wx,Wy,Wz,W7,WA,WF,WH,WJ,WL,WM,WN,WO,WP,WV,WW,WX,Vb,Vc,Vd,Vs,V6,V7,V9,VA,VB,VC,VD,VG,VH,VI,VJ,VL,VQ,VR,VS,VV,VW,VX,VZ,Ua,Ub,Uc,Ud,Ue,Ur,Uu,Uv,Uw,Uz,U0,U1,UA,UB,UY,UZ,Td,Tl,Tm,Tn,Tp,Tr,Ts,Tv,Tz,T0,TB,Sl,Sz,u1,u2,t1,t2,t3,t4,t5,t6,v1,v2,v3,v4,k1,k2,c_a32,c_be,c_b32];all_goals tactic=>exact rfl))
theorem aHs (c:a=32∧¬b%2=0):runW aA 89 [.pt 0 0,I a,I b] (gN l fl)=some (I (cM st s nur fix fl a b),gN l fl):=by
 have hcap:bQ st s nur fix a b=0:=by
  unfold bQ
  split<;>(try split)<;>(try split)<;>(try split)<;>(try split)<;>first|rfl|(exfalso;simp at *;omega)|(exfalso;omega)
 have f1:=hf a b
 have f2:=hf b a
 have hs:=h.s
 have hn:=h.nur
 have hx:=h.fix
 have hk:=h.st (a/2)
 have u1:IntKind.i64.wrap (0-fl a b)=0-fl a b:=aD (by omega) (by omega)
 have u2:IntKind.i64.wrap (0-fl a b+fl b a)=0-fl a b+fl b a:=aD (by omega) (by omega)
 have t1:jQ (a:Int) 2=((a%2:Nat):Int):=bD a 2
 have t2:jQ (b:Int) 2=((b%2:Nat):Int):=bD b 2
 have t3:kZ (a:Int) 2=((a/2:Nat):Int):=bX a 2
 have t4:kZ (b:Int) 2=((b/2:Nat):Int):=bX b 2
 have t5:IntKind.i64.wrap ((a/2:Nat):Int)=((a/2:Nat):Int):=aD (by omega) (by omega)
 have t6:IntKind.i64.wrap ((b/2:Nat):Int)=((b/2:Nat):Int):=aD (by omega) (by omega)
 have v1:((0:Int)≤a)=True:=eq_true (by omega)
 have v2:((a:Int)<34)=True:=eq_true (by omega)
 have v3:((0:Int)≤b)=True:=eq_true (by omega)
 have v4:((b:Int)<34)=True:=eq_true (by omega)
 have k1:=bP (v:=.pt 1 0) (fl:=fl) ha hb
 have k2:=bP (v:=.pt 1 0) (fl:=fl) hb ha
 have c_a32:((a:Int)=32)=True:=eq_true (by omega)
 have c_be:(((b%2:Nat):Int)=0)=False:=eq_false (by omega)
 unfold cM
 rw[hcap]
 generalize hA:a/2=a2 at *
 generalize hB:b/2=b2 at *
 generalize hA2:a%2=a3 at *
 generalize hB2:b%2=b3 at *
 rw[r89 (by simp)];unfold x89;dsimp only
 (sym=>(simp[aM,aN,bH,aJ,aI,aK,aL,aS,aE,Za,Zb,Zf,Zh,Zi,Zl,Zm,Zp,Zs,Zv,Zy,Z2,Z3,Z8,Z9,ZH,ZJ,ZW,Yb,Yj,Yk,Yq,Yw,Yx,YO,YT,YU,Xb,Xp,Xv,X0,Wc,Wi,Wx,Wy,Wz,W7,WA,WF,WH,WJ,WL,WM,WN,WO,WP,WV,WW,WX,Vb,Vc,Vd,Vs,V6,V7,V9,VA,VB,VC,VD,VG,VH,VI,VJ,VL,VQ,VR,VS,VV,VW,VX,VZ,Ua,Ub,Uc,Ud,Ue,Ur,Uu,Uv,Uw,Uz,U0,U1,UA,UB,UY,UZ,Td,Tl,Tm,Tn,Tp,Tr,Ts,Tv,Tz,T0,TB,Sl,Sz,u1,u2,t1,t2,t3,t4,t5,t6,v1,v2,v3,v4,k1,k2,c_a32,c_be];all_goals tactic=>exact rfl))
theorem aFb (c:a≠32∧b=33∧a%2=1∧a<32) (hv:(nur).testBit (a/2)=true):runW aA 89 [.pt 0 0,I a,I b] (gN l fl)=some (I (cM st s nur fix fl a b),gN l fl):=by
 have hcap:bQ st s nur fix a b=16:=by
  unfold bQ
  rw[hv,if_neg c.1,if_pos c.2.1,if_pos ⟨c.2.2.1,c.2.2.2,rfl⟩]
 have f1:=hf a b
 have f2:=hf b a
 have hs:=h.s
 have hn:=h.nur
 have hx:=h.fix
 have hk:=h.st (a/2)
 have u1:IntKind.i64.wrap (16-fl a b)=16-fl a b:=aD (by omega) (by omega)
 have u2:IntKind.i64.wrap (16-fl a b+fl b a)=16-fl a b+fl b a:=aD (by omega) (by omega)
 have t1:jQ (a:Int) 2=((a%2:Nat):Int):=bD a 2
 have t2:jQ (b:Int) 2=((b%2:Nat):Int):=bD b 2
 have t3:kZ (a:Int) 2=((a/2:Nat):Int):=bX a 2
 have t4:kZ (b:Int) 2=((b/2:Nat):Int):=bX b 2
 have t5:IntKind.i64.wrap ((a/2:Nat):Int)=((a/2:Nat):Int):=aD (by omega) (by omega)
 have t6:IntKind.i64.wrap ((b/2:Nat):Int)=((b/2:Nat):Int):=aD (by omega) (by omega)
 have v1:((0:Int)≤a)=True:=eq_true (by omega)
 have v2:((a:Int)<34)=True:=eq_true (by omega)
 have v3:((0:Int)≤b)=True:=eq_true (by omega)
 have v4:((b:Int)<34)=True:=eq_true (by omega)
 have k1:=bP (v:=.pt 1 0) (fl:=fl) ha hb
 have k2:=bP (v:=.pt 1 0) (fl:=fl) hb ha
 have c_a32:((a:Int)=32)=False:=eq_false (by omega)
 have c_b33:((b:Int)=33)=True:=eq_true (by omega)
 have c_ao:(((a%2:Nat):Int)=1)=True:=eq_true (by omega)
 have c_al:((a:Int)<32)=True:=eq_true (by omega)
 have e:=pG (a:=nur) (j:=a/2) (by omega) (by omega)
 rw[hv]at e
 have q:=h.l4
 unfold cM
 rw[hcap]
 generalize hA:a/2=a2 at *
 generalize hB:b/2=b2 at *
 generalize hA2:a%2=a3 at *
 generalize hB2:b%2=b3 at *
 rw[r89 (by simp)];unfold x89;dsimp only
 (sym=>(simp[aM,aN,bH,aJ,aI,aK,aL,aS,aE,Za,Zb,Zf,Zh,Zi,Zl,Zm,Zp,Zq,Zv,Zy,Z2,Z3,Z8,Z9,ZG,ZH,ZJ,ZO,ZP,ZT,ZU,ZV,Yb,Yj,Yk,Yq,Ys,Yw,Yx,YO,YT,YU,Xb,Xp,Xq,Xv,X0,Wc,Wi,Wx,Wy,Wz,W6,W7,WA,WF,WH,WJ,WK,WL,WM,WN,WO,WP,WR,WS,WV,WW,WX,Vb,Vc,Vd,Vf,Vg,Vh,Vs,V6,V7,V9,VA,VB,VC,VD,VG,VH,VI,VJ,VL,VQ,VR,VS,VV,VW,VX,VZ,Ua,Ub,Uc,Ud,Ue,Ur,Uu,Uv,Uw,Uz,U0,U1,U2,U3,UA,UB,UY,UZ,Td,Tl,Tm,Tn,Tr,Ts,Tv,Tz,T0,TB,Sl,Sz,u1,u2,t1,t2,t3,t4,t5,t6,v1,v2,v3,v4,k1,k2,c_a32,c_b33,c_ao,c_al,e,q];all_goals tactic=>exact rfl))
theorem aFc (c:a≠32∧b=33∧a%2=1∧a<32) (hv:(nur).testBit (a/2)=false):runW aA 89 [.pt 0 0,I a,I b] (gN l fl)=some (I (cM st s nur fix fl a b),gN l fl):=by
 have hcap:bQ st s nur fix a b=0:=by
  unfold bQ
  rw[hv,if_neg c.1,if_pos c.2.1,if_neg (by simp)]
 have f1:=hf a b
 have f2:=hf b a
 have hs:=h.s
 have hn:=h.nur
 have hx:=h.fix
 have hk:=h.st (a/2)
 have u1:IntKind.i64.wrap (0-fl a b)=0-fl a b:=aD (by omega) (by omega)
 have u2:IntKind.i64.wrap (0-fl a b+fl b a)=0-fl a b+fl b a:=aD (by omega) (by omega)
 have t1:jQ (a:Int) 2=((a%2:Nat):Int):=bD a 2
 have t2:jQ (b:Int) 2=((b%2:Nat):Int):=bD b 2
 have t3:kZ (a:Int) 2=((a/2:Nat):Int):=bX a 2
 have t4:kZ (b:Int) 2=((b/2:Nat):Int):=bX b 2
 have t5:IntKind.i64.wrap ((a/2:Nat):Int)=((a/2:Nat):Int):=aD (by omega) (by omega)
 have t6:IntKind.i64.wrap ((b/2:Nat):Int)=((b/2:Nat):Int):=aD (by omega) (by omega)
 have v1:((0:Int)≤a)=True:=eq_true (by omega)
 have v2:((a:Int)<34)=True:=eq_true (by omega)
 have v3:((0:Int)≤b)=True:=eq_true (by omega)
 have v4:((b:Int)<34)=True:=eq_true (by omega)
 have k1:=bP (v:=.pt 1 0) (fl:=fl) ha hb
 have k2:=bP (v:=.pt 1 0) (fl:=fl) hb ha
 have c_a32:((a:Int)=32)=False:=eq_false (by omega)
 have c_b33:((b:Int)=33)=True:=eq_true (by omega)
 have c_ao:(((a%2:Nat):Int)=1)=True:=eq_true (by omega)
 have c_al:((a:Int)<32)=True:=eq_true (by omega)
 have e:=pG (a:=nur) (j:=a/2) (by omega) (by omega)
 rw[hv]at e
 have q:=h.l4
 unfold cM
 rw[hcap]
 generalize hA:a/2=a2 at *
 generalize hB:b/2=b2 at *
 generalize hA2:a%2=a3 at *
 generalize hB2:b%2=b3 at *
 rw[r89 (by simp)];unfold x89;dsimp only
 (sym=>(simp[aM,aN,bH,aJ,aI,aK,aL,aS,aE,Za,Zb,Zf,Zh,Zi,Zl,Zm,Zp,Zq,Zv,Zy,Z2,Z3,Z8,Z9,ZG,ZH,ZJ,ZO,ZP,ZT,ZU,ZV,Yb,Yj,Yk,Yq,Ys,Yw,Yx,YO,YT,YU,Xb,Xp,Xq,Xv,X0,Wc,Wi,Wx,Wy,Wz,W6,W7,WA,WF,WH,WJ,WK,WL,WM,WN,WO,WP,WR,WS,WV,WW,WX,Vb,Vc,Vd,Vf,Vg,Vh,Vs,V6,V7,V9,VA,VB,VC,VD,VG,VH,VI,VJ,VL,VQ,VR,VS,VV,VW,VX,VZ,Ua,Ub,Uc,Ud,Ue,Ur,Uu,Uv,Uw,Uz,U0,U1,U2,U3,UA,UB,UY,UZ,Td,Tl,Tm,Tn,Tp,Tr,Ts,Tv,Tz,T0,TB,Sl,Sz,u1,u2,t1,t2,t3,t4,t5,t6,v1,v2,v3,v4,k1,k2,c_a32,c_b33,c_ao,c_al,e,q];all_goals tactic=>exact rfl))
theorem aHr (c:a≠32∧b=33∧a%2=1∧¬a<32):runW aA 89 [.pt 0 0,I a,I b] (gN l fl)=some (I (cM st s nur fix fl a b),gN l fl):=by
 have hcap:bQ st s nur fix a b=0:=by
  unfold bQ
  split<;>(try split)<;>(try split)<;>(try split)<;>(try split)<;>first|rfl|(exfalso;simp at *;omega)|(exfalso;omega)
 have f1:=hf a b
 have f2:=hf b a
 have hs:=h.s
 have hn:=h.nur
 have hx:=h.fix
 have hk:=h.st (a/2)
 have u1:IntKind.i64.wrap (0-fl a b)=0-fl a b:=aD (by omega) (by omega)
 have u2:IntKind.i64.wrap (0-fl a b+fl b a)=0-fl a b+fl b a:=aD (by omega) (by omega)
 have t1:jQ (a:Int) 2=((a%2:Nat):Int):=bD a 2
 have t2:jQ (b:Int) 2=((b%2:Nat):Int):=bD b 2
 have t3:kZ (a:Int) 2=((a/2:Nat):Int):=bX a 2
 have t4:kZ (b:Int) 2=((b/2:Nat):Int):=bX b 2
 have t5:IntKind.i64.wrap ((a/2:Nat):Int)=((a/2:Nat):Int):=aD (by omega) (by omega)
 have t6:IntKind.i64.wrap ((b/2:Nat):Int)=((b/2:Nat):Int):=aD (by omega) (by omega)
 have v1:((0:Int)≤a)=True:=eq_true (by omega)
 have v2:((a:Int)<34)=True:=eq_true (by omega)
 have v3:((0:Int)≤b)=True:=eq_true (by omega)
 have v4:((b:Int)<34)=True:=eq_true (by omega)
 have k1:=bP (v:=.pt 1 0) (fl:=fl) ha hb
 have k2:=bP (v:=.pt 1 0) (fl:=fl) hb ha
 have c_a32:((a:Int)=32)=False:=eq_false (by omega)
 have c_b33:((b:Int)=33)=True:=eq_true (by omega)
 have c_ao:(((a%2:Nat):Int)=1)=True:=eq_true (by omega)
 have c_al:((a:Int)<32)=False:=eq_false (by omega)
 unfold cM
 rw[hcap]
 generalize hA:a/2=a2 at *
 generalize hB:b/2=b2 at *
 generalize hA2:a%2=a3 at *
 generalize hB2:b%2=b3 at *
 rw[r89 (by simp)];unfold x89;dsimp only
 (sym=>(simp[aM,aN,bH,aJ,aI,aK,aL,aS,aE,Za,Zb,Zf,Zh,Zi,Zl,Zm,Zp,Zq,Zs,Zv,Zy,Z2,Z3,Z8,Z9,ZH,ZJ,ZV,ZW,Yb,Yj,Yk,Yq,Ys,Yw,Yx,YO,YT,YU,Xb,Xp,Xv,X0,Wc,Wi,Wx,Wy,Wz,W7,WA,WF,WH,WJ,WL,WM,WN,WO,WP,WV,WW,WX,Vb,Vc,Vd,Vs,V6,V7,V9,VA,VB,VC,VD,VG,VH,VI,VJ,VL,VQ,VR,VS,VV,VW,VX,VZ,Ua,Ub,Uc,Ud,Ue,Ur,Uu,Uv,Uw,Uz,U0,U1,UA,UB,UY,UZ,Td,Tl,Tm,Tn,Tp,Tr,Ts,Tv,Tz,T0,TB,Sl,Sz,u1,u2,t1,t2,t3,t4,t5,t6,v1,v2,v3,v4,k1,k2,c_a32,c_b33,c_ao,c_al];all_goals tactic=>exact rfl))
theorem aHq (c:a≠32∧b=33∧¬a%2=1):runW aA 89 [.pt 0 0,I a,I b] (gN l fl)=some (I (cM st s nur fix fl a b),gN l fl):=by
 have hcap:bQ st s nur fix a b=0:=by
  unfold bQ
  split<;>(try split)<;>(try split)<;>(try split)<;>(try split)<;>first|rfl|(exfalso;simp at *;omega)|(exfalso;omega)
 have f1:=hf a b
 have f2:=hf b a
 have hs:=h.s
 have hn:=h.nur
 have hx:=h.fix
 have hk:=h.st (a/2)
 have u1:IntKind.i64.wrap (0-fl a b)=0-fl a b:=aD (by omega) (by omega)
 have u2:IntKind.i64.wrap (0-fl a b+fl b a)=0-fl a b+fl b a:=aD (by omega) (by omega)
 have t1:jQ (a:Int) 2=((a%2:Nat):Int):=bD a 2
 have t2:jQ (b:Int) 2=((b%2:Nat):Int):=bD b 2
 have t3:kZ (a:Int) 2=((a/2:Nat):Int):=bX a 2
 have t4:kZ (b:Int) 2=((b/2:Nat):Int):=bX b 2
 have t5:IntKind.i64.wrap ((a/2:Nat):Int)=((a/2:Nat):Int):=aD (by omega) (by omega)
 have t6:IntKind.i64.wrap ((b/2:Nat):Int)=((b/2:Nat):Int):=aD (by omega) (by omega)
 have v1:((0:Int)≤a)=True:=eq_true (by omega)
 have v2:((a:Int)<34)=True:=eq_true (by omega)
 have v3:((0:Int)≤b)=True:=eq_true (by omega)
 have v4:((b:Int)<34)=True:=eq_true (by omega)
 have k1:=bP (v:=.pt 1 0) (fl:=fl) ha hb
 have k2:=bP (v:=.pt 1 0) (fl:=fl) hb ha
 have c_a32:((a:Int)=32)=False:=eq_false (by omega)
 have c_b33:((b:Int)=33)=True:=eq_true (by omega)
 have c_ao:(((a%2:Nat):Int)=1)=False:=eq_false (by omega)
 unfold cM
 rw[hcap]
 generalize hA:a/2=a2 at *
 generalize hB:b/2=b2 at *
 generalize hA2:a%2=a3 at *
 generalize hB2:b%2=b3 at *
 rw[r89 (by simp)];unfold x89;dsimp only
 (sym=>(simp[aM,aN,bH,aJ,aI,aK,aL,aS,aE,Za,Zb,Zf,Zh,Zi,Zl,Zm,Zp,Zs,Zv,Zy,Z2,Z3,Z8,Z9,ZH,ZJ,ZW,Yb,Yj,Yk,Yq,Yw,Yx,YO,YT,YU,Xb,Xp,Xv,X0,Wc,Wi,Wx,Wy,Wz,W7,WA,WF,WH,WJ,WL,WM,WN,WO,WP,WV,WW,WX,Vb,Vc,Vd,Vs,V6,V7,V9,VA,VB,VC,VD,VG,VH,VI,VJ,VL,VQ,VR,VS,VV,VW,VX,VZ,Ua,Ub,Uc,Ud,Ue,Ur,Uu,Uv,Uw,Uz,U0,U1,UA,UB,UY,UZ,Td,Tl,Tm,Tn,Tp,Tr,Ts,Tv,Tz,T0,TB,Sl,Sz,u1,u2,t1,t2,t3,t4,t5,t6,v1,v2,v3,v4,k1,k2,c_a32,c_b33,c_ao];all_goals tactic=>exact rfl))
theorem aHp (c:a≠32∧b≠33∧32≤a):runW aA 89 [.pt 0 0,I a,I b] (gN l fl)=some (I (cM st s nur fix fl a b),gN l fl):=by
 have hcap:bQ st s nur fix a b=0:=by
  unfold bQ
  split<;>(try split)<;>(try split)<;>(try split)<;>(try split)<;>first|rfl|(exfalso;simp at *;omega)|(exfalso;omega)
 have f1:=hf a b
 have f2:=hf b a
 have hs:=h.s
 have hn:=h.nur
 have hx:=h.fix
 have hk:=h.st (a/2)
 have u1:IntKind.i64.wrap (0-fl a b)=0-fl a b:=aD (by omega) (by omega)
 have u2:IntKind.i64.wrap (0-fl a b+fl b a)=0-fl a b+fl b a:=aD (by omega) (by omega)
 have t1:jQ (a:Int) 2=((a%2:Nat):Int):=bD a 2
 have t2:jQ (b:Int) 2=((b%2:Nat):Int):=bD b 2
 have t3:kZ (a:Int) 2=((a/2:Nat):Int):=bX a 2
 have t4:kZ (b:Int) 2=((b/2:Nat):Int):=bX b 2
 have t5:IntKind.i64.wrap ((a/2:Nat):Int)=((a/2:Nat):Int):=aD (by omega) (by omega)
 have t6:IntKind.i64.wrap ((b/2:Nat):Int)=((b/2:Nat):Int):=aD (by omega) (by omega)
 have v1:((0:Int)≤a)=True:=eq_true (by omega)
 have v2:((a:Int)<34)=True:=eq_true (by omega)
 have v3:((0:Int)≤b)=True:=eq_true (by omega)
 have v4:((b:Int)<34)=True:=eq_true (by omega)
 have k1:=bP (v:=.pt 1 0) (fl:=fl) ha hb
 have k2:=bP (v:=.pt 1 0) (fl:=fl) hb ha
 have c_a32:((a:Int)=32)=False:=eq_false (by omega)
 have c_b33:((b:Int)=33)=False:=eq_false (by omega)
 have c_ag:(32≤(a:Int))=True:=eq_true (by omega)
 unfold cM
 rw[hcap]
 generalize hA:a/2=a2 at *
 generalize hB:b/2=b2 at *
 generalize hA2:a%2=a3 at *
 generalize hB2:b%2=b3 at *
 rw[r89 (by simp)];unfold x89;dsimp only
 (sym=>(simp[aM,aN,bH,aJ,aI,aK,aL,aS,aE,Za,Zb,Zf,Zh,Zi,Zl,Zm,Zp,Zt,Zv,Zy,Z2,Z3,Z8,Z9,ZH,ZJ,ZV,Yb,Yj,Yk,Yq,Yv,Yw,Yx,YO,YT,YU,Xb,Xp,Xv,X0,Wc,Wi,Wx,Wy,Wz,W7,WA,WF,WH,WJ,WL,WM,WN,WO,WP,WV,WW,WX,Vb,Vc,Vd,Vs,V6,V7,V9,VA,VB,VC,VD,VG,VH,VI,VJ,VL,VQ,VR,VS,VV,VW,VX,VZ,Ua,Ub,Uc,Ud,Ue,Ur,Uu,Uv,Uw,Uz,U0,U1,UA,UB,UY,UZ,Td,Tl,Tm,Tn,Tp,Tr,Ts,Tv,Tz,T0,TB,Sl,Sz,u1,u2,t1,t2,t3,t4,t5,t6,v1,v2,v3,v4,k1,k2,c_a32,c_b33,c_ag];all_goals tactic=>exact rfl))
theorem aHo (c:a≠32∧b≠33∧¬32≤a∧32≤b):runW aA 89 [.pt 0 0,I a,I b] (gN l fl)=some (I (cM st s nur fix fl a b),gN l fl):=by
 have hcap:bQ st s nur fix a b=0:=by
  unfold bQ
  split<;>(try split)<;>(try split)<;>(try split)<;>(try split)<;>first|rfl|(exfalso;simp at *;omega)|(exfalso;omega)
 have f1:=hf a b
 have f2:=hf b a
 have hs:=h.s
 have hn:=h.nur
 have hx:=h.fix
 have hk:=h.st (a/2)
 have u1:IntKind.i64.wrap (0-fl a b)=0-fl a b:=aD (by omega) (by omega)
 have u2:IntKind.i64.wrap (0-fl a b+fl b a)=0-fl a b+fl b a:=aD (by omega) (by omega)
 have t1:jQ (a:Int) 2=((a%2:Nat):Int):=bD a 2
 have t2:jQ (b:Int) 2=((b%2:Nat):Int):=bD b 2
 have t3:kZ (a:Int) 2=((a/2:Nat):Int):=bX a 2
 have t4:kZ (b:Int) 2=((b/2:Nat):Int):=bX b 2
 have t5:IntKind.i64.wrap ((a/2:Nat):Int)=((a/2:Nat):Int):=aD (by omega) (by omega)
 have t6:IntKind.i64.wrap ((b/2:Nat):Int)=((b/2:Nat):Int):=aD (by omega) (by omega)
 have v1:((0:Int)≤a)=True:=eq_true (by omega)
 have v2:((a:Int)<34)=True:=eq_true (by omega)
 have v3:((0:Int)≤b)=True:=eq_true (by omega)
 have v4:((b:Int)<34)=True:=eq_true (by omega)
 have k1:=bP (v:=.pt 1 0) (fl:=fl) ha hb
 have k2:=bP (v:=.pt 1 0) (fl:=fl) hb ha
 have c_a32:((a:Int)=32)=False:=eq_false (by omega)
 have c_b33:((b:Int)=33)=False:=eq_false (by omega)
 have c_ag:(32≤(a:Int))=False:=eq_false (by omega)
 have c_bg:(32≤(b:Int))=True:=eq_true (by omega)
 unfold cM
 rw[hcap]
 generalize hA:a/2=a2 at *
 generalize hB:b/2=b2 at *
 generalize hA2:a%2=a3 at *
 generalize hB2:b%2=b3 at *
 rw[r89 (by simp)];unfold x89;dsimp only
 (sym=>(simp[aM,aN,bH,aJ,aI,aK,aL,aS,aE,Za,Zb,Zf,Zh,Zi,Zl,Zm,Zp,Zr,Zv,Zy,Z2,Z3,Z8,Z9,ZH,ZJ,ZW,Yb,Yj,Yk,Yq,Yv,Yw,Yx,YO,YT,YU,Xb,Xp,Xv,X0,Wc,Wi,Wx,Wy,Wz,W7,WA,WF,WH,WJ,WL,WM,WN,WO,WP,WV,WW,WX,Vb,Vc,Vd,Vs,V6,V7,V9,VA,VB,VC,VD,VG,VH,VI,VJ,VL,VQ,VR,VS,VV,VW,VX,VZ,Ua,Ub,Uc,Ud,Ue,Ur,Uu,Uv,Uw,Uz,U0,U1,UA,UB,UY,UZ,Td,Tl,Tm,Tn,Tp,Tr,Ts,Tv,Tz,T0,TB,Sl,Sz,u1,u2,t1,t2,t3,t4,t5,t6,v1,v2,v3,v4,k1,k2,c_a32,c_b33,c_ag,c_bg];all_goals tactic=>exact rfl))
theorem aEZ (c:a≠32∧b≠33∧¬32≤a∧¬32≤b∧a%2=0∧b=a+1) (hv:(fix).testBit (a/2)=true):runW aA 89 [.pt 0 0,I a,I b] (gN l fl)=some (I (cM st s nur fix fl a b),gN l fl):=by
 have hcap:bQ st s nur fix a b=16:=by
  unfold bQ
  rw[hv,if_neg c.1,if_neg c.2.1,if_neg (by omega),if_pos ⟨c.2.2.2.2.1,c.2.2.2.2.2⟩,if_pos rfl]
 have f1:=hf a b
 have f2:=hf b a
 have hs:=h.s
 have hn:=h.nur
 have hx:=h.fix
 have hk:=h.st (a/2)
 have u1:IntKind.i64.wrap (16-fl a b)=16-fl a b:=aD (by omega) (by omega)
 have u2:IntKind.i64.wrap (16-fl a b+fl b a)=16-fl a b+fl b a:=aD (by omega) (by omega)
 have t1:jQ (a:Int) 2=((a%2:Nat):Int):=bD a 2
 have t2:jQ (b:Int) 2=((b%2:Nat):Int):=bD b 2
 have t3:kZ (a:Int) 2=((a/2:Nat):Int):=bX a 2
 have t4:kZ (b:Int) 2=((b/2:Nat):Int):=bX b 2
 have t5:IntKind.i64.wrap ((a/2:Nat):Int)=((a/2:Nat):Int):=aD (by omega) (by omega)
 have t6:IntKind.i64.wrap ((b/2:Nat):Int)=((b/2:Nat):Int):=aD (by omega) (by omega)
 have v1:((0:Int)≤a)=True:=eq_true (by omega)
 have v2:((a:Int)<34)=True:=eq_true (by omega)
 have v3:((0:Int)≤b)=True:=eq_true (by omega)
 have v4:((b:Int)<34)=True:=eq_true (by omega)
 have k1:=bP (v:=.pt 1 0) (fl:=fl) ha hb
 have k2:=bP (v:=.pt 1 0) (fl:=fl) hb ha
 have w1:IntKind.i64.wrap ((a:Int)+1)=(a:Int)+1:=aD (by omega) (by omega)
 have c_a32:((a:Int)=32)=False:=eq_false (by omega)
 have c_b33:((b:Int)=33)=False:=eq_false (by omega)
 have c_ag:(32≤(a:Int))=False:=eq_false (by omega)
 have c_bg:(32≤(b:Int))=False:=eq_false (by omega)
 have c_ae:(((a%2:Nat):Int)=0)=True:=eq_true (by omega)
 have c_ba:((b:Int)=(a:Int)+1)=True:=eq_true (by omega)
 have e:=pG (a:=fix) (j:=a/2) (by omega) (by omega)
 rw[hv]at e
 have q:=h.l5
 unfold cM
 rw[hcap]
 generalize hA:a/2=a2 at *
 generalize hB:b/2=b2 at *
 generalize hA2:a%2=a3 at *
 generalize hB2:b%2=b3 at *
 rw[r89 (by simp)];unfold x89;dsimp only
 (sym=>(simp[aM,aN,bH,aJ,aI,aK,aL,aS,aE,Za,Zb,Zf,Zh,Zi,Zl,Zm,Zp,Zq,Zr,Zv,Zy,Z2,Z3,Z8,Z9,ZG,ZH,ZJ,ZO,ZP,ZT,ZU,ZV,ZW,Yb,Yj,Yk,Yq,Yv,Yw,Yx,YO,YT,YU,Xb,Xp,Xq,Xv,X0,Wc,Wi,Wx,Wy,Wz,W6,W7,WA,WF,WH,WJ,WK,WL,WM,WN,WO,WP,WR,WS,WV,WW,WX,Vb,Vc,Vd,Vf,Vg,Vh,Vs,V6,V7,V9,VA,VB,VC,VD,VG,VH,VI,VJ,VL,VQ,VR,VS,VV,VW,VX,VZ,Ua,Ub,Uc,Ud,Ue,Ur,Uu,Uv,Uw,Uz,U0,U1,U2,U3,UA,UB,UY,UZ,Td,Tl,Tm,Tn,Tr,Ts,Tv,Tz,T0,TB,Sl,Sz,u1,u2,t1,t2,t3,t4,t5,t6,v1,v2,v3,v4,k1,k2,w1,c_a32,c_b33,c_ag,c_bg,c_ae,c_ba,e,q];all_goals tactic=>exact rfl))
theorem aFa (c:a≠32∧b≠33∧¬32≤a∧¬32≤b∧a%2=0∧b=a+1) (hv:(fix).testBit (a/2)=false):runW aA 89 [.pt 0 0,I a,I b] (gN l fl)=some (I (cM st s nur fix fl a b),gN l fl):=by
 have hcap:bQ st s nur fix a b=1:=by
  unfold bQ
  rw[hv,if_neg c.1,if_neg c.2.1,if_neg (by omega),if_pos ⟨c.2.2.2.2.1,c.2.2.2.2.2⟩,if_neg (by simp)]
 have f1:=hf a b
 have f2:=hf b a
 have hs:=h.s
 have hn:=h.nur
 have hx:=h.fix
 have hk:=h.st (a/2)
 have u1:IntKind.i64.wrap (1-fl a b)=1-fl a b:=aD (by omega) (by omega)
 have u2:IntKind.i64.wrap (1-fl a b+fl b a)=1-fl a b+fl b a:=aD (by omega) (by omega)
 have t1:jQ (a:Int) 2=((a%2:Nat):Int):=bD a 2
 have t2:jQ (b:Int) 2=((b%2:Nat):Int):=bD b 2
 have t3:kZ (a:Int) 2=((a/2:Nat):Int):=bX a 2
 have t4:kZ (b:Int) 2=((b/2:Nat):Int):=bX b 2
 have t5:IntKind.i64.wrap ((a/2:Nat):Int)=((a/2:Nat):Int):=aD (by omega) (by omega)
 have t6:IntKind.i64.wrap ((b/2:Nat):Int)=((b/2:Nat):Int):=aD (by omega) (by omega)
 have v1:((0:Int)≤a)=True:=eq_true (by omega)
 have v2:((a:Int)<34)=True:=eq_true (by omega)
 have v3:((0:Int)≤b)=True:=eq_true (by omega)
 have v4:((b:Int)<34)=True:=eq_true (by omega)
 have k1:=bP (v:=.pt 1 0) (fl:=fl) ha hb
 have k2:=bP (v:=.pt 1 0) (fl:=fl) hb ha
 have w1:IntKind.i64.wrap ((a:Int)+1)=(a:Int)+1:=aD (by omega) (by omega)
 have c_a32:((a:Int)=32)=False:=eq_false (by omega)
 have c_b33:((b:Int)=33)=False:=eq_false (by omega)
 have c_ag:(32≤(a:Int))=False:=eq_false (by omega)
 have c_bg:(32≤(b:Int))=False:=eq_false (by omega)
 have c_ae:(((a%2:Nat):Int)=0)=True:=eq_true (by omega)
 have c_ba:((b:Int)=(a:Int)+1)=True:=eq_true (by omega)
 have e:=pG (a:=fix) (j:=a/2) (by omega) (by omega)
 rw[hv]at e
 have q:=h.l5
 unfold cM
 rw[hcap]
 generalize hA:a/2=a2 at *
 generalize hB:b/2=b2 at *
 generalize hA2:a%2=a3 at *
 generalize hB2:b%2=b3 at *
 rw[r89 (by simp)];unfold x89;dsimp only
 (sym=>(simp[aM,aN,bH,aJ,aI,aK,aL,aS,aE,Za,Zb,Zf,Zh,Zi,Zl,Zm,Zp,Zq,Zr,Zv,Zy,Z2,Z3,Z8,Z9,ZG,ZH,ZJ,ZO,ZP,ZT,ZU,ZV,ZW,Yb,Yj,Yk,Yq,Yv,Yw,Yx,YO,YT,YU,Xb,Xp,Xq,Xv,X0,Wc,Wi,Wx,Wy,Wz,W6,W7,WA,WF,WH,WJ,WK,WL,WM,WN,WO,WP,WR,WS,WV,WW,WX,Vb,Vc,Vd,Vf,Vg,Vh,Vs,V6,V7,V9,VA,VB,VC,VD,VG,VH,VI,VJ,VL,VQ,VR,VS,VV,VW,VX,VZ,Ua,Ub,Uc,Ud,Ue,Ur,Uu,Uv,Uw,Uz,U0,U1,U2,U3,UA,UB,UY,UZ,Td,Tl,Tm,Tn,Tp,Tr,Ts,Tv,Tz,T0,TB,Sl,Sz,u1,u2,t1,t2,t3,t4,t5,t6,v1,v2,v3,v4,k1,k2,w1,c_a32,c_b33,c_ag,c_bg,c_ae,c_ba,e,q];all_goals tactic=>exact rfl))
theorem aHn (c:a≠32∧b≠33∧¬32≤a∧¬32≤b∧a%2=0∧¬b=a+1):runW aA 89 [.pt 0 0,I a,I b] (gN l fl)=some (I (cM st s nur fix fl a b),gN l fl):=by
 have hcap:bQ st s nur fix a b=0:=by
  unfold bQ
  split<;>(try split)<;>(try split)<;>(try split)<;>(try split)<;>first|rfl|(exfalso;simp at *;omega)|(exfalso;omega)
 have f1:=hf a b
 have f2:=hf b a
 have hs:=h.s
 have hn:=h.nur
 have hx:=h.fix
 have hk:=h.st (a/2)
 have u1:IntKind.i64.wrap (0-fl a b)=0-fl a b:=aD (by omega) (by omega)
 have u2:IntKind.i64.wrap (0-fl a b+fl b a)=0-fl a b+fl b a:=aD (by omega) (by omega)
 have t1:jQ (a:Int) 2=((a%2:Nat):Int):=bD a 2
 have t2:jQ (b:Int) 2=((b%2:Nat):Int):=bD b 2
 have t3:kZ (a:Int) 2=((a/2:Nat):Int):=bX a 2
 have t4:kZ (b:Int) 2=((b/2:Nat):Int):=bX b 2
 have t5:IntKind.i64.wrap ((a/2:Nat):Int)=((a/2:Nat):Int):=aD (by omega) (by omega)
 have t6:IntKind.i64.wrap ((b/2:Nat):Int)=((b/2:Nat):Int):=aD (by omega) (by omega)
 have v1:((0:Int)≤a)=True:=eq_true (by omega)
 have v2:((a:Int)<34)=True:=eq_true (by omega)
 have v3:((0:Int)≤b)=True:=eq_true (by omega)
 have v4:((b:Int)<34)=True:=eq_true (by omega)
 have k1:=bP (v:=.pt 1 0) (fl:=fl) ha hb
 have k2:=bP (v:=.pt 1 0) (fl:=fl) hb ha
 have w1:IntKind.i64.wrap ((a:Int)+1)=(a:Int)+1:=aD (by omega) (by omega)
 have c_a32:((a:Int)=32)=False:=eq_false (by omega)
 have c_b33:((b:Int)=33)=False:=eq_false (by omega)
 have c_ag:(32≤(a:Int))=False:=eq_false (by omega)
 have c_bg:(32≤(b:Int))=False:=eq_false (by omega)
 have c_ae:(((a%2:Nat):Int)=0)=True:=eq_true (by omega)
 have c_ba:((b:Int)=(a:Int)+1)=False:=eq_false (by omega)
 have c_ao:(((a%2:Nat):Int)=1)=False:=eq_false (by omega)
 unfold cM
 rw[hcap]
 generalize hA:a/2=a2 at *
 generalize hB:b/2=b2 at *
 generalize hA2:a%2=a3 at *
 generalize hB2:b%2=b3 at *
 rw[r89 (by simp)];unfold x89;dsimp only
 (sym=>(simp[aM,aN,bH,aJ,aI,aK,aL,aS,aE,Za,Zb,Zf,Zh,Zi,Zl,Zm,Zp,Zq,Zr,Zs,Zv,Zy,Z2,Z3,Z8,Z9,ZH,ZJ,ZV,ZW,Yb,Yj,Yk,Yq,Yv,Yw,Yx,YO,YT,YU,Xb,Xp,Xv,X0,Wc,Wi,Wx,Wy,Wz,W7,WA,WF,WH,WJ,WL,WM,WN,WO,WP,WV,WW,WX,Vb,Vc,Vd,Vs,V6,V7,V9,VA,VB,VC,VD,VG,VH,VI,VJ,VL,VQ,VS,VV,VW,VX,VZ,Ua,Ub,Uc,Ud,Ue,Ur,Uu,Uv,Uw,Uz,U0,U1,UA,UB,UY,UZ,Td,Tl,Tm,Tn,Tp,Tr,Ts,Tv,Tz,T0,TB,Sl,Sz,u1,u2,t1,t2,t3,t4,t5,t6,v1,v2,v3,v4,k1,k2,w1,c_a32,c_b33,c_ag,c_bg,c_ae,c_ba,c_ao];all_goals tactic=>exact rfl))
theorem aEX (c:a≠32∧b≠33∧¬32≤a∧¬32≤b∧a%2=1∧b%2=0) (hv:(st (a/2)).testBit (b/2)=true):runW aA 89 [.pt 0 0,I a,I b] (gN l fl)=some (I (cM st s nur fix fl a b),gN l fl):=by
 have hcap:bQ st s nur fix a b=16:=by
  unfold bQ
  rw[hv,if_neg c.1,if_neg c.2.1,if_neg (by omega),if_neg (by omega),if_pos ⟨c.2.2.2.2.1,c.2.2.2.2.2,rfl⟩]
 have f1:=hf a b
 have f2:=hf b a
 have hs:=h.s
 have hn:=h.nur
 have hx:=h.fix
 have hk:=h.st (a/2)
 have u1:IntKind.i64.wrap (16-fl a b)=16-fl a b:=aD (by omega) (by omega)
 have u2:IntKind.i64.wrap (16-fl a b+fl b a)=16-fl a b+fl b a:=aD (by omega) (by omega)
 have t1:jQ (a:Int) 2=((a%2:Nat):Int):=bD a 2
 have t2:jQ (b:Int) 2=((b%2:Nat):Int):=bD b 2
 have t3:kZ (a:Int) 2=((a/2:Nat):Int):=bX a 2
 have t4:kZ (b:Int) 2=((b/2:Nat):Int):=bX b 2
 have t5:IntKind.i64.wrap ((a/2:Nat):Int)=((a/2:Nat):Int):=aD (by omega) (by omega)
 have t6:IntKind.i64.wrap ((b/2:Nat):Int)=((b/2:Nat):Int):=aD (by omega) (by omega)
 have v1:((0:Int)≤a)=True:=eq_true (by omega)
 have v2:((a:Int)<34)=True:=eq_true (by omega)
 have v3:((0:Int)≤b)=True:=eq_true (by omega)
 have v4:((b:Int)<34)=True:=eq_true (by omega)
 have k1:=bP (v:=.pt 1 0) (fl:=fl) ha hb
 have k2:=bP (v:=.pt 1 0) (fl:=fl) hb ha
 have c_a32:((a:Int)=32)=False:=eq_false (by omega)
 have c_b33:((b:Int)=33)=False:=eq_false (by omega)
 have c_ag:(32≤(a:Int))=False:=eq_false (by omega)
 have c_bg:(32≤(b:Int))=False:=eq_false (by omega)
 have c_ae:(((a%2:Nat):Int)=0)=False:=eq_false (by omega)
 have c_ao:(((a%2:Nat):Int)=1)=True:=eq_true (by omega)
 have c_be:(((b%2:Nat):Int)=0)=True:=eq_true (by omega)
 have e:=pG (a:=st (a/2)) (j:=b/2) (by omega) (by omega)
 rw[hv]at e
 have q:=h.k (a/2) (by omega)
 have v5:((0:Int)≤((a/2:Nat):Int))=True:=eq_true (by omega)
 have v6:(((a/2:Nat):Int)<16)=True:=eq_true (by omega)
 unfold cM
 rw[hcap]
 generalize hA:a/2=a2 at *
 generalize hB:b/2=b2 at *
 generalize hA2:a%2=a3 at *
 generalize hB2:b%2=b3 at *
 rw[r89 (by simp)];unfold x89;dsimp only
 (sym=>(simp[aM,aN,bH,aJ,aI,aK,aL,aS,aE,Za,Zb,Zf,Zh,Zi,Zl,Zm,Zp,Zq,Zr,Zs,Zv,Zy,Z2,Z3,Z8,Z9,ZG,ZH,ZJ,ZO,ZP,ZT,ZU,ZV,ZW,Yb,Yj,Yk,Yq,Yv,Yw,Yx,YO,YT,YU,Xb,Xp,Xq,Xv,X0,Wc,Wi,Wx,Wy,Wz,W6,W7,WA,WF,WH,WJ,WK,WL,WM,WN,WO,WP,WR,WS,WV,WW,WX,Vb,Vc,Vd,Vf,Vg,Vh,Vs,V6,V7,V9,VA,VB,VC,VD,VG,VH,VI,VJ,VL,VQ,VR,VS,VV,VW,VX,VZ,Ua,Ub,Uc,Ud,Ue,Ur,Uu,Uv,Uw,Uz,U0,U1,U2,U3,UA,UB,UY,UZ,Td,Tl,Tm,Tn,Tr,Ts,Tv,Tz,T0,TB,Sl,Sx,Sz,u1,u2,t1,t2,t3,t4,t5,t6,v1,v2,v3,v4,k1,k2,c_a32,c_b33,c_ag,c_bg,c_ae,c_ao,c_be,e,q,v5,v6];all_goals tactic=>exact rfl))
theorem aEY (c:a≠32∧b≠33∧¬32≤a∧¬32≤b∧a%2=1∧b%2=0) (hv:(st (a/2)).testBit (b/2)=false):runW aA 89 [.pt 0 0,I a,I b] (gN l fl)=some (I (cM st s nur fix fl a b),gN l fl):=by
 have hcap:bQ st s nur fix a b=0:=by
  unfold bQ
  rw[hv,if_neg c.1,if_neg c.2.1,if_neg (by omega),if_neg (by omega),if_neg (by simp)]
 have f1:=hf a b
 have f2:=hf b a
 have hs:=h.s
 have hn:=h.nur
 have hx:=h.fix
 have hk:=h.st (a/2)
 have u1:IntKind.i64.wrap (0-fl a b)=0-fl a b:=aD (by omega) (by omega)
 have u2:IntKind.i64.wrap (0-fl a b+fl b a)=0-fl a b+fl b a:=aD (by omega) (by omega)
 have t1:jQ (a:Int) 2=((a%2:Nat):Int):=bD a 2
 have t2:jQ (b:Int) 2=((b%2:Nat):Int):=bD b 2
 have t3:kZ (a:Int) 2=((a/2:Nat):Int):=bX a 2
 have t4:kZ (b:Int) 2=((b/2:Nat):Int):=bX b 2
 have t5:IntKind.i64.wrap ((a/2:Nat):Int)=((a/2:Nat):Int):=aD (by omega) (by omega)
 have t6:IntKind.i64.wrap ((b/2:Nat):Int)=((b/2:Nat):Int):=aD (by omega) (by omega)
 have v1:((0:Int)≤a)=True:=eq_true (by omega)
 have v2:((a:Int)<34)=True:=eq_true (by omega)
 have v3:((0:Int)≤b)=True:=eq_true (by omega)
 have v4:((b:Int)<34)=True:=eq_true (by omega)
 have k1:=bP (v:=.pt 1 0) (fl:=fl) ha hb
 have k2:=bP (v:=.pt 1 0) (fl:=fl) hb ha
 have c_a32:((a:Int)=32)=False:=eq_false (by omega)
 have c_b33:((b:Int)=33)=False:=eq_false (by omega)
 have c_ag:(32≤(a:Int))=False:=eq_false (by omega)
 have c_bg:(32≤(b:Int))=False:=eq_false (by omega)
 have c_ae:(((a%2:Nat):Int)=0)=False:=eq_false (by omega)
 have c_ao:(((a%2:Nat):Int)=1)=True:=eq_true (by omega)
 have c_be:(((b%2:Nat):Int)=0)=True:=eq_true (by omega)
 have e:=pG (a:=st (a/2)) (j:=b/2) (by omega) (by omega)
 rw[hv]at e
 have q:=h.k (a/2) (by omega)
 have v5:((0:Int)≤((a/2:Nat):Int))=True:=eq_true (by omega)
 have v6:(((a/2:Nat):Int)<16)=True:=eq_true (by omega)
 unfold cM
 rw[hcap]
 generalize hA:a/2=a2 at *
 generalize hB:b/2=b2 at *
 generalize hA2:a%2=a3 at *
 generalize hB2:b%2=b3 at *
 rw[r89 (by simp)];unfold x89;dsimp only
 (sym=>(simp[aM,aN,bH,aJ,aI,aK,aL,aS,aE,Za,Zb,Zf,Zh,Zi,Zl,Zm,Zp,Zq,Zr,Zs,Zv,Zy,Z2,Z3,Z8,Z9,ZG,ZH,ZJ,ZO,ZP,ZT,ZU,ZV,ZW,Yb,Yj,Yk,Yq,Yv,Yw,Yx,YO,YT,YU,Xb,Xp,Xq,Xv,X0,Wc,Wi,Wx,Wy,Wz,W6,W7,WA,WF,WH,WJ,WK,WL,WM,WN,WO,WP,WR,WS,WV,WW,WX,Vb,Vc,Vd,Vf,Vg,Vh,Vs,V6,V7,V9,VA,VB,VC,VD,VG,VH,VI,VJ,VL,VQ,VS,VV,VW,VX,VZ,Ua,Ub,Uc,Ud,Ue,Ur,Uu,Uv,Uw,Uz,U0,U1,U2,U3,UA,UB,UY,UZ,Td,Tl,Tm,Tn,Tp,Tr,Ts,Tv,Tz,T0,TB,Sl,Sx,Sz,u1,u2,t1,t2,t3,t4,t5,t6,v1,v2,v3,v4,k1,k2,c_a32,c_b33,c_ag,c_bg,c_ae,c_ao,c_be,e,q,v5,v6];all_goals tactic=>exact rfl))
theorem aHm (c:a≠32∧b≠33∧¬32≤a∧¬32≤b∧a%2=1∧¬b%2=0):runW aA 89 [.pt 0 0,I a,I b] (gN l fl)=some (I (cM st s nur fix fl a b),gN l fl):=by
 have hcap:bQ st s nur fix a b=0:=by
  unfold bQ
  split<;>(try split)<;>(try split)<;>(try split)<;>(try split)<;>first|rfl|(exfalso;simp at *;omega)|(exfalso;omega)
 have f1:=hf a b
 have f2:=hf b a
 have hs:=h.s
 have hn:=h.nur
 have hx:=h.fix
 have hk:=h.st (a/2)
 have u1:IntKind.i64.wrap (0-fl a b)=0-fl a b:=aD (by omega) (by omega)
 have u2:IntKind.i64.wrap (0-fl a b+fl b a)=0-fl a b+fl b a:=aD (by omega) (by omega)
 have t1:jQ (a:Int) 2=((a%2:Nat):Int):=bD a 2
 have t2:jQ (b:Int) 2=((b%2:Nat):Int):=bD b 2
 have t3:kZ (a:Int) 2=((a/2:Nat):Int):=bX a 2
 have t4:kZ (b:Int) 2=((b/2:Nat):Int):=bX b 2
 have t5:IntKind.i64.wrap ((a/2:Nat):Int)=((a/2:Nat):Int):=aD (by omega) (by omega)
 have t6:IntKind.i64.wrap ((b/2:Nat):Int)=((b/2:Nat):Int):=aD (by omega) (by omega)
 have v1:((0:Int)≤a)=True:=eq_true (by omega)
 have v2:((a:Int)<34)=True:=eq_true (by omega)
 have v3:((0:Int)≤b)=True:=eq_true (by omega)
 have v4:((b:Int)<34)=True:=eq_true (by omega)
 have k1:=bP (v:=.pt 1 0) (fl:=fl) ha hb
 have k2:=bP (v:=.pt 1 0) (fl:=fl) hb ha
 have c_a32:((a:Int)=32)=False:=eq_false (by omega)
 have c_b33:((b:Int)=33)=False:=eq_false (by omega)
 have c_ag:(32≤(a:Int))=False:=eq_false (by omega)
 have c_bg:(32≤(b:Int))=False:=eq_false (by omega)
 have c_ae:(((a%2:Nat):Int)=0)=False:=eq_false (by omega)
 have c_ao:(((a%2:Nat):Int)=1)=True:=eq_true (by omega)
 have c_be:(((b%2:Nat):Int)=0)=False:=eq_false (by omega)
 unfold cM
 rw[hcap]
 generalize hA:a/2=a2 at *
 generalize hB:b/2=b2 at *
 generalize hA2:a%2=a3 at *
 generalize hB2:b%2=b3 at *
 rw[r89 (by simp)];unfold x89;dsimp only
 (sym=>(simp[aM,aN,bH,aJ,aI,aK,aL,aS,aE,Za,Zb,Zf,Zh,Zi,Zl,Zm,Zp,Zq,Zr,Zs,Zv,Zy,Z2,Z3,Z8,Z9,ZH,ZJ,ZV,ZW,Yb,Yj,Yk,Yq,Yv,Yw,Yx,YO,YT,YU,Xb,Xp,Xv,X0,Wc,Wi,Wx,Wy,Wz,W7,WA,WF,WH,WJ,WL,WM,WN,WO,WP,WV,WW,WX,Vb,Vc,Vd,Vs,V6,V7,V9,VA,VB,VC,VD,VG,VH,VI,VJ,VL,VQ,VS,VV,VW,VX,VZ,Ua,Ub,Uc,Ud,Ue,Ur,Uu,Uv,Uw,Uz,U0,U1,UA,UB,UY,UZ,Td,Tl,Tm,Tn,Tp,Tr,Ts,Tv,Tz,T0,TB,Sl,Sz,u1,u2,t1,t2,t3,t4,t5,t6,v1,v2,v3,v4,k1,k2,c_a32,c_b33,c_ag,c_bg,c_ae,c_ao,c_be];all_goals tactic=>exact rfl))
theorem w89:runW aA 89 [.pt 0 0,I a,I b] (gN l fl)=some (I (cM st s nur fix fl a b),gN l fl):=by
 by_cases p1:a=32
 ·by_cases p2:b%2=0
  ·by_cases p3:b<32
   ·cases hv:s.testBit (b/2)
    ·exact aFe h hf ha hb (by omega) hv
    ·exact aFd h hf ha hb (by omega) hv
   ·exact aHt h hf ha hb (by omega)
  ·exact aHs h hf ha hb (by omega)
 ·by_cases p2:b=33
  ·by_cases p3:a%2=1
   ·by_cases p4:a<32
    ·cases hv:nur.testBit (a/2)
     ·exact aFc h hf ha hb (by omega) hv
     ·exact aFb h hf ha hb (by omega) hv
    ·exact aHr h hf ha hb (by omega)
   ·exact aHq h hf ha hb (by omega)
  ·by_cases p3:32≤a
   ·exact aHp h hf ha hb (by omega)
   ·by_cases p4:32≤b
    ·exact aHo h hf ha hb (by omega)
    ·by_cases p5:a%2=0
     ·by_cases p6:b=a+1
      ·cases hv:fix.testBit (a/2)
       ·exact aFa h hf ha hb (by omega) hv
       ·exact aEZ h hf ha hb (by omega) hv
      ·exact aHn h hf ha hb (by omega)
     ·by_cases p6:b%2=0
      ·cases hv:(st (a/2)).testBit (b/2)
       ·exact aEY h hf ha hb (by omega) hv
       ·exact aEX h hf ha hb (by omega) hv
      ·exact aHm h hf ha hb (by omega)
end
def zP (m:Nat→Bool):List AV:=(List.range 34).map fun k=>.bool (m k)
def eZ (m:Nat→Bool) (a:Nat):Nat→Bool:=fun c=>if c=a then true else m c
theorem cU {m:Nat→Bool}:(zP m).length=34:=by simp[zP]
theorem oN {m:Nat→Bool} {a:Nat} (ha:a<34):(zP m)[a]?=some (.bool (m a)):=by
 rw[zP,List.getElem?_map,List.getElem?_range ha];rfl
theorem aHM {m:Nat→Bool} {a:Nat} (ha:a<34):bY (zP m) a [.bool true]=zP (eZ m a):=by
 rw[jG (by rw[cU];omega)]
 apply List.ext_getElem?
 intro j
 rw[List.getElem?_set,cU]
 by_cases hj:a=j
 ·subst hj
  rw[if_pos rfl,if_pos ha,oN ha,eZ,if_pos rfl]
 ·rw[if_neg hj]
  by_cases h:j<34
  ·rw[oN h,oN h,eZ,if_neg (by omega)]
  ·rw[List.getElem?_eq_none (by rw[cU];omega),List.getElem?_eq_none (by rw[cU];omega)]
def aCb (m:Nat→Bool):Nat:=((List.range 34).filter m).length
theorem aIk (m:Nat→Bool):aCb m≤34:=by
 have:=List.length_filter_le m (List.range 34)
 simpa [aCb]using this
def yV (m m':Nat→Bool):Prop:=∀ c,m c=true→m' c=true
theorem aDj (m:Nat→Bool):yV m m:=fun _ h=>h
theorem uL {m m' m'':Nat→Bool} (h:yV m m') (g:yV m' m''):yV m m'':=fun c hc=>g c (h c hc)
theorem mF (m:Nat→Bool) (a:Nat):yV m (eZ m a):=fun c hc=>by unfold eZ;split<;>first|rfl|exact hc
theorem aDM {m m':Nat→Bool} (h:yV m m'):aCb m≤aCb m':=nN _ fun k _ hk=>h k hk
theorem aAY {m:Nat→Bool} {a:Nat} (ha:a<34) (h:m a=false):aCb m<aCb (eZ m a) :=
 rY h (by simp[eZ]) _ (List.mem_range.2 ha) fun k _ hk=>mF m a k hk
def push (fl:Nat→Nat→Int) (a b:Nat):Nat→Nat→Int:=if 0<fl b a then jW fl b a (fl b a-1) else jW fl a b (fl a b+1)
section
variable (cap:Nat→Nat→Int)
def uR (fl:Nat→Nat→Int) (a b:Nat):Int:=cap a b-fl a b+fl b a
inductive Aug (fl:Nat→Nat→Int):(Nat→Bool)→Nat→(Nat→Nat→Int)→Prop
 | sink {m:Nat→Bool}:Aug fl m 33 fl
 | step {m:Nat→Bool} {a b:Nat} {fl':Nat→Nat→Int}:m a=false→a<33→b<34→0<uR cap fl a b→Aug fl (eZ m a) b fl'→Aug fl m a (push fl' a b)
variable {cap}
theorem Aug.mono {fl fl':Nat→Nat→Int} {m m':Nat→Bool} {a:Nat} (h:Aug cap fl m a fl') (hs:yV m' m):Aug cap fl m' a fl':=by
 induction h generalizing m' with
 | sink=>exact .sink
 | @step m a b fl' h1 h2 h3 h4 _ ih =>
   refine .step ?_ h2 h3 h4 (ih ?_)
   ·cases h:m' a
    ·rfl
    ·rw[hs _ h]at h1;simp at h1
   ·intro c hc
    unfold eZ at hc ⊢
    split
    ·rfl
    ·next hn=>rw[if_neg hn]at hc;exact hs c hc
theorem aDx {fl:Nat→Nat→Int} {a b c d:Nat} (h1:¬(c=a∧d=b)) (h2:¬(c=b∧d=a)):push fl a b c d=fl c d:=by
 unfold push
 split
 ·unfold jW;rw[if_neg h2]
 ·unfold jW;rw[if_neg h1]
theorem Aug.free {fl fl':Nat→Nat→Int} {m:Nat→Bool} {a:Nat} (h:Aug cap fl m a fl'):a=33∨m a=false:=by
 cases h with
 | sink=>exact .inl rfl
 | step h _ _ _ _=>exact .inr h
theorem Aug.same {fl fl':Nat→Nat→Int} {m:Nat→Bool} {a:Nat} (h:Aug cap fl m a fl') (h33:m 33=false):∀ c d,m c=true∨m d=true→fl' c d=fl c d:=by
 induction h with
 | sink=>exact fun _ _ _=>rfl
 | @step m a b fl' h1 h2 h3 h4 h5 ih =>
   intro c d hcd
   have hb:=h5.free
   have n33:eZ m a 33=false:=by unfold eZ;rw[if_neg (by omega)];exact h33
   have hmb:m b=false:=by
    rcases hb with rfl|hb
    ·exact h33
    ·cases e:m b
     ·rfl
     ·rw[mF m a b e]at hb;simp at hb
   rw[aDx,ih n33 c d]
   ·rcases hcd with h|h
    ·exact .inl (mF m a c h)
    ·exact .inr (mF m a d h)
   ·rintro ⟨rfl,rfl⟩
    rcases hcd with h|h
    ·rw[h]at h1;simp at h1
    ·rw[h]at hmb;simp at hmb
   ·rintro ⟨rfl,rfl⟩
    rcases hcd with h|h
    ·rw[h]at hmb;simp at hmb
    ·rw[h]at h1;simp at h1
structure aCi (cap:Nat→Nat→Int) (fl:Nat→Nat→Int) (m m':Nat→Bool) (a:Nat):Prop where
 sub:yV m m'
 has:m' a=true
 last:m' 33=false
 new:∀ c,m' c=true→m c=false→∀ b,b<34→0<uR cap fl c b→m' b=true
end
end Go.Proofs.YtiabjdfdkiijmaaDoor
