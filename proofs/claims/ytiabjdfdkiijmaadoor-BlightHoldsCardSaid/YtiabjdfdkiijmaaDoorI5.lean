/- Parts of a proof, joined: GT E0 K1 K2 K3 K4 K5 K6 K7 K8 K9 K10 K11 K12 K13 K14 K15 K16 K17 K18 K19 K20 K21 K22 K23 K24 K25 K26 K27 K28 K29 K30 K31 K32 K33 K34 K35 K36 K37. No statement of the seed is proved here. -/
import Derived.KernelRfl
import Derived.Test.YtiabjdfdkiijmaaDoorI4
set_option linter.unusedSimpArgs false
set_option linter.unusedVariables false
set_option linter.unusedSectionVars false
namespace Go.Proofs.YtiabjdfdkiijmaaDoor
open Go Go.DL Go.Proofs.Tryd

def aA:Nat→Option XFn
 | 4=>some x4
 | 15=>some x15
 | 16=>some x16
 | 17=>some x17
 | 18=>some x18
 | 20=>some x20
 | 22=>some x22
 | 23=>some x23
 | 24=>some x24
 | 25=>some x25
 | 26=>some x26
 | 27=>some x27
 | 28=>some x28
 | 29=>some x29
 | 31=>some x31
 | 33=>some x33
 | 35=>some x35
 | 44=>some x44
 | 45=>some x45
 | 46=>some x46
 | 47=>some x47
 | 48=>some x48
 | 49=>some x49
 | 50=>some x50
 | 51=>some x51
 | 52=>some x52
 | 53=>some x53
 | 54=>some x54
 | 55=>some x55
 | 56=>some x56
 | 57=>some x57
 | 58=>some x58
 | 59=>some x59
 | 60=>some x60
 | 61=>some x61
 | 62=>some x62
 | 63=>some x63
 | 65=>some x65
 | 66=>some x66
 | 67=>some x67
 | 68=>some x68
 | 69=>some x69
 | 70=>some x70
 | 71=>some x71
 | 72=>some x72
 | 74=>some x74
 | 75=>some x75
 | 76=>some x76
 | 77=>some x77
 | 78=>some x78
 | 79=>some x79
 | 80=>some x80
 | 81=>some x81
 | 82=>some x82
 | 83=>some x83
 | 84=>some x84
 | 85=>some x85
 | 86=>some x86
 | 87=>some x87
 | 88=>some x88
 | 89=>some x89
 | 90=>some x90
 | 91=>some x91
 | _=>none
theorem aFX:XOk prog aA:=by
 refine⟨rfl,fun k d h=>?_,fun k d h=>?_,fun k d h=>?_⟩
 ·unfold aA at h
  split at h
  ·simp only[oSI]at h;subst h;exact is4
  ·simp only[oSI]at h;subst h;exact aPW
  ·simp only[oSI]at h;subst h;exact aPV
  ·simp only[oSI]at h;subst h;exact aPU
  ·simp only[oSI]at h;subst h;exact aPT
  ·simp only[oSI]at h;subst h;exact aPS
  ·simp only[oSI]at h;subst h;exact aPR
  ·simp only[oSI]at h;subst h;exact aPQ
  ·simp only[oSI]at h;subst h;exact aPP
  ·simp only[oSI]at h;subst h;exact aPO
  ·simp only[oSI]at h;subst h;exact aPN
  ·simp only[oSI]at h;subst h;exact aPM
  ·simp only[oSI]at h;subst h;exact aPL
  ·simp only[oSI]at h;subst h;exact aPK
  ·simp only[oSI]at h;subst h;exact aPJ
  ·simp only[oSI]at h;subst h;exact aPI
  ·simp only[oSI]at h;subst h;exact aPH
  ·simp only[oSI]at h;subst h;exact aPG
  ·simp only[oSI]at h;subst h;exact aPF
  ·simp only[oSI]at h;subst h;exact aPE
  ·simp only[oSI]at h;subst h;exact aPD
  ·simp only[oSI]at h;subst h;exact aPC
  ·simp only[oSI]at h;subst h;exact aPB
  ·simp only[oSI]at h;subst h;exact aPA
  ·simp only[oSI]at h;subst h;exact aPz
  ·simp only[oSI]at h;subst h;exact aPy
  ·simp only[oSI]at h;subst h;exact aPx
  ·simp only[oSI]at h;subst h;exact aPw
  ·simp only[oSI]at h;subst h;exact aPv
  ·simp only[oSI]at h;subst h;exact aPu
  ·simp only[oSI]at h;subst h;exact aPt
  ·simp only[oSI]at h;subst h;exact aPs
  ·simp only[oSI]at h;subst h;exact aPr
  ·simp only[oSI]at h;subst h;exact aPq
  ·simp only[oSI]at h;subst h;exact aPp
  ·simp only[oSI]at h;subst h;exact aPo
  ·simp only[oSI]at h;subst h;exact aPn
  ·simp only[oSI]at h;subst h;exact aPm
  ·simp only[oSI]at h;subst h;exact aPl
  ·simp only[oSI]at h;subst h;exact aPk
  ·simp only[oSI]at h;subst h;exact aPj
  ·simp only[oSI]at h;subst h;exact aPi
  ·simp only[oSI]at h;subst h;exact aPh
  ·simp only[oSI]at h;subst h;exact aPg
  ·simp only[oSI]at h;subst h;exact aPf
  ·simp only[oSI]at h;subst h;exact aPe
  ·simp only[oSI]at h;subst h;exact aPd
  ·simp only[oSI]at h;subst h;exact aPc
  ·simp only[oSI]at h;subst h;exact aPb
  ·simp only[oSI]at h;subst h;exact aPa
  ·simp only[oSI]at h;subst h;exact aOZ
  ·simp only[oSI]at h;subst h;exact aOY
  ·simp only[oSI]at h;subst h;exact aOX
  ·simp only[oSI]at h;subst h;exact aOW
  ·simp only[oSI]at h;subst h;exact aOV
  ·simp only[oSI]at h;subst h;exact aOU
  ·simp only[oSI]at h;subst h;exact aOT
  ·simp only[oSI]at h;subst h;exact aOS
  ·simp only[oSI]at h;subst h;exact aOR
  ·simp only[oSI]at h;subst h;exact aOQ
  ·simp only[oSI]at h;subst h;exact aOP
  ·simp only[oSI]at h;subst h;exact aOO
  ·simp only[oSI]at h;subst h;exact aON
  ·cases h
 ·unfold aA at h
  split at h
  ·simp only[oSI]at h;subst h;exact ok4
  ·simp only[oSI]at h;subst h;exact aOL
  ·simp only[oSI]at h;subst h;exact aOK
  ·simp only[oSI]at h;subst h;exact aOJ
  ·simp only[oSI]at h;subst h;exact aOI
  ·simp only[oSI]at h;subst h;exact aOH
  ·simp only[oSI]at h;subst h;exact aOG
  ·simp only[oSI]at h;subst h;exact aOF
  ·simp only[oSI]at h;subst h;exact aOE
  ·simp only[oSI]at h;subst h;exact aOD
  ·simp only[oSI]at h;subst h;exact aOC
  ·simp only[oSI]at h;subst h;exact aOB
  ·simp only[oSI]at h;subst h;exact aOA
  ·simp only[oSI]at h;subst h;exact aOz
  ·simp only[oSI]at h;subst h;exact aOy
  ·simp only[oSI]at h;subst h;exact aOx
  ·simp only[oSI]at h;subst h;exact aOw
  ·simp only[oSI]at h;subst h;exact aOv
  ·simp only[oSI]at h;subst h;exact aOu
  ·simp only[oSI]at h;subst h;exact aOt
  ·simp only[oSI]at h;subst h;exact aOs
  ·simp only[oSI]at h;subst h;exact aOr
  ·simp only[oSI]at h;subst h;exact aOq
  ·simp only[oSI]at h;subst h;exact aOp
  ·simp only[oSI]at h;subst h;exact aOo
  ·simp only[oSI]at h;subst h;exact aOn
  ·simp only[oSI]at h;subst h;exact aOm
  ·simp only[oSI]at h;subst h;exact aOl
  ·simp only[oSI]at h;subst h;exact aOk
  ·simp only[oSI]at h;subst h;exact aOj
  ·simp only[oSI]at h;subst h;exact aOi
  ·simp only[oSI]at h;subst h;exact aOh
  ·simp only[oSI]at h;subst h;exact aOg
  ·simp only[oSI]at h;subst h;exact aOf
  ·simp only[oSI]at h;subst h;exact aOe
  ·simp only[oSI]at h;subst h;exact aOd
  ·simp only[oSI]at h;subst h;exact aOc
  ·simp only[oSI]at h;subst h;exact aOb
  ·simp only[oSI]at h;subst h;exact aOa
  ·simp only[oSI]at h;subst h;exact aNZ
  ·simp only[oSI]at h;subst h;exact aNY
  ·simp only[oSI]at h;subst h;exact aNX
  ·simp only[oSI]at h;subst h;exact aNW
  ·simp only[oSI]at h;subst h;exact aNV
  ·simp only[oSI]at h;subst h;exact aNU
  ·simp only[oSI]at h;subst h;exact aNT
  ·simp only[oSI]at h;subst h;exact aNS
  ·simp only[oSI]at h;subst h;exact aNR
  ·simp only[oSI]at h;subst h;exact aNQ
  ·simp only[oSI]at h;subst h;exact aNP
  ·simp only[oSI]at h;subst h;exact aNO
  ·simp only[oSI]at h;subst h;exact aNN
  ·simp only[oSI]at h;subst h;exact aNM
  ·simp only[oSI]at h;subst h;exact aNL
  ·simp only[oSI]at h;subst h;exact aNK
  ·simp only[oSI]at h;subst h;exact aNJ
  ·simp only[oSI]at h;subst h;exact aNI
  ·simp only[oSI]at h;subst h;exact aNH
  ·simp only[oSI]at h;subst h;exact aNG
  ·simp only[oSI]at h;subst h;exact aNF
  ·simp only[oSI]at h;subst h;exact aNE
  ·simp only[oSI]at h;subst h;exact aND
  ·simp only[oSI]at h;subst h;exact aNC
  ·cases h
 ·unfold aA at h
  split at h
  ·simp only[oSI]at h;subst h;exact st4
  ·simp only[oSI]at h;subst h;exact aNz
  ·simp only[oSI]at h;subst h;exact aNy
  ·simp only[oSI]at h;subst h;exact aNx
  ·simp only[oSI]at h;subst h;exact aNw
  ·simp only[oSI]at h;subst h;exact aNv
  ·simp only[oSI]at h;subst h;exact aNu
  ·simp only[oSI]at h;subst h;exact aNt
  ·simp only[oSI]at h;subst h;exact aNs
  ·simp only[oSI]at h;subst h;exact aNr
  ·simp only[oSI]at h;subst h;exact aNq
  ·simp only[oSI]at h;subst h;exact aNp
  ·simp only[oSI]at h;subst h;exact aNo
  ·simp only[oSI]at h;subst h;exact aNn
  ·simp only[oSI]at h;subst h;exact aNm
  ·simp only[oSI]at h;subst h;exact aNl
  ·simp only[oSI]at h;subst h;exact aNk
  ·simp only[oSI]at h;subst h;exact aNj
  ·simp only[oSI]at h;subst h;exact aNi
  ·simp only[oSI]at h;subst h;exact aNh
  ·simp only[oSI]at h;subst h;exact aNg
  ·simp only[oSI]at h;subst h;exact aNf
  ·simp only[oSI]at h;subst h;exact aNe
  ·simp only[oSI]at h;subst h;exact aNd
  ·simp only[oSI]at h;subst h;exact aNc
  ·simp only[oSI]at h;subst h;exact aNb
  ·simp only[oSI]at h;subst h;exact aNa
  ·simp only[oSI]at h;subst h;exact aMZ
  ·simp only[oSI]at h;subst h;exact aMY
  ·simp only[oSI]at h;subst h;exact aMX
  ·simp only[oSI]at h;subst h;exact aMW
  ·simp only[oSI]at h;subst h;exact aMV
  ·simp only[oSI]at h;subst h;exact aMU
  ·simp only[oSI]at h;subst h;exact aMT
  ·simp only[oSI]at h;subst h;exact aMS
  ·simp only[oSI]at h;subst h;exact aMR
  ·simp only[oSI]at h;subst h;exact aMQ
  ·simp only[oSI]at h;subst h;exact aMP
  ·simp only[oSI]at h;subst h;exact aMO
  ·simp only[oSI]at h;subst h;exact aMN
  ·simp only[oSI]at h;subst h;exact aMM
  ·simp only[oSI]at h;subst h;exact aML
  ·simp only[oSI]at h;subst h;exact aMK
  ·simp only[oSI]at h;subst h;exact aMJ
  ·simp only[oSI]at h;subst h;exact aMI
  ·simp only[oSI]at h;subst h;exact aMH
  ·simp only[oSI]at h;subst h;exact aMG
  ·simp only[oSI]at h;subst h;exact aMF
  ·simp only[oSI]at h;subst h;exact aME
  ·simp only[oSI]at h;subst h;exact aMD
  ·simp only[oSI]at h;subst h;exact aMC
  ·simp only[oSI]at h;subst h;exact aMB
  ·simp only[oSI]at h;subst h;exact aMA
  ·simp only[oSI]at h;subst h;exact aMz
  ·simp only[oSI]at h;subst h;exact aMy
  ·simp only[oSI]at h;subst h;exact aMx
  ·simp only[oSI]at h;subst h;exact aMw
  ·simp only[oSI]at h;subst h;exact aMv
  ·simp only[oSI]at h;subst h;exact aMu
  ·simp only[oSI]at h;subst h;exact aMt
  ·simp only[oSI]at h;subst h;exact aMs
  ·simp only[oSI]at h;subst h;exact aMr
  ·simp only[oSI]at h;subst h;exact aMq
  ·cases h
theorem r4 {vs:List AV} {h:XH} (hl:vs.length≤56):runW aA 4 vs h=bA none x4.res x4.ownR h.length (execW aA 4 h.length none x4.body (aM (if x4.ownA then vs else dP vs)) h):=aO rfl hl h rfl
theorem r15 {vs:List AV} {h:XH} (hl:vs.length≤13):runW aA 15 vs h=bA none x15.res x15.ownR h.length (execW aA 15 h.length none x15.body (aM (if x15.ownA then vs else dP vs)) h):=aO rfl hl h rfl
theorem r16 {vs:List AV} {h:XH} (hl:vs.length≤168):runW aA 16 vs h=bA none x16.res x16.ownR h.length (execW aA 16 h.length none x16.body (aM (if x16.ownA then vs else dP vs)) h):=aO rfl hl h rfl
theorem r17 {vs:List AV} {h:XH} (hl:vs.length≤34):runW aA 17 vs h=bA none x17.res x17.ownR h.length (execW aA 17 h.length none x17.body (aM (if x17.ownA then vs else dP vs)) h):=aO rfl hl h rfl
theorem r20 {vs:List AV} {h:XH} (hl:vs.length≤26):runW aA 20 vs h=bA none x20.res x20.ownR h.length (execW aA 20 h.length none x20.body (aM (if x20.ownA then vs else dP vs)) h):=aO rfl hl h rfl
theorem r22 {vs:List AV} {h:XH} (hl:vs.length≤26):runW aA 22 vs h=bA none x22.res x22.ownR h.length (execW aA 22 h.length none x22.body (aM (if x22.ownA then vs else dP vs)) h):=aO rfl hl h rfl
theorem r23 {vs:List AV} {h:XH} (hl:vs.length≤83):runW aA 23 vs h=bA none x23.res x23.ownR h.length (execW aA 23 h.length none x23.body (aM (if x23.ownA then vs else dP vs)) h):=aO rfl hl h rfl
theorem r24 {vs:List AV} {h:XH} (hl:vs.length≤117):runW aA 24 vs h=bA none x24.res x24.ownR h.length (execW aA 24 h.length none x24.body (aM (if x24.ownA then vs else dP vs)) h):=aO rfl hl h rfl
theorem r25 {vs:List AV} {h:XH} (hl:vs.length≤28):runW aA 25 vs h=bA none x25.res x25.ownR h.length (execW aA 25 h.length none x25.body (aM (if x25.ownA then vs else dP vs)) h):=aO rfl hl h rfl
theorem r26 {vs:List AV} {h:XH} (hl:vs.length≤44):runW aA 26 vs h=bA none x26.res x26.ownR h.length (execW aA 26 h.length none x26.body (aM (if x26.ownA then vs else dP vs)) h):=aO rfl hl h rfl
theorem r27 {vs:List AV} {h:XH} (hl:vs.length≤29):runW aA 27 vs h=bA none x27.res x27.ownR h.length (execW aA 27 h.length none x27.body (aM (if x27.ownA then vs else dP vs)) h):=aO rfl hl h rfl
theorem r28 {vs:List AV} {h:XH} (hl:vs.length≤23):runW aA 28 vs h=bA none x28.res x28.ownR h.length (execW aA 28 h.length none x28.body (aM (if x28.ownA then vs else dP vs)) h):=aO rfl hl h rfl
theorem r29 {vs:List AV} {h:XH} (hl:vs.length≤50):runW aA 29 vs h=bA none x29.res x29.ownR h.length (execW aA 29 h.length none x29.body (aM (if x29.ownA then vs else dP vs)) h):=aO rfl hl h rfl
theorem r31 {vs:List AV} {h:XH} (hl:vs.length≤57):runW aA 31 vs h=bA none x31.res x31.ownR h.length (execW aA 31 h.length none x31.body (aM (if x31.ownA then vs else dP vs)) h):=aO rfl hl h rfl
theorem r33 {vs:List AV} {h:XH} (hl:vs.length≤82):runW aA 33 vs h=bA none x33.res x33.ownR h.length (execW aA 33 h.length none x33.body (aM (if x33.ownA then vs else dP vs)) h):=aO rfl hl h rfl
theorem r35 {vs:List AV} {h:XH} (hl:vs.length≤75):runW aA 35 vs h=bA none x35.res x35.ownR h.length (execW aA 35 h.length none x35.body (aM (if x35.ownA then vs else dP vs)) h):=aO rfl hl h rfl
theorem r45 {vs:List AV} {h:XH} (hl:vs.length≤15):runW aA 45 vs h=bA none x45.res x45.ownR h.length (execW aA 45 h.length none x45.body (aM (if x45.ownA then vs else dP vs)) h):=aO rfl hl h rfl
theorem r46 {vs:List AV} {h:XH} (hl:vs.length≤21):runW aA 46 vs h=bA none x46.res x46.ownR h.length (execW aA 46 h.length none x46.body (aM (if x46.ownA then vs else dP vs)) h):=aO rfl hl h rfl
theorem r47 {vs:List AV} {h:XH} (hl:vs.length≤11):runW aA 47 vs h=bA none x47.res x47.ownR h.length (execW aA 47 h.length none x47.body (aM (if x47.ownA then vs else dP vs)) h):=aO rfl hl h rfl
theorem r48 {vs:List AV} {h:XH} (hl:vs.length≤87):runW aA 48 vs h=bA none x48.res x48.ownR h.length (execW aA 48 h.length none x48.body (aM (if x48.ownA then vs else dP vs)) h):=aO rfl hl h rfl
theorem r49 {vs:List AV} {h:XH} (hl:vs.length≤17):runW aA 49 vs h=bA none x49.res x49.ownR h.length (execW aA 49 h.length none x49.body (aM (if x49.ownA then vs else dP vs)) h):=aO rfl hl h rfl
theorem r51 {vs:List AV} {h:XH} (hl:vs.length≤8):runW aA 51 vs h=bA none x51.res x51.ownR h.length (execW aA 51 h.length none x51.body (aM (if x51.ownA then vs else dP vs)) h):=aO rfl hl h rfl
theorem r52 {vs:List AV} {h:XH} (hl:vs.length≤10):runW aA 52 vs h=bA none x52.res x52.ownR h.length (execW aA 52 h.length none x52.body (aM (if x52.ownA then vs else dP vs)) h):=aO rfl hl h rfl
theorem r53 {vs:List AV} {h:XH} (hl:vs.length≤26):runW aA 53 vs h=bA none x53.res x53.ownR h.length (execW aA 53 h.length none x53.body (aM (if x53.ownA then vs else dP vs)) h):=aO rfl hl h rfl
theorem r54 {vs:List AV} {h:XH} (hl:vs.length≤45):runW aA 54 vs h=bA none x54.res x54.ownR h.length (execW aA 54 h.length none x54.body (aM (if x54.ownA then vs else dP vs)) h):=aO rfl hl h rfl
theorem r55 {vs:List AV} {h:XH} (hl:vs.length≤58):runW aA 55 vs h=bA none x55.res x55.ownR h.length (execW aA 55 h.length none x55.body (aM (if x55.ownA then vs else dP vs)) h):=aO rfl hl h rfl
theorem r56 {vs:List AV} {h:XH} (hl:vs.length≤77):runW aA 56 vs h=bA none x56.res x56.ownR h.length (execW aA 56 h.length none x56.body (aM (if x56.ownA then vs else dP vs)) h):=aO rfl hl h rfl
theorem r57 {vs:List AV} {h:XH} (hl:vs.length≤15):runW aA 57 vs h=bA none x57.res x57.ownR h.length (execW aA 57 h.length none x57.body (aM (if x57.ownA then vs else dP vs)) h):=aO rfl hl h rfl
theorem r58 {vs:List AV} {h:XH} (hl:vs.length≤51):runW aA 58 vs h=bA none x58.res x58.ownR h.length (execW aA 58 h.length none x58.body (aM (if x58.ownA then vs else dP vs)) h):=aO rfl hl h rfl
theorem r59 {vs:List AV} {h:XH} (hl:vs.length≤24):runW aA 59 vs h=bA none x59.res x59.ownR h.length (execW aA 59 h.length none x59.body (aM (if x59.ownA then vs else dP vs)) h):=aO rfl hl h rfl
theorem r60 {vs:List AV} {h:XH} (hl:vs.length≤10):runW aA 60 vs h=bA none x60.res x60.ownR h.length (execW aA 60 h.length none x60.body (aM (if x60.ownA then vs else dP vs)) h):=aO rfl hl h rfl
theorem r61 {vs:List AV} {h:XH} (hl:vs.length≤36):runW aA 61 vs h=bA none x61.res x61.ownR h.length (execW aA 61 h.length none x61.body (aM (if x61.ownA then vs else dP vs)) h):=aO rfl hl h rfl
theorem r62 {vs:List AV} {h:XH} (hl:vs.length≤5):runW aA 62 vs h=bA none x62.res x62.ownR h.length (execW aA 62 h.length none x62.body (aM (if x62.ownA then vs else dP vs)) h):=aO rfl hl h rfl
theorem r63 {vs:List AV} {h:XH} (hl:vs.length≤6):runW aA 63 vs h=bA none x63.res x63.ownR h.length (execW aA 63 h.length none x63.body (aM (if x63.ownA then vs else dP vs)) h):=aO rfl hl h rfl
theorem r65 {vs:List AV} {h:XH} (hl:vs.length≤27):runW aA 65 vs h=bA none x65.res x65.ownR h.length (execW aA 65 h.length none x65.body (aM (if x65.ownA then vs else dP vs)) h):=aO rfl hl h rfl
theorem r66 {vs:List AV} {h:XH} (hl:vs.length≤19):runW aA 66 vs h=bA none x66.res x66.ownR h.length (execW aA 66 h.length none x66.body (aM (if x66.ownA then vs else dP vs)) h):=aO rfl hl h rfl
theorem r67 {vs:List AV} {h:XH} (hl:vs.length≤5):runW aA 67 vs h=bA none x67.res x67.ownR h.length (execW aA 67 h.length none x67.body (aM (if x67.ownA then vs else dP vs)) h):=aO rfl hl h rfl
theorem r68 {vs:List AV} {h:XH} (hl:vs.length≤19):runW aA 68 vs h=bA none x68.res x68.ownR h.length (execW aA 68 h.length none x68.body (aM (if x68.ownA then vs else dP vs)) h):=aO rfl hl h rfl
theorem r69 {vs:List AV} {h:XH} (hl:vs.length≤61):runW aA 69 vs h=bA none x69.res x69.ownR h.length (execW aA 69 h.length none x69.body (aM (if x69.ownA then vs else dP vs)) h):=aO rfl hl h rfl
theorem r70 {vs:List AV} {h:XH} (hl:vs.length≤9):runW aA 70 vs h=bA none x70.res x70.ownR h.length (execW aA 70 h.length none x70.body (aM (if x70.ownA then vs else dP vs)) h):=aO rfl hl h rfl
theorem r71 {vs:List AV} {h:XH} (hl:vs.length≤10):runW aA 71 vs h=bA none x71.res x71.ownR h.length (execW aA 71 h.length none x71.body (aM (if x71.ownA then vs else dP vs)) h):=aO rfl hl h rfl
theorem r72 {vs:List AV} {h:XH} (hl:vs.length≤65):runW aA 72 vs h=bA none x72.res x72.ownR h.length (execW aA 72 h.length none x72.body (aM (if x72.ownA then vs else dP vs)) h):=aO rfl hl h rfl
theorem r74 {vs:List AV} {h:XH} (hl:vs.length≤15):runW aA 74 vs h=bA none x74.res x74.ownR h.length (execW aA 74 h.length none x74.body (aM (if x74.ownA then vs else dP vs)) h):=aO rfl hl h rfl
theorem r76 {vs:List AV} {h:XH} (hl:vs.length≤21):runW aA 76 vs h=bA none x76.res x76.ownR h.length (execW aA 76 h.length none x76.body (aM (if x76.ownA then vs else dP vs)) h):=aO rfl hl h rfl
theorem r77 {vs:List AV} {h:XH} (hl:vs.length≤98):runW aA 77 vs h=pP 19 h.length (eI (runW aA) (runYW aA) [⟨0,(some 4),(.box (.t 0)),none⟩,⟨0,(some 7),(.box (.t 3)),none⟩,⟨0,(some 19),(.load false 1 (.t 7)),none⟩] (aM (if x77.ownA then vs else dP vs)) h) fun b e1 h1=>bA (some b) x77.res x77.ownR h.length (execW aA 77 h.length none x77.body e1 h1):=aFj rfl hl h rfl
theorem r78 {vs:List AV} {h:XH} (hl:vs.length≤20):runW aA 78 vs h=bA none x78.res x78.ownR h.length (execW aA 78 h.length none x78.body (aM (if x78.ownA then vs else dP vs)) h):=aO rfl hl h rfl
theorem r79 {vs:List AV} {h:XH} (hl:vs.length≤5):runW aA 79 vs h=bA none x79.res x79.ownR h.length (execW aA 79 h.length none x79.body (aM (if x79.ownA then vs else dP vs)) h):=aO rfl hl h rfl
theorem r80 {vs:List AV} {h:XH} (hl:vs.length≤4):runW aA 80 vs h=bA none x80.res x80.ownR h.length (execW aA 80 h.length none x80.body (aM (if x80.ownA then vs else dP vs)) h):=aO rfl hl h rfl
theorem r81 {vs:List AV} {h:XH} (hl:vs.length≤8):runW aA 81 vs h=bA none x81.res x81.ownR h.length (execW aA 81 h.length none x81.body (aM (if x81.ownA then vs else dP vs)) h):=aO rfl hl h rfl
theorem r84 {vs:List AV} {h:XH} (hl:vs.length≤30):runW aA 84 vs h=bA none x84.res x84.ownR h.length (execW aA 84 h.length none x84.body (aM (if x84.ownA then vs else dP vs)) h):=aO rfl hl h rfl
theorem r85 {vs:List AV} {h:XH} (hl:vs.length≤13):runW aA 85 vs h=bA none x85.res x85.ownR h.length (execW aA 85 h.length none x85.body (aM (if x85.ownA then vs else dP vs)) h):=aO rfl hl h rfl
theorem r86 {vs:List AV} {h:XH} (hl:vs.length≤15):runW aA 86 vs h=bA none x86.res x86.ownR h.length (execW aA 86 h.length none x86.body (aM (if x86.ownA then vs else dP vs)) h):=aO rfl hl h rfl
theorem r87 {vs:List AV} {h:XH} (hl:vs.length≤8):runW aA 87 vs h=bA none x87.res x87.ownR h.length (execW aA 87 h.length none x87.body (aM (if x87.ownA then vs else dP vs)) h):=aO rfl hl h rfl
theorem r88 {vs:List AV} {h:XH} (hl:vs.length≤66):runW aA 88 vs h=bA none x88.res x88.ownR h.length (execW aA 88 h.length none x88.body (aM (if x88.ownA then vs else dP vs)) h):=aO rfl hl h rfl
theorem r89 {vs:List AV} {h:XH} (hl:vs.length≤126):runW aA 89 vs h=bA none x89.res x89.ownR h.length (execW aA 89 h.length none x89.body (aM (if x89.ownA then vs else dP vs)) h):=aO rfl hl h rfl
theorem r91 {vs:List AV} {h:XH} (hl:vs.length≤14):runW aA 91 vs h=bA none x91.res x91.ownR h.length (execW aA 91 h.length none x91.body (aM (if x91.ownA then vs else dP vs)) h):=aO rfl hl h rfl

end Go.Proofs.YtiabjdfdkiijmaaDoor
namespace Go.Proofs.YtiabjdfdkiijmaaDoor
open Go Go.DL
theorem aLY:runW aA 44 [I (0)] []=some (.agg [I (8),.fs [[I (0),I (1)],[I (0),I (2)],[I (1),I (3)],[I (2),I (3)],[I (3),I (4)],[I (3),I (5)],[I (4),I (6)],[I (5),I (6)]],.fs [[I (0),I (2),I (7)],[I (3),I (4),I (7)]],I (1),I (192),I (0)],[]):=aU.2 ⟨400,by kernel_rfl⟩
theorem aLX:runW aA 18 [.agg [I (8),.fs [[I (0),I (1)],[I (0),I (2)],[I (1),I (3)],[I (2),I (3)],[I (3),I (4)],[I (3),I (5)],[I (4),I (6)],[I (5),I (6)]],.fs [[I (0),I (2),I (7)],[I (3),I (4),I (7)]],I (1),I (192),I (0)],I (2)] []=some (.tup [.fs [[I (0)],[I (1)],[I (2)],[I (3)],[I (7)]],I (0)],[]):=aU.2 ⟨400,by kernel_rfl⟩
theorem aLU:runW aA 44 [I (9)] []=some (.agg [I (8),.fs [[I (0),I (1)],[I (0),I (2)],[I (1),I (3)],[I (2),I (3)],[I (3),I (4)],[I (3),I (5)],[I (4),I (6)],[I (5),I (6)]],.fs [[I (0),I (2),I (7)],[I (3),I (4),I (7)]],I (1),I (192),I (9)],[]):=aU.2 ⟨400,by kernel_rfl⟩
theorem aLS:runW aA 44 [I (79)] []=some (.agg [I (8),.fs [[I (0),I (1)],[I (0),I (2)],[I (1),I (3)],[I (2),I (3)],[I (3),I (4)],[I (3),I (5)],[I (4),I (6)],[I (5),I (6)]],.fs [[I (0),I (2),I (7)],[I (3),I (4),I (7)]],I (1),I (192),I (79)],[]):=aU.2 ⟨400,by kernel_rfl⟩
theorem aLQ:runW aA 44 [I (15)] []=some (.agg [I (8),.fs [[I (0),I (1)],[I (0),I (2)],[I (1),I (3)],[I (2),I (3)],[I (3),I (4)],[I (3),I (5)],[I (4),I (6)],[I (5),I (6)]],.fs [[I (0),I (2),I (7)],[I (3),I (4),I (7)]],I (1),I (192),I (15)],[]):=aU.2 ⟨400,by kernel_rfl⟩
theorem aKV:runW aA 25 [.agg [I (8),.fs [[I (0),I (1)],[I (0),I (2)],[I (1),I (3)],[I (2),I (3)],[I (3),I (4)],[I (3),I (5)],[I (4),I (6)],[I (5),I (6)]],.fs [[I (0),I (2),I (7)],[I (3),I (4),I (7)]],I (1),I (192),I (0)],.sl 0 0 1 2,I (4)] [some (.blk true (.cells true [I (2),I (3)]))]=some (.tup [.fs [[I (0)],[I (1)]],I (0)],[none]):=aU.2 ⟨400,by kernel_rfl⟩
theorem aKU:runW aA 22 [.fs [[I (0)],[I (1)],[I (2)],[I (3)],[I (7)]],.sl 0 0 1 5] [some (.blk true (.cells true [I (0),I (1),I (2),I (3),I (7)]))]=some (.bool true,[some (.blk true (.cells true [I (0),I (1),I (2),I (3),I (7)]))]):=aU.2 ⟨400,by kernel_rfl⟩
theorem aKT:runW aA 22 [.fs [[I (0)],[I (1)],[I (1)],[I (2)],[I (3)],[I (3)],[I (4)],[I (1)]],.sl 0 0 1 8] [some (.blk true (.cells true [I (0),I (1),I (1),I (2),I (3),I (3),I (4),I (1)]))]=some (.bool true,[some (.blk true (.cells true [I (0),I (1),I (1),I (2),I (3),I (3),I (4),I (1)]))]):=aU.2 ⟨400,by kernel_rfl⟩
theorem aKS:runW aA 22 [.fs [[I (0)]],.sl 0 0 1 1] [some (.blk true (.cells true [I (0)]))]=some (.bool true,[some (.blk true (.cells true [I (0)]))]):=aU.2 ⟨400,by kernel_rfl⟩
theorem aKR:runW aA 22 [.fs [[I (1)],[I (2)]],.sl 0 0 1 2] [some (.blk true (.cells true [I (1),I (2)]))]=some (.bool true,[some (.blk true (.cells true [I (1),I (2)]))]):=aU.2 ⟨400,by kernel_rfl⟩
theorem aKQ:runW aA 22 [.fs [[I (4)],[I (5)],[I (7)]],.sl 0 0 1 3] [some (.blk true (.cells true [I (4),I (5),I (7)]))]=some (.bool true,[some (.blk true (.cells true [I (4),I (5),I (7)]))]):=aU.2 ⟨400,by kernel_rfl⟩
theorem aKP:runW aA 22 [.fs [[I (6)],[I (7)]],.sl 0 0 1 2] [some (.blk true (.cells true [I (6),I (7)]))]=some (.bool true,[some (.blk true (.cells true [I (6),I (7)]))]):=aU.2 ⟨400,by kernel_rfl⟩
theorem aKO:runW aA 22 [.fs [[I (0)],[I (1)]],.sl 0 0 1 2] [some (.blk true (.cells true [I (0),I (1)]))]=some (.bool true,[some (.blk true (.cells true [I (0),I (1)]))]):=aU.2 ⟨400,by kernel_rfl⟩
theorem aKN:runW aA 27 [.agg [I (8),.fs [[I (0),I (1)],[I (0),I (2)],[I (1),I (3)],[I (2),I (3)],[I (3),I (4)],[I (3),I (5)],[I (4),I (6)],[I (5),I (6)]],.fs [[I (0),I (2),I (7)],[I (3),I (4),I (7)]],I (1),I (192),I (0)],.sl 0 0 1 2] [some (.blk true (.cells true [I (3),I (7)]))]=some (I (0),[none]):=aU.2 ⟨400,by kernel_rfl⟩
theorem aKM:runW aA 27 [.agg [I (8),.fs [[I (0),I (1)],[I (0),I (2)],[I (1),I (3)],[I (2),I (3)],[I (3),I (4)],[I (3),I (5)],[I (4),I (6)],[I (5),I (6)]],.fs [[I (0),I (2),I (7)],[I (3),I (4),I (7)]],I (1),I (192),I (0)],.sl 0 0 1 2] [some (.blk true (.cells true [I (3),I (4)]))]=some (I (11),[none]):=aU.2 ⟨400,by kernel_rfl⟩
theorem aKL:runW aA 35 [.agg [I (8),.fs [[I (0),I (1)],[I (0),I (2)],[I (1),I (3)],[I (2),I (3)],[I (3),I (4)],[I (3),I (5)],[I (4),I (6)],[I (5),I (6)]],.fs [[I (0),I (2),I (7)],[I (3),I (4),I (7)]],I (1),I (192),I (9)],.sl 0 0 1 2] [some (.blk false (.cells true [.sl 1 0 1 3,.sl 2 0 1 5])),some (.blk true (.cells true [I (0),I (2),I (7)])),some (.blk true (.cells true [I (0),I (1),I (3),I (4),I (7)]))]=some (I (6),[some (.blk true (.cells true [.fs [[I (0)],[I (2)],[I (7)]],.fs [[I (0)],[I (1)],[I (3)],[I (4)],[I (7)]]])),none,none]):=aU.2 ⟨400,by kernel_rfl⟩
end Go.Proofs.YtiabjdfdkiijmaaDoor
namespace Go.Proofs.YtiabjdfdkiijmaaDoor
open Go Go.DL
set_option maxRecDepth 100000
set_option maxHeartbeats 1000000
theorem ptf (p:Prop):p=True∨p=False:=by
 by_cases h:p
 ·exact .inl (eq_true h)
 ·exact .inr (eq_false h)
theorem bG {α:Type} {l:List α} {i:Nat} (h:i<l.length):∃ x,l[i]?=some x:=⟨_,List.getElem?_eq_getElem h⟩
theorem cU {α:Type} {l:List α} {i:Nat} (h:i<l.length):((i:Int)<(l.length:Int))=True:=eq_true (by omega)
theorem eK {n i:Nat} (h:i<n) (hn:n≤9223372036854775807):IntKind.i64.wrap ((i:Int)+1)=(i:Int)+1:=aD (by omega) (by omega)
theorem fP {α:Type} {l:List α} {i:Nat} {x:α} (h:l[i]?=some x):i<l.length:=(List.getElem?_eq_some_iff.1 h).1

def cB (f:Nat→Int):Nat→Int
 | 0=>0
 | n+1=>if cB f n=0 then f n else cB f n
theorem cN (f:Nat→Int):∀ n,∃ m,m≤n∧(∀ i,i<m→f i=0)∧((m=n∧cB f n=0)∨(m<n∧f m≠0∧cB f n=f m))
 | 0=>⟨0,Nat.le_refl _,fun i hi=>by omega,.inl ⟨rfl,rfl⟩⟩
 | n+1=>by
   obtain⟨m,h1,h2,h3⟩:=cN f n
   rcases h3 with ⟨rfl,h4⟩|⟨h4,h5,h6⟩
   ·by_cases hf:f m=0
    ·refine⟨m+1,Nat.le_refl _,fun i hi=>?_,.inl ⟨rfl,by rw[cB,if_pos h4,hf]⟩⟩
     by_cases hi2:i=m
     ·rw[hi2];exact hf
     ·exact h2 i (by omega)
    ·exact⟨m,by omega,h2,.inr ⟨by omega,hf,by rw[cB,if_pos h4]⟩⟩
   ·exact⟨m,by omega,h2,.inr ⟨by omega,h5,by rw[cB,if_neg (by rw[h6];exact h5),h6]⟩⟩
theorem gH {f:Nat→Int}:∀ {n},cB f n=0→∀ i,i<n→f i=0
 | 0,_,i,hi=>by omega
 | n+1,h,i,hi=>by
   rw[cB]at h
   by_cases h0:cB f n=0
   ·rw[if_pos h0]at h
    by_cases hin:i=n
    ·rw[hin];exact h
    ·exact gH h0 i (by omega)
   ·rw[if_neg h0]at h
    exact absurd h h0

theorem bY {res:List (Nat×Option (Bool×Nat))} {own:Bool} {k:Nat} {r:Option (DX×aH×XH)} {v:AV×XH} (h1:gD r=true) (h2:bA none res own k r=some v):∃ e h,r=some (.ret,e,h)∧bA none res own k (some (.ret,e,h))=some v:=by
 match r with
 | none=>simp[gD]at h1
 | some (.normal,e,h)=>simp[gD]at h1
 | some (.exit _,e,h)=>simp[bA]at h2
 | some (.ret,e,h)=>exact⟨e,h,rfl,h2⟩
def big (k:IntKind):Prop:=k = .u64∨k = .i64
theorem aDE:big .u64:=.inl rfl
theorem bR:big .i64:=.inr rfl
theorem lE {k:IntKind} (h:big k):k.bits=64:=by rcases h with rfl|rfl<;>rfl
theorem gR {k:IntKind} (h:big k) {a:Nat} (ha:a<2^63):k.wrap (a:Int)=(a:Int):=by
 rcases h with rfl|rfl
 ·simp[IntKind.wrap,IntKind.bits,IntKind.signed];omega
 ·simp[IntKind.wrap,IntKind.bits,IntKind.signed];omega
theorem eV {w:Nat} (a:Nat):BitVec.ofInt w (a:Int)=BitVec.ofNat w a:=by
 apply BitVec.eq_of_toNat_eq
 simp
theorem nQ {k:IntKind} (h:big k) {a b:Nat} (ha:a<2^63) (hb:b<2^63):bW .and k (a:Int) (b:Int)=((a&&&b:Nat):Int):=by
 unfold bW
 dsimp only
 rw[eV,eV,lE h,BitVec.toNat_and,BitVec.toNat_ofNat,BitVec.toNat_ofNat,Nat.mod_eq_of_lt (by omega),Nat.mod_eq_of_lt (by omega)]
 exact gR h (Nat.lt_of_le_of_lt Nat.and_le_left ha)
theorem cH {k:IntKind} (h:big k) {a b:Nat} (ha:a<2^63) (hb:b<2^63):bW .or k (a:Int) (b:Int)=((a|||b:Nat):Int):=by
 unfold bW
 dsimp only
 rw[eV,eV,lE h,BitVec.toNat_or,BitVec.toNat_ofNat,BitVec.toNat_ofNat,Nat.mod_eq_of_lt (by omega),Nat.mod_eq_of_lt (by omega)]
 exact gR h (Nat.or_lt_two_pow ha hb)
def fS (a b:Nat):Nat:=a&&&(2^64-(b+1))
theorem iD (a b:Nat):fS a b≤a:=Nat.and_le_left
theorem gJ {k:IntKind} (h:big k) {a b:Nat} (ha:a<2^63) (hb:b<2^63):bW .andNot k (a:Int) (b:Int)=((fS a b:Nat):Int):=by
 unfold bW
 dsimp only
 rw[eV,eV,lE h,BitVec.toNat_and,BitVec.toNat_not,BitVec.toNat_ofNat,BitVec.toNat_ofNat,Nat.mod_eq_of_lt (by omega),Nat.mod_eq_of_lt (by omega),show 2^64-1-b=2^64-(b+1) by omega]
 exact gR h (Nat.lt_of_le_of_lt (iD a b) ha)
theorem bO {a b:Nat} (hb:b<2^64) {i:Nat}:(fS a b).testBit i=(a.testBit i&&(decide (i<64) && !b.testBit i)):=by
 unfold fS
 rw[Nat.testBit_and,Nat.testBit_two_pow_sub_succ hb]
theorem sX {a n:Nat} (h:a<2^n) {i:Nat} (hi:n≤i):a.testBit i=false:=Nat.testBit_lt_two_pow (Nat.lt_of_lt_of_le h (Nat.pow_le_pow_right (by omega) hi))
theorem jW {k:IntKind} (h:big k) {i:Nat} (hi:i<63):k.wrap (1*2^min i k.bits)=((2^i:Nat):Int):=by
 rw[lE h,Nat.min_eq_left (by omega),Int.one_mul,show (2:Int)^i=((2^i:Nat):Int) by norm_cast]
 exact gR h (Nat.pow_lt_pow_right (by omega) hi)
theorem aLl {k:IntKind} (h:big k) {i:Nat} (hi:i<63):k.wrap (2^min i k.bits)=((2^i:Nat):Int):=by
 rw[←jW h hi,Int.one_mul]
theorem aHC {k:IntKind} (h:big k) {a i:Nat} (hi:i<64):(a:Int).fdiv (2^min i k.bits)=((a>>>i:Nat):Int):=by
 rw[lE h,Nat.min_eq_left (by omega),show (2:Int)^i=((2^i:Nat):Int) by norm_cast,Int.fdiv_eq_ediv_of_nonneg _ (Int.natCast_nonneg _),Nat.shiftRight_eq_div_pow]
 exact(Int.natCast_ediv a (2^i)).symm
theorem aKA {k:IntKind} (h:big k) {a i:Nat} (ha:a<2^63) (hi:i<64):bW .and k ((a:Int).fdiv (2^min i k.bits)) 1=if a.testBit i then 1 else 0:=by
 have:a>>>i≤a:=Nat.shiftRight_le a i
 rw[aHC h hi,show (1:Int)=((1:Nat):Int) from rfl,nQ h (by omega) (by omega)]
 unfold Nat.testBit
 rw[Nat.and_comm,Nat.one_and_eq_mod_two]
 by_cases hb:(a>>>i)%2=0
 ·simp[hb]
 ·have:(a>>>i)%2=1:=by omega
  simp[this]
theorem aHe {k:IntKind} (h:big k) {a i:Nat} (ha:a<2^63) (hi:i<64):(bW .and k ((a:Int).fdiv (2^min i k.bits)) 1=1)=(a.testBit i=true):=by
 rw[aKA h ha hi]
 cases a.testBit i<;>simp
theorem oQ {a i n:Nat} (ha:a<2^n) (hi:i<n):a|||2^i<2^n:=Nat.or_lt_two_pow ha (Nat.pow_lt_pow_right (by omega) hi)
theorem dL (a i j:Nat):(a|||2^i).testBit j=(a.testBit j||decide (i=j)):=by
 rw[Nat.testBit_or,Nat.testBit_two_pow]


def btw (a b c:Int):Bool:=decide (a≤b)&&decide (b≤c)
theorem iP {a b c:Int}:btw a b c=true↔a≤b∧b≤c:=by simp[btw]
theorem w45 (a b c:Int):runW aA 45 [I a,I b,I c] []=some (.bool (btw a b c),[]):=by
 rw[r45 (by simp)];unfold x45;dsimp only
 rcases ptf (a≤b)with h|h
 ·(sym=>(simp[Za,Zb,Zf,Zh,Zl,Zm,Zp,Zq,Zv,Zy,Z3,ZV,Yt,YY,Xs,XK,We,Wf,WB,WK,WO,WP,WR,WS,Vv,V9,VA,VC,VD,VE,VF,VG,VJ,VK,VL,VM,VO,VY,Ua,Ud,Uf,Uh,Ul,Uy,U2,U3,U4,UD,UE,Tt,Tu,Tv,Tz,T6,T7,Sw,h,btw.eq_1];all_goals tactic=>exact rfl))
 ·(sym=>(simp[Za,Zb,Zf,Zh,Zl,Zm,Zp,Zs,Zv,Zy,Z3,ZW,Yt,YY,Xs,XK,We,Wf,WB,WK,WO,WP,WR,WS,Vv,V9,VA,VC,VD,VE,VF,VG,VJ,VK,VL,VM,VO,VY,Ua,Ud,Uf,Uh,Un,Uz,U2,U3,U4,UD,UE,Tt,Tu,Tv,Tz,T6,T7,Sw,h,btw.eq_1];all_goals tactic=>exact rfl))
theorem w74 (a b c:Int):runW aA 74 [I b,I a,I c] []=some (.bool (btw a b c),[]):=by
 rw[r74 (by simp)];unfold x74;dsimp only
 rcases ptf (a≤b)with h|h
 ·(sym=>(simp[Za,Zb,Zf,Zh,Zl,Zm,Zp,Zq,Zv,Zy,Z3,ZV,Yt,Yv,YY,Xs,XK,We,Wf,WB,WK,WO,WP,WR,WS,Vv,V9,VA,VC,VD,VE,VF,VG,VJ,VK,VL,VM,VO,VY,Ua,Ud,Uf,Uh,Ul,Uy,U2,U3,U4,UD,UE,Tt,Tu,Tv,Tz,T6,T7,Sw,h,btw.eq_1];all_goals tactic=>exact rfl))
 ·(sym=>(simp[Za,Zb,Zf,Zh,Zl,Zm,Zp,Zs,Zv,Zy,Z3,ZW,Yv,YY,Xs,XK,We,Wf,WB,WK,WO,WP,WR,WS,Vv,V9,VA,VC,VD,VE,VF,VG,VJ,VK,VL,VM,VO,VY,Ua,Ud,Uf,Uh,Un,Uz,U2,U3,U4,UD,UE,Tt,Tu,Tv,Tz,T6,T7,Sw,h,btw.eq_1];all_goals tactic=>exact rfl))
theorem w47 (a b c:Int):runW aA 47 [I b,I a,I c] []=some (.bool (btw a b c),[]):=by
 have e:=w74 a b c
 rw[r47 (by simp)];unfold x47;dsimp only
 (sym=>(simp[Za,Zb,Zf,Zg,Zh,Zj,Zl,Zv,ZO,ZP,ZT,ZU,YX,YY,Xr,Xs,XJ,XK,We,Wf,WA,WB,WK,WN,WO,WP,WR,WS,WU,WV,Vi,Vj,Vk,Vv,Vx,Vy,Vz,V9,VA,VC,VD,VE,VF,VG,VJ,VK,VL,VM,VO,VY,VZ,Ua,Uc,Ud,Uf,Uh,U2,U3,U4,U5,U6,UD,UE,Tu,Tv,Tz,T6,T7,Sw,SD,SE,SG,SI,SJ,SK,e];all_goals tactic=>exact rfl))
theorem oH {a j:Nat} (ha:a<2^63) (hj:j<64):runW aA 60 [I a,I j] []=some (.bool (a.testBit j),[]):=by
 have e:=aHe bR (a:=a) (i:=j) ha hj
 have n0:((j:Int)<0)=False:=eq_false (by omega)
 rw[r60 (by simp)];unfold x60;dsimp only
 cases hb:a.testBit j
 ·rw[hb]at e
  have e:=e.trans (eq_false (by simp))
  (sym=>(simp[Za,Zb,Zf,Zh,Zl,Zm,Zv,Z3,Ym,Yp,Yq,Yx,YY,Xs,XK,We,Wf,WB,WK,WO,WP,WR,WS,Vv,V9,VA,VC,VD,VE,VF,VG,VJ,VK,VL,VM,VO,VY,Ua,Ud,Uf,Uh,Uz,U2,U3,U4,UD,UE,Tt,Tu,Tv,Tz,T6,T7,Sw,n0,e];all_goals tactic=>exact rfl))
 ·rw[hb]at e
  have e:=e.trans (eq_true rfl)
  (sym=>(simp[Za,Zb,Zf,Zh,Zl,Zm,Zv,Z3,Ym,Yp,Yq,Yx,YY,Xs,XK,We,Wf,WB,WK,WO,WP,WR,WS,Vv,V9,VA,VC,VD,VE,VF,VG,VJ,VK,VL,VM,VO,VY,Ua,Ud,Uf,Uh,Uy,U2,U3,U4,UD,UE,Tt,Tu,Tv,Tz,T6,T7,Sw,n0,e];all_goals tactic=>exact rfl))
theorem w52 {a j:Nat} (ha:a<2^63) (hj:j<64):runW aA 52 [I a,I j] []=some (.bool (a.testBit j),[]):=by
 have e:=aHe bR (a:=a) (i:=j) ha hj
 have n0:((j:Int)<0)=False:=eq_false (by omega)
 rw[r52 (by simp)];unfold x52;dsimp only
 cases hb:a.testBit j
 ·rw[hb]at e
  have e:=e.trans (eq_false (by simp))
  (sym=>(simp[Za,Zb,Zf,Zh,Zl,Zm,Zv,Z3,Ym,Yp,Yq,Yx,YY,Xs,XK,We,Wf,WB,WK,WO,WP,WR,WS,Vv,V9,VA,VC,VD,VE,VF,VG,VJ,VK,VL,VM,VO,VY,Ua,Ud,Uf,Uh,Uz,U2,U3,U4,UD,UE,Tt,Tu,Tv,Tz,T6,T7,Sw,n0,e];all_goals tactic=>exact rfl))
 ·rw[hb]at e
  have e:=e.trans (eq_true rfl)
  (sym=>(simp[Za,Zb,Zf,Zh,Zl,Zm,Zv,Z3,Ym,Yp,Yq,Yx,YY,Xs,XK,We,Wf,WB,WK,WO,WP,WR,WS,Vv,V9,VA,VC,VD,VE,VF,VG,VJ,VK,VL,VM,VO,VY,Ua,Ud,Uf,Uh,Uy,U2,U3,U4,UD,UE,Tt,Tu,Tv,Tz,T6,T7,Sw,n0,e];all_goals tactic=>exact rfl))
theorem w62 {j:Nat} (hj:j<63):runW aA 62 [I j] []=some (I (2^j:Nat),[]):=by
 have e:=jW bR hj
 have n0:((j:Int)<0)=False:=eq_false (by omega)
 rw[r62 (by simp)];unfold x62;dsimp only
 (sym=>(simp[Za,Zb,Zf,Zh,Zl,Zm,Zv,Z3,Yo,Yx,YX,Xr,XJ,We,WB,WK,WO,WP,WR,WS,Vv,V9,VA,VC,VD,VE,VF,VG,VJ,VK,VL,VM,VO,VY,Ua,Ud,Uf,Uh,U2,U3,U4,UD,UE,Tt,Tu,Tv,Tz,T6,T7,Sw,n0,e];all_goals tactic=>exact rfl))
abbrev nL (l:List Int):AV:=.fs (l.map fun n=>[I n])
theorem aGh (l:List Int):(l.map fun n=>([I n]:List AV)).length=l.length:=List.length_map _
theorem yG {l:List Int} {i:Nat} {n:Int} (h:l[i]?=some n):(l.map fun n=>([I n]:List AV))[i]?=some [I n]:=by rw[List.getElem?_map,h];rfl
def agree (a b:List Int):Nat→Nat→Prop:=fun m n=>m≤n∧(∀ i,i<m→a[i]?=b[i]?)∧(m=n∨a[m]?≠b[m]?)
theorem aBz (a b:List Int):∀ n,∃ m,agree a b m n
 | 0=>⟨0,Nat.le_refl _,fun i hi=>by omega,.inl rfl⟩
 | n+1=>by
   obtain⟨m,h1,h2,h3⟩:=aBz a b n
   rcases h3 with rfl|h3
   ·by_cases h:a[m]?=b[m]?
    ·exact⟨m+1,Nat.le_refl _,fun i hi=>by
     by_cases hi2:i=m
     ·rw[hi2];exact h
     ·exact h2 i (by omega),.inl rfl⟩
    ·exact⟨m,by omega,h2,.inr h⟩
   ·exact⟨m,by omega,h2,.inr h3⟩
theorem w22 (a b:List Int) (hb:b.length<1000000000):runW aA 22 [nL a,nL b] []=some (.bool (decide (a=b)),[]):=by
 have la:=aGh a
 have lb:=aGh b
 rw[r22 (by simp)];unfold x22;dsimp only
 by_cases hl:a.length=b.length
 ·have e1:((a.length:Int)=(b.length:Int))=True:=eq_true (by omega)
  obtain⟨m,m1,m2,m3⟩:=aBz a b b.length
  have z:=Te (n:=(b.length:Int))
  sym =>
   simp[Za,Zb,Zf,Zh,Zl,Zm,Zv,Z3,ZF,Yc,Yr,Wi,WB,VO,VT,VV,VY,Uh,Ui,Uq,Uy,UD,UE,Tt,Tu,Tw,Ty,Tz,T6,T7,la,lb,e1]
   tactic =>
    unfold aJg
    rw[aE m (fun i=>[nL a,nL b,I (i:Nat)]) (fun _=>[])]
    ·rcases m3 with rfl|m3
     ·have hab:a=b:=List.ext_getElem? fun i=>by
       by_cases hi:i<b.length
       ·exact m2 i hi
       ·rw[List.getElem?_eq_none (by omega),List.getElem?_eq_none (by omega)]
      have d:decide (a=b)=true:=decide_eq_true hab
      rw[d]
      (sym=>(simp[Za,Zb,Zf,Zh,Zl,Zm,Zv,Z3,ZF,Yc,Ys,YY,Xs,XK,Wf,WK,WO,WP,WR,WS,Vv,V9,VA,VC,VD,VE,VF,VG,VJ,VK,VL,VM,VQ,VT,VV,Ua,Ud,Uf,Ui,Uz,U2,U3,U4,Te,Tt,Tu,Tv,Tx,Tz,T0,T4,T6,T7,Sw,la,lb,z,hl];all_goals tactic=>exact rfl))
     ·have hm:m<b.length:=by
       by_cases hm:m<b.length
       ·exact hm
       ·exact absurd (by rw[List.getElem?_eq_none (by omega),List.getElem?_eq_none (by omega)]) m3
      have d:decide (a=b)=false:=decide_eq_false fun h=>m3 (by rw[h])
      rw[d]
      obtain⟨x,hx⟩:=bG (l:=a) (i:=m) (by omega)
      obtain⟨y,hy⟩:=bG (l:=b) (i:=m) hm
      have hxy:(x=y)=False:=eq_false fun h=>m3 (by rw[hx,hy,h])
      have ax:=yG hx
      have ay:=yG hy
      have i1:((m:Int)<(b.length:Int))=True:=eq_true (by omega)
      have i2:((m:Int)<(a.length:Int))=True:=eq_true (by omega)
      (sym=>(simp[Za,Zb,Zf,Zh,Zi,Zl,Zm,Zv,Z3,ZA,ZF,ZI,ZJ,Yc,Yg,Yh,Yr,Ys,Yw,Yx,YY,Xs,XK,Wf,WC,WK,WO,WP,WR,WS,Vv,V9,VA,VC,VD,VE,VF,VG,VJ,VK,VL,VM,VQ,VT,VU,Ua,Ud,Uf,Ug,Uh,Ui,Uj,Uk,Ur,Uu,Uy,Uz,U2,U3,U4,Th,Ti,Tk,Tt,Tu,Tv,Tw,Ty,Tz,T1,T3,T6,T7,Sw,hx,hy,hxy,i1,i2];all_goals tactic=>exact rfl))
    ·(sym=>(simp[Za,Y9,YX,Xb,Xr,Xv,WB,WK,WO,WP,WR,WS,VO,VR,VS,VZ,Ua,Ud,Uf,U2,U3,U4,U5,U6,T5,la];all_goals tactic=>exact rfl))
    ·intro i hi
     have hib:i<b.length:=by omega
     obtain⟨y,hy⟩:=bG (l:=b) hib
     have hx:a[i]?=some y:=by rw[m2 i hi];exact hy
     have ax:=yG hx
     have ay:=yG hy
     have i1:((i:Int)<(b.length:Int))=True:=eq_true (by omega)
     have i2:((i:Int)<(a.length:Int))=True:=eq_true (by omega)
     have a2:=eK hib (by omega)
     (sym=>(simp[Za,Zb,Zf,Zh,Zi,Zl,Zm,Zv,Z3,ZA,ZF,ZI,ZJ,Yc,Yg,Yh,Yj,Yr,Ys,Yw,Yx,YX,Xb,Xr,Xv,WC,WK,WO,WP,WR,WS,VQ,VR,VS,VT,VU,VV,VZ,Ua,Ud,Uf,Ug,Uh,Ui,Uj,Uk,Uq,Uu,Uy,U2,U3,U4,U5,U6,Th,Ti,Tk,Tt,Tu,Tw,Ty,Tz,T2,T5,T6,T7,hx,hy,i1,i2,a2];all_goals tactic=>exact rfl))
    ·rcases m3 with rfl|m3
     ·(sym=>(simp[Za,Zb,Zf,Zh,Zl,Zm,Zv,Z3,ZF,Yc,Ys,VQ,VT,VV,VW,Ui,Uz,Te,Tt,Tu,Tx,Tz,T0,T6,la,lb,z,hl];all_goals tactic=>exact rfl))
     ·have hm:m<b.length:=by
       by_cases hm:m<b.length
       ·exact hm
       ·exact absurd (by rw[List.getElem?_eq_none (by omega),List.getElem?_eq_none (by omega)]) m3
      obtain⟨x,hx⟩:=bG (l:=a) (i:=m) (by omega)
      obtain⟨y,hy⟩:=bG (l:=b) (i:=m) hm
      have hxy:(x=y)=False:=eq_false fun h=>m3 (by rw[hx,hy,h])
      have ax:=yG hx
      have ay:=yG hy
      have i1:((m:Int)<(b.length:Int))=True:=eq_true (by omega)
      have i2:((m:Int)<(a.length:Int))=True:=eq_true (by omega)
      (sym=>(simp[Za,Zb,Zf,Zh,Zi,Zl,Zm,Zv,Z3,ZA,ZF,ZI,ZJ,Yc,Yg,Yh,Yr,Ys,Yw,Yx,WC,VQ,VT,VU,VX,Ug,Uh,Ui,Uj,Uk,Ur,Uu,Uy,Uz,Th,Ti,Tk,Tt,Tu,Tv,Tw,Ty,Tz,T1,T3,T6,T7,hx,hy,hxy,i1,i2];all_goals tactic=>exact rfl))
 ·have e1:((a.length:Int)=(b.length:Int))=False:=eq_false (by omega)
  have d:decide (a=b)=false:=decide_eq_false fun h=>hl (by rw[h])
  rw[d]
  (sym=>(simp[Za,Zb,Zf,Zh,Zl,Zm,Zv,Z3,ZF,Yc,Yr,YY,Xs,XK,Wf,Wi,WB,WK,WO,WP,WR,WS,Vv,V9,VA,VC,VD,VE,VF,VG,VJ,VK,VL,VM,VO,VT,VU,VY,Ua,Ud,Uf,Uh,Ui,Ur,Uz,U2,U3,U4,UD,UE,Tt,Tu,Tv,Tz,T1,T6,T7,Sw,la,lb,e1];all_goals tactic=>exact rfl))
end Go.Proofs.YtiabjdfdkiijmaaDoor
namespace Go.Proofs.YtiabjdfdkiijmaaDoor
open Go Go.DL
set_option maxRecDepth 100000
set_option maxHeartbeats 4000000

theorem aJN:∀ a:Nat,a≠0→∃ p m,a=2^p*(2*m+1):=by
 intro a
 induction a using Nat.strongRecOn with
 | _ a ih =>
   intro h0
   by_cases h:a%2=1
   ·exact⟨0,a/2,by omega⟩
   ·obtain⟨p,m,hm⟩:=ih (a/2) (by omega) (by omega)
    refine⟨p+1,m,?_⟩
    rw[Nat.pow_succ,Nat.mul_comm (2^p) 2,Nat.mul_assoc,←hm]
    omega
theorem zE (m j:Nat):(2*m+1).testBit j=if j=0 then true else m.testBit (j-1):=by
 cases j with
 | zero=>simp[Nat.testBit]
 | succ j=>simp only[Nat.add_one_ne_zero,if_false,Nat.add_sub_cancel];rw[Nat.testBit_succ];congr 1;omega
theorem zF (m j:Nat):(2*m).testBit j=if j=0 then false else m.testBit (j-1):=by
 cases j with
 | zero=>simp[Nat.testBit]
 | succ j=>simp only[Nat.add_one_ne_zero,if_false,Nat.add_sub_cancel];rw[Nat.testBit_succ];congr 1;omega
theorem lI (p x i:Nat):(2^p*x).testBit i=if i<p then false else x.testBit (i-p):=by
 have:=Nat.testBit_two_pow_mul_add x (b:=0) (i:=p) (Nat.two_pow_pos p) i
 rw[Nat.add_zero,Nat.zero_testBit]at this
 exact this
theorem aEv (p m:Nat):2^p*(2*m+1)&&&(2^p*(2*m+1)-1)=2^p*(2*m):=by
 have h1:2^p*(2*m+1)-1=2^p*(2*m)+(2^p-1):=by
  have:=Nat.two_pow_pos p
  rw[Nat.mul_add,Nat.mul_one];omega
 apply Nat.eq_of_testBit_eq
 intro i
 rw[Nat.testBit_and,lI,h1,Nat.testBit_two_pow_mul_add _ (by have:=Nat.two_pow_pos p;omega),lI]
 by_cases hi:i<p
 ·simp[hi]
 ·simp only[hi,if_false,zE,zF]
  by_cases h0:i-p=0
  ·simp[h0]
  ·simp[h0]
theorem aIs (p m:Nat) (h:2^p*(2*m+1)<2^64):2^p*(2*m+1)&&&(2^64-2^p*(2*m+1))=2^p:=by
 have hp:p<64:=by
  by_cases hp:p<64
  ·exact hp
  ·have h1:2^64≤2^p:=Nat.pow_le_pow_right (by omega) (by omega)
   have h2:2^p*1≤2^p*(2*m+1):=Nat.mul_le_mul_left _ (by omega)
   omega
 have e64:(2:Nat)^64=2^p*(2*2^(63-p)):=by
  rw[←Nat.pow_succ',←Nat.pow_add];congr 1;omega
 have hm:m<2^(63-p):=by
  rw[e64]at h
  have:=Nat.lt_of_mul_lt_mul_left h
  omega
 have h1:2^64-2^p*(2*m+1)=2^p*(2*(2^(63-p)-(m+1))+1):=by
  rw[e64,←Nat.mul_sub];congr 1;omega
 rw[h1]
 apply Nat.eq_of_testBit_eq
 intro i
 rw[Nat.testBit_and,lI,lI,Nat.testBit_two_pow]
 by_cases hi:i<p
 ·simp[hi];omega
 ·simp only[hi,if_false,zE]
  by_cases h0:i-p=0
  ·have:p=i:=by omega
   simp[h0,this]
  ·have:p≠i:=by omega
   simp only[h0,if_false,Nat.testBit_two_pow_sub_succ hm]
   cases m.testBit (i-p-1)<;>simp[this]

def el (a:Nat):List Nat:=(List.range 16).filter (a.testBit ·)
def qR (a:Nat):Nat:=(el a).headD 0
theorem iC {a k:Nat}:k∈el a↔k<16∧a.testBit k=true:=by simp[el]
theorem aGM {a:Nat} (ha:a<65536) (h0:a≠0):∃ p m,p<16∧a=2^p*(2*m+1)∧el a=p::el (a&&&(a-1)):=by
 obtain⟨p,m,rfl⟩:=aJN a h0
 have hp:p<16:=by
  by_cases hp:p<16
  ·exact hp
  ·have h1:2^16≤2^p:=Nat.pow_le_pow_right (by omega) (by omega)
   have h2:2^p*1≤2^p*(2*m+1):=Nat.mul_le_mul_left _ (by omega)
   omega
 refine⟨p,m,hp,rfl,?_⟩
 rw[aEv]
 unfold el
 have hr:List.range 16=List.range p++p::List.range' (p+1) (15-p):=by
  rw[List.range_eq_range',List.range_eq_range',show (16:Nat)=p+(1+(15-p)) by omega,←List.range'_append_1,←List.range'_append_1]
  simp
 rw[hr,List.filter_append,List.filter_append,List.filter_cons,List.filter_cons]
 have f1:∀ x:Nat,(List.range p).filter (fun i=>(2^p*x).testBit i)=[]:=fun x=>by
  rw[List.filter_eq_nil_iff]
  intro i hi
  rw[List.mem_range]at hi
  rw[lI,if_pos hi];simp
 have t1:(2^p*(2*m+1)).testBit p=true:=by rw[lI,if_neg (by omega),Nat.sub_self,zE];rfl
 have t2:(2^p*(2*m)).testBit p=false:=by rw[lI,if_neg (by omega),Nat.sub_self,zF];rfl
 rw[f1,f1]
 simp only[t1,t2,if_true,List.nil_append,Bool.false_eq_true,if_false]
 congr 1
 refine List.filter_congr fun i hi=>?_
 rw[List.mem_range'_1]at hi
 rw[lI,lI,if_neg (by omega),if_neg (by omega),zE,zF,if_neg (by omega),if_neg (by omega)]
theorem uL {a:Nat} (ha:a<65536) (h0:a≠0):el a=qR a::el (a&&&(a-1)):=by
 obtain⟨p,m,_,_,h⟩:=aGM ha h0
 rw[qR,h];rfl
theorem aPY {a:Nat} (ha:a<65536):el a=[]↔a=0:=by
 constructor
 ·intro h
  by_cases h0:a=0
  ·exact h0
  ·rw[uL ha h0]at h;simp at h
 ·rintro rfl;rfl
theorem aGn {a:Nat} (ha:a<65536) (h0:a≠0):qR a<16∧a.testBit (qR a)=true:=by
 have:=uL ha h0
 exact iC.1 (by rw[this];simp)
theorem aJb {a:Nat} (ha:a<65536) (h0:a≠0):a&&&(2^64-a)=2^qR a:=by
 obtain⟨p,m,hp,e,h⟩:=aGM ha h0
 have hl:qR a=p:=by rw[qR,h];rfl
 rw[hl]
 conv=>lhs;rw[e]
 exact aIs p m (by rw[←e];omega)

abbrev U (a:Nat):AV:=.int .u64 (a:Int)
theorem w91 {a:Nat} (ha:a<65536) (h0:a≠0):runW aA 91 [U a] []=some (I (qR a:Nat),[]):=by
 have n0:((a:Int)=0)=False:=eq_false (by omega)
 have u1:IntKind.u64.wrap (0-(a:Int))=((2^64-a:Nat):Int):=by
  simp[IntKind.wrap,IntKind.bits,IntKind.signed];omega
 have u2:bW .and .u64 (a:Int) ((2^64-a:Nat):Int)=((2^qR a:Nat):Int):=by
  unfold bW
  dsimp only
  rw[eV,eV,lE aDE,BitVec.toNat_and,BitVec.toNat_ofNat,BitVec.toNat_ofNat,Nat.mod_eq_of_lt (by omega),Nat.mod_eq_of_lt (by omega),aJb ha h0]
  exact gR aDE (Nat.pow_lt_pow_right (by omega) (by have:=(aGn ha h0).1;omega))
 obtain⟨p,hp⟩:∃ p,qR a=p:=⟨_,rfl⟩
 have hp16:=(aGn ha h0).1
 rw[hp]at u2 hp16 ⊢
 generalize 2^64-a=na at u1 u2
 rw[r91 (by simp)];unfold x91;dsimp only
 have fin:p=0∨p=1∨p=2∨p=3∨p=4∨p=5∨p=6∨p=7∨p=8∨p=9∨p=10∨p=11∨p=12∨p=13∨p=14∨p=15:=by omega
 rcases fin with rfl|rfl|rfl|rfl|rfl|rfl|rfl|rfl|rfl|rfl|rfl|rfl|rfl|rfl|rfl|rfl
 ·have u2:bW .and .u64 (a:Int) (na:Int)=1:=u2
  have u3:IntKind.u64.wrap 285870213051353865=285870213051353865:=by decide
  have u4:(285870213051353865:Int).fdiv (2^min (Int.toNat 58) IntKind.u64.bits)=0:=by decide
  have u5:Int.toNat 0=0:=rfl
  (sym=>(simp[Za,Zb,Zf,Zh,Zl,Zm,Zv,Z3,Z6,Z7,Z9,ZG,ZY,ZZ,Yl,Ym,Yp,Yq,Yy,Y8,Y9,YP,YX,Xr,XJ,We,WB,WC,WK,WO,WP,WR,WS,Vv,V9,VA,VC,VD,VE,VF,VG,VJ,VK,VL,VM,VO,VT,VV,VY,Ua,Ud,Uf,Uh,Uu,Uz,U2,U3,U4,UD,UE,Th,Ti,Tk,Tt,Tu,Tv,Tw,Tz,T6,T7,Sw,SB,n0,u1,u2,u3,u4,u5];all_goals tactic=>exact rfl))
 ·have u2:bW .and .u64 (a:Int) (na:Int)=2:=u2
  have u3:IntKind.u64.wrap 571740426102707730=571740426102707730:=by decide
  have u4:(571740426102707730:Int).fdiv (2^min (Int.toNat 58) IntKind.u64.bits)=1:=by decide
  have u5:Int.toNat 1=1:=rfl
  (sym=>(simp[Za,Zb,Zf,Zh,Zl,Zm,Zv,Z3,Z6,Z7,Z9,ZG,ZY,ZZ,Yl,Ym,Yp,Yq,Yz,YA,YB,YP,YX,Xr,XJ,We,WB,WC,WK,WO,WP,WR,WS,Vv,V9,VA,VC,VD,VE,VF,VG,VJ,VK,VL,VM,VO,VT,VV,VY,Ua,Ud,Uf,Uh,Uu,Uz,U2,U3,U4,UD,UE,Th,Ti,Tk,Tt,Tu,Tv,Tw,Tz,T6,T7,Sw,SB,n0,u1,u2,u3,u4,u5];all_goals tactic=>exact rfl))
 ·have u2:bW .and .u64 (a:Int) (na:Int)=4:=u2
  have u3:IntKind.u64.wrap 1143480852205415460=1143480852205415460:=by decide
  have u4:(1143480852205415460:Int).fdiv (2^min (Int.toNat 58) IntKind.u64.bits)=3:=by decide
  have u5:Int.toNat 3=3:=rfl
  (sym=>(simp[Za,Zb,Zf,Zh,Zl,Zm,Zv,Z3,Z6,Z7,Z9,ZG,ZY,ZZ,Yl,Ym,Yp,Yq,Y0,YD,YE,YP,YX,Xr,XJ,We,WB,WC,WK,WO,WP,WR,WS,Vv,V9,VA,VC,VD,VE,VF,VG,VJ,VK,VL,VM,VO,VT,VV,VY,Ua,Ud,Uf,Uh,Uu,Uz,U2,U3,U4,UD,UE,Th,Ti,Tk,Tt,Tu,Tv,Tw,Tz,T6,T7,Sw,SB,n0,u1,u2,u3,u4,u5];all_goals tactic=>exact rfl))
 ·have u2:bW .and .u64 (a:Int) (na:Int)=8:=u2
  have u3:IntKind.u64.wrap 2286961704410830920=2286961704410830920:=by decide
  have u4:(2286961704410830920:Int).fdiv (2^min (Int.toNat 58) IntKind.u64.bits)=7:=by decide
  have u5:Int.toNat 7=7:=rfl
  (sym=>(simp[Za,Zb,Zf,Zh,Zl,Zm,Zv,Z3,Z6,Z7,Z9,ZG,ZY,ZZ,Yl,Ym,Yp,Yq,Y1,YF,YK,YP,YX,Xr,XJ,We,WB,WC,WK,WO,WP,WR,WS,Vv,V9,VA,VC,VD,VE,VF,VG,VJ,VK,VL,VM,VO,VT,VV,VY,Ua,Ud,Uf,Uh,Uu,Uz,U2,U3,U4,UD,UE,Th,Ti,Tk,Tt,Tu,Tv,Tw,Tz,T6,T7,Sw,SB,n0,u1,u2,u3,u4,u5];all_goals tactic=>exact rfl))
 ·have u2:bW .and .u64 (a:Int) (na:Int)=16:=u2
  have u3:IntKind.u64.wrap 4573923408821661840=4573923408821661840:=by decide
  have u4:(4573923408821661840:Int).fdiv (2^min (Int.toNat 58) IntKind.u64.bits)=15:=by decide
  have u5:Int.toNat 15=15:=rfl
  (sym=>(simp[Za,Zb,Zf,Zh,Zl,Zm,Zv,Z3,Z6,Z7,Z9,ZG,ZY,ZZ,Yl,Ym,Yp,Yq,Y2,YG,YP,YX,Xr,XJ,We,WB,WC,WK,WO,WP,WR,WS,Vv,V9,VA,VC,VD,VE,VF,VG,VJ,VK,VL,VM,VO,VT,VV,VY,Ua,Ud,Uf,Uh,Uu,Uz,U2,U3,U4,UD,UE,Th,Ti,Tk,Tt,Tu,Tv,Tw,Tz,T6,T7,Sw,SB,n0,u1,u2,u3,u4,u5];all_goals tactic=>exact rfl))
 ·have u2:bW .and .u64 (a:Int) (na:Int)=32:=u2
  have u3:IntKind.u64.wrap 9147846817643323680=9147846817643323680:=by decide
  have u4:(9147846817643323680:Int).fdiv (2^min (Int.toNat 58) IntKind.u64.bits)=31:=by decide
  have u5:Int.toNat 31=31:=rfl
  (sym=>(simp[Za,Zb,Zf,Zh,Zl,Zm,Zv,Z3,Z6,Z7,Z9,ZG,ZY,ZZ,Yl,Ym,Yp,Yq,Y3,YH,YP,YX,Xr,XJ,We,WB,WC,WK,WO,WP,WR,WS,Vv,V9,VA,VC,VD,VE,VF,VG,VJ,VK,VL,VM,VO,VT,VV,VY,Ua,Ud,Uf,Uh,Uu,Uz,U2,U3,U4,UD,UE,Th,Ti,Tk,Tt,Tu,Tv,Tw,Tz,T6,T7,Sw,SB,n0,u1,u2,u3,u4,u5];all_goals tactic=>exact rfl))
 ·have u2:bW .and .u64 (a:Int) (na:Int)=64:=u2
  have u3:IntKind.u64.wrap 18295693635286647360=18295693635286647360:=by decide
  have u4:(18295693635286647360:Int).fdiv (2^min (Int.toNat 58) IntKind.u64.bits)=63:=by decide
  have u5:Int.toNat 63=63:=rfl
  (sym=>(simp[Za,Zb,Zf,Zh,Zl,Zm,Zv,Z3,Z6,Z7,Z9,ZG,ZY,ZZ,Yl,Ym,Yp,Yq,Y4,YJ,YP,YX,Xr,XJ,We,WB,WC,WK,WO,WP,WR,WS,Vv,V9,VA,VC,VD,VE,VF,VG,VJ,VK,VL,VM,VO,VT,VV,VY,Ua,Ud,Uf,Uh,Uu,Uz,U2,U3,U4,UD,UE,Th,Ti,Tk,Tt,Tu,Tv,Tw,Tz,T6,T7,Sw,SB,n0,u1,u2,u3,u4,u5];all_goals tactic=>exact rfl))
 ·have u2:bW .and .u64 (a:Int) (na:Int)=128:=u2
  have u3:IntKind.u64.wrap 36591387270573294720=18144643196863743104:=by decide
  have u4:(18144643196863743104:Int).fdiv (2^min (Int.toNat 58) IntKind.u64.bits)=62:=by decide
  have u5:Int.toNat 62=62:=rfl
  (sym=>(simp[Za,Zb,Zf,Zh,Zl,Zm,Zv,Z3,Z6,Z7,Z9,ZG,ZY,ZZ,Yl,Ym,Yp,Yq,Y5,YL,YP,YX,Xr,XJ,We,WB,WC,WK,WO,WP,WR,WS,Vv,V9,VA,VC,VD,VE,VF,VG,VJ,VK,VL,VM,VO,VT,VV,VY,Ua,Ud,Uf,Uh,Uu,Uz,U2,U3,U4,UD,UE,Th,Ti,Tk,Tt,Tu,Tv,Tw,Tz,T6,T7,Sw,SB,n0,u1,u2,u3,u4,u5];all_goals tactic=>exact rfl))
 ·have u2:bW .and .u64 (a:Int) (na:Int)=256:=u2
  have u3:IntKind.u64.wrap 73182774541146589440=17842542320017934592:=by decide
  have u4:(17842542320017934592:Int).fdiv (2^min (Int.toNat 58) IntKind.u64.bits)=61:=by decide
  have u5:Int.toNat 61=61:=rfl
  (sym=>(simp[Za,Zb,Zf,Zh,Zl,Zm,Zv,Z3,Z6,Z7,Z9,ZG,ZY,ZZ,Yl,Ym,Yp,Yq,Y6,YM,YP,YX,Xr,XJ,We,WB,WC,WK,WO,WP,WR,WS,Vv,V9,VA,VC,VD,VE,VF,VG,VJ,VK,VL,VM,VO,VT,VV,VY,Ua,Ud,Uf,Uh,Uu,Uz,U2,U3,U4,UD,UE,Th,Ti,Tk,Tt,Tu,Tv,Tw,Tz,T6,T7,Sw,SB,n0,u1,u2,u3,u4,u5];all_goals tactic=>exact rfl))
 ·have u2:bW .and .u64 (a:Int) (na:Int)=512:=u2
  have u3:IntKind.u64.wrap 146365549082293178880=17238340566326317568:=by decide
  have u4:(17238340566326317568:Int).fdiv (2^min (Int.toNat 58) IntKind.u64.bits)=59:=by decide
  have u5:Int.toNat 59=59:=rfl
  (sym=>(simp[Za,Zb,Zf,Zh,Zl,Zm,Zv,Z3,Z6,Z7,Z9,ZG,ZY,ZZ,Yl,Ym,Yp,Yq,Y7,YN,YP,YX,Xr,XJ,We,WB,WC,WK,WO,WP,WR,WS,Vv,V9,VA,VC,VD,VE,VF,VG,VJ,VK,VL,VM,VO,VT,VV,VY,Ua,Ud,Uf,Uh,Uu,Uz,U2,U3,U4,UD,UE,Th,Ti,Tk,Tt,Tu,Tv,Tw,Tz,T6,T7,Sw,SB,n0,u1,u2,u3,u4,u5];all_goals tactic=>exact rfl))
 ·have u2:bW .and .u64 (a:Int) (na:Int)=1024:=u2
  have u3:IntKind.u64.wrap 292731098164586357760=16029937058943083520:=by decide
  have u4:(16029937058943083520:Int).fdiv (2^min (Int.toNat 58) IntKind.u64.bits)=55:=by decide
  have u5:Int.toNat 55=55:=rfl
  (sym=>(simp[Za,Zb,Zf,Zh,Zl,Zm,Zv,Z3,Z6,Z7,Z9,ZG,ZY,ZZ,Yl,Ym,Yp,Yq,YP,YX,Xr,XJ,We,WB,WC,WK,WO,WP,WR,WS,Vv,V9,VA,VC,VD,VE,VF,VG,VJ,VK,VL,VM,VO,VT,VV,VY,Ua,Ud,Uf,Uh,Uu,Uz,U2,U3,U4,UD,UE,Th,Ti,Tk,Tt,Tu,Tv,Tw,Tz,T6,T7,Sw,S2,SB,n0,u1,u2,u3,u4,u5];all_goals tactic=>exact rfl))
 ·have u2:bW .and .u64 (a:Int) (na:Int)=2048:=u2
  have u3:IntKind.u64.wrap 585462196329172715520=13613130044176615424:=by decide
  have u4:(13613130044176615424:Int).fdiv (2^min (Int.toNat 58) IntKind.u64.bits)=47:=by decide
  have u5:Int.toNat 47=47:=rfl
  (sym=>(simp[Za,Zb,Zf,Zh,Zl,Zm,Zv,Z3,Z6,Z7,Z9,ZG,ZY,ZZ,Yl,Ym,Yp,Yq,YP,YX,Xr,XJ,We,WB,WC,WK,WO,WP,WR,WS,Vv,V9,VA,VC,VD,VE,VF,VG,VJ,VK,VL,VM,VO,VT,VV,VY,Ua,Ud,Uf,Uh,Uu,Uz,U2,U3,U4,UD,UE,Th,Ti,Tk,Tt,Tu,Tv,Tw,Tz,T6,T7,Sw,S3,SB,n0,u1,u2,u3,u4,u5];all_goals tactic=>exact rfl))
 ·have u2:bW .and .u64 (a:Int) (na:Int)=4096:=u2
  have u3:IntKind.u64.wrap 1170924392658345431040=8779516014643679232:=by decide
  have u4:(8779516014643679232:Int).fdiv (2^min (Int.toNat 58) IntKind.u64.bits)=30:=by decide
  have u5:Int.toNat 30=30:=rfl
  (sym=>(simp[Za,Zb,Zf,Zh,Zl,Zm,Zv,Z3,Z6,Z7,Z9,ZG,ZY,ZZ,Yl,Ym,Yp,Yq,YP,YX,Xr,XJ,We,WB,WC,WK,WO,WP,WR,WS,Vv,V9,VA,VC,VD,VE,VF,VG,VJ,VK,VL,VM,VO,VT,VV,VY,Ua,Ud,Uf,Uh,Uu,Uz,U2,U3,U4,UD,UE,Th,Ti,Tk,Tt,Tu,Tv,Tw,Tz,T6,T7,Sw,S4,SB,n0,u1,u2,u3,u4,u5];all_goals tactic=>exact rfl))
 ·have u2:bW .and .u64 (a:Int) (na:Int)=8192:=u2
  have u3:IntKind.u64.wrap 2341848785316690862080=17559032029287358464:=by decide
  have u4:(17559032029287358464:Int).fdiv (2^min (Int.toNat 58) IntKind.u64.bits)=60:=by decide
  have u5:Int.toNat 60=60:=rfl
  (sym=>(simp[Za,Zb,Zf,Zh,Zl,Zm,Zv,Z3,Z6,Z7,Z9,ZG,ZY,ZZ,Yl,Ym,Yp,Yq,YP,YX,Xr,XJ,We,WB,WC,WK,WO,WP,WR,WS,Vv,V9,VA,VC,VD,VE,VF,VG,VJ,VK,VL,VM,VO,VT,VV,VY,Ua,Ud,Uf,Uh,Uu,Uz,U2,U3,U4,UD,UE,Th,Ti,Tk,Tt,Tu,Tv,Tw,Tz,T6,T7,Sw,S5,SB,n0,u1,u2,u3,u4,u5];all_goals tactic=>exact rfl))
 ·have u2:bW .and .u64 (a:Int) (na:Int)=16384:=u2
  have u3:IntKind.u64.wrap 4683697570633381724160=16671319984865165312:=by decide
  have u4:(16671319984865165312:Int).fdiv (2^min (Int.toNat 58) IntKind.u64.bits)=57:=by decide
  have u5:Int.toNat 57=57:=rfl
  (sym=>(simp[Za,Zb,Zf,Zh,Zl,Zm,Zv,Z3,Z6,Z7,Z9,ZG,ZY,ZZ,Yl,Ym,Yp,Yq,YP,YX,Xr,XJ,We,WB,WC,WK,WO,WP,WR,WS,Vv,V9,VA,VC,VD,VE,VF,VG,VJ,VK,VL,VM,VO,VT,VV,VY,Ua,Ud,Uf,Uh,Uu,Uz,U2,U3,U4,UD,UE,Th,Ti,Tk,Tt,Tu,Tv,Tw,Tz,T6,T7,Sw,S6,SB,n0,u1,u2,u3,u4,u5];all_goals tactic=>exact rfl))
 ·have u2:bW .and .u64 (a:Int) (na:Int)=32768:=u2
  have u3:IntKind.u64.wrap 9367395141266763448320=14895895896020779008:=by decide
  have u4:(14895895896020779008:Int).fdiv (2^min (Int.toNat 58) IntKind.u64.bits)=51:=by decide
  have u5:Int.toNat 51=51:=rfl
  (sym=>(simp[Za,Zb,Zf,Zh,Zl,Zm,Zv,Z3,Z6,Z7,Z9,ZG,ZY,ZZ,Yl,Ym,Yp,Yq,YP,YX,Xr,XJ,We,WB,WC,WK,WO,WP,WR,WS,Vv,V9,VA,VC,VD,VE,VF,VG,VJ,VK,VL,VM,VO,VT,VV,VY,Ua,Ud,Uf,Uh,Uu,Uz,U2,U3,U4,UD,UE,Th,Ti,Tk,Tt,Tu,Tv,Tw,Tz,T6,T7,Sw,S7,SB,n0,u1,u2,u3,u4,u5];all_goals tactic=>exact rfl))
theorem w87 {a:Nat} (ha:a<65536) (h0:a≠0):runW aA 87 [U a] []=some (I (qR a:Nat),[]):=by
 have e:=w91 ha h0
 rw[r87 (by simp)];unfold x87;dsimp only
 (sym=>(simp[Za,Zb,Zf,Zh,Zl,Zv,ZO,ZP,ZT,ZU,YX,Xr,XJ,We,WA,WB,WK,WN,WO,WP,WR,WS,WU,WV,Vi,Vj,Vk,Vv,V9,VA,VC,VD,VE,VF,VG,VJ,VK,VL,VM,VO,VT,VV,VY,VZ,Ua,Uc,Ud,Uf,Uh,U2,U3,U4,U5,U6,UD,UE,Tu,Tv,Tw,Tz,T6,T7,Sw,e];all_goals tactic=>exact rfl))
def sS (a:Nat):Nat→Nat
 | 0=>a
 | i+1=>sS a i&&&(sS a i-1)
theorem sR {a:Nat} (ha:a<65536):∀ i,sS a i<65536
 | 0=>ha
 | i+1=>by rw[sS];exact Nat.lt_of_le_of_lt Nat.and_le_left (sR ha i)
theorem aCr {a:Nat} (ha:a<65536):∀ i,el (sS a i)=(el a).drop i
 | 0=>rfl
 | i+1=>by
   have ih:=aCr ha i
   rw[sS]
   by_cases h0:sS a i=0
   ·rw[h0]at ih ⊢
    have e0:el 0=[]:=rfl
    rw[show (0&&&(0-1))=0 from rfl,e0]
    rw[e0]at ih
    have:=congrArg List.length ih
    rw[List.length_nil,List.length_drop]at this
    exact(List.drop_eq_nil_of_le (by omega)).symm
   ·rw[uL (sR ha i) h0]at ih
    rw[←List.drop_drop,←ih]
    rfl
theorem aGR {a:Nat} (ha:a<65536) {i:Nat} (hi:i<(el a).length):sS a i≠0∧(el a)[i]?=some (qR (sS a i)):=by
 have h:=aCr ha i
 have h0:sS a i≠0:=fun hc=>by
  rw[hc,show el 0=[] from rfl]at h
  have:=congrArg List.length h
  rw[List.length_nil,List.length_drop]at this
  omega
 refine⟨h0,?_⟩
 rw[uL (sR ha i) h0]at h
 have:=congrArg (fun l=>l[0]?) h
 simpa using this.symm
theorem aDA {a:Nat} (ha:a<65536):sS a (el a).length=0:=by
 have h:=aCr ha (el a).length
 rw[List.drop_length]at h
 exact(aPY (sR ha _)).1 h
abbrev cI (a:Nat):Option XB:=some (.blk true (.cells true [I a]))
structure aEC (n:Nat) (H:XH):Prop where
 hat:∀ a,hat (H++[cI a]) n=cI a
 set:∀ a b,(H++[cI a]).set n (cI b)=H++[cI b]
 len:∀ a,(H++[cI a]).length=n+1
 head:∀ (a:Nat) (e:aH),e 0 = .fn (.yield 0) [] []→e 1 = .pt n 0→aV (n+1) [0,1] (some (.normal,e,H++[cI a]))=some ([.fn (.yield 0) [] [],.pt n 0],H++[cI a])
 fin:∀ a,iA false (n+1) (.tup []) (H++[cI a])=(.tup [],H++[cI a])
def Yd (H H':XH) (v:Nat) (b:Bool):Prop:=∀ a:Nat,eA (runW aA) (runYW aA) (.fn (.yield 0) [] []) [I v] (H++[cI a])=some (.bool b,H'++[cI a])
theorem aHH {n:Nat} {H H':XH} (g:aEC n H) (g':aEC n H') {a:Nat} (ha:a<65536) (h0:a≠0) (hy:Yd H H' (qR a) true) :
 aV (n+1) [0,1] (execW aA 86 (n+1) none (match uT with | .loop _ a=>a|c=>c) (aR [0,1] [.fn (.yield 0) [] [],.pt n 0]) (H++[cI a]))=some ([.fn (.yield 0) [] [],.pt n 0],H'++[cI (a&&&(a-1))]):=by
 have h1:=g.hat a
 have h2:=g'.hat a
 have h3:=g'.set a
 have h4:=hy a
 have t:=w87 ha h0
 have n0:((a:Int)=0)=False:=eq_false (by omega)
 have u1:IntKind.i64.wrap ((a:Int)-1)=((a-1:Nat):Int):=by
  rw[show (a:Int)-1=((a-1:Nat):Int) by omega];exact gR bR (by omega)
 have u2:=nQ bR (a:=a) (b:=a-1) (by omega) (by omega)
 have u3:=gR aDE (a:=a) (by omega)
 have hd:=g'.head (a&&&(a-1))
 unfold uT
 dsimp only
 sym =>
  simp[Za,Zb,Zc,Zf,Zh,Zl,Zm,Zv,Z3,Z5,Z7,ZG,ZK,ZL,ZO,ZP,ZT,ZU,ZX,ZZ,Yk,Ym,Yr,YX,Xi,Xr,Wq,W4,W5,W7,W9,WA,WC,WK,WN,WP,WU,WV,Vi,Vj,Vk,VQ,VT,VU,VV,VZ,Ua,Uc,Ud,Ug,Uh,Um,Uq,Ur,Uu,Uz,U2,U3,U4,U5,U6,U7,U8,UF,Tf,Tg,Tk,Tl,Tm,Tt,Tu,Tw,Ty,Tz,T2,T6,T7,TH,h1,h2,t,h4,n0,u1,u2,u3,h3]
  tactic=>exact hd _ rfl rfl
theorem rC {n:Nat} {G:Nat→XH} {a:Nat} (ha:a<65536) (g:∀ i,i≤(el a).length→aEC n (G i)) (hy:∀ i v,(el a)[i]?=some v→Yd (G i) (G (i+1)) v true) :
 runW aA 86 [.fn (.yield 0) [] [],.pt n 0] (G 0++[cI a])=some (.tup [],G (el a).length++[cI 0]):=by
 have l0:=(g 0 (by omega)).len a
 have g1:=g (el a).length (by omega)
 have h1:hat (G (el a).length++[some (.blk true (.cells true [.int .i64 0]))]) n=some (.blk true (.cells true [.int .i64 0])):=g1.hat 0
 have hf:iA false (n+1) (.tup []) (G (el a).length++[some (.blk true (.cells true [.int .i64 0]))])=(.tup [],G (el a).length++[some (.blk true (.cells true [.int .i64 0]))]):=g1.fin 0
 have c0:=aDA ha
 rw[r86 (by simp)];unfold x86;dsimp only
 rw[l0]
 unfold uT
 sym =>
  simp[Y9,Wl,Wp,VY,UD,UE,Ty]
  tactic =>
   rw[aE (el a).length (fun _=>[.fn (.yield 0) [] [],.pt n 0]) (fun i=>G i++[cI (sS a i)])]
   ·rw[c0]
    (sym=>(simp[Za,Zb,Zf,Zh,Zl,Zm,Z3,ZG,Yr,Y9,W4,W5,WC,V8,VA,VF,VH,VJ,VQ,VT,VV,Uq,Uy,Tf,Tg,Tk,Tt,Tu,Tx,Tz,T0,T4,T6,T7,h1,hf];all_goals tactic=>exact rfl))
   ·exact(g 0 (by omega)).head a _ rfl rfl
   ·intro i hi
    obtain⟨p1,p2⟩:=aGR ha hi
    exact aHH (g i (by omega)) (g (i+1) (by omega)) (sR ha i) p1 (hy i _ p2)
   ·rw[c0]
    (sym=>(simp[Za,Zb,Zf,Zh,Zl,Zm,Z3,ZG,Yr,Y9,W4,W5,WC,VQ,VT,VV,VW,Uq,Uy,Tf,Tg,Tk,Tt,Tu,Tx,Tz,T0,T6,T7,h1];all_goals tactic=>exact rfl))
structure yZ (n:Nat) (M K:Nat→XH):Prop where
 hat:∀ a,hat (M a) n=cI a
 set:∀ a b,(M a).set n (cI b)=M b
 head:∀ (a:Nat) (e:aH),e 0 = .fn (.yield 0) [] []→e 1 = .pt n 0→aV (n+1) [0,1] (some (.normal,e,M a))=some ([.fn (.yield 0) [] [],.pt n 0],K a)
def YdF (K K':Nat→XH) (v:Nat) (b:Bool):Prop:=∀ a:Nat,eA (runW aA) (runYW aA) (.fn (.yield 0) [] []) [I v] (K a)=some (.bool b,K' a)
theorem aJD {n:Nat} {K M K':Nat→XH} {a:Nat} (h1:hat (K a) n=cI a) (g':yZ n M K') (ha:a<65536) (h0:a≠0) (hy:YdF K M (qR a) true) :
 aV (n+1) [0,1] (execW aA 86 (n+1) none (match uT with | .loop _ a=>a|c=>c) (aR [0,1] [.fn (.yield 0) [] [],.pt n 0]) (K a))=some ([.fn (.yield 0) [] [],.pt n 0],K' (a&&&(a-1))):=by
 have h2:=g'.hat a
 have h3:=g'.set a
 have h4:=hy a
 have t:=w87 ha h0
 have n0:((a:Int)=0)=False:=eq_false (by omega)
 have u1:IntKind.i64.wrap ((a:Int)-1)=((a-1:Nat):Int):=by
  rw[show (a:Int)-1=((a-1:Nat):Int) by omega];exact gR bR (by omega)
 have u2:=nQ bR (a:=a) (b:=a-1) (by omega) (by omega)
 have u3:=gR aDE (a:=a) (by omega)
 have hd:=g'.head (a&&&(a-1))
 unfold uT
 dsimp only
 sym =>
  simp[Za,Zb,Zc,Zf,Zh,Zl,Zm,Zv,Z3,Z5,Z7,ZG,ZK,ZL,ZO,ZP,ZT,ZU,ZX,ZZ,Yk,Ym,Yr,YX,Xi,Xr,Wq,W4,W5,W7,W9,WA,WC,WK,WN,WP,WU,WV,Vi,Vj,Vk,VQ,VT,VU,VV,VZ,Ua,Uc,Ud,Ug,Uh,Um,Uq,Ur,Uu,Uz,U2,U3,U4,U5,U6,U7,U8,UF,Tf,Tg,Tk,Tl,Tm,Tt,Tu,Tw,Ty,Tz,T2,T6,T7,h1,h2,t,h4,n0,u1,u2,u3,h3]
  tactic=>exact hd _ rfl rfl
theorem aLF {n:Nat} {G:Nat→Nat→XH} {a:Nat} {X:XH} (ha:a<65536) (l0:(G 0 a).length=n+1) (g0:yZ n (G 0) (G 0)) (gh:∀ i,i≤(el a).length→∀ a,hat (G i a) n=cI a) (hf:iA false (n+1) (.tup []) (G (el a).length 0)=(.tup [],X)) (hy:∀ i v,(el a)[i]?=some v→∃ M,YdF (G i) M v true∧yZ n M (G (i+1))) :
 runW aA 86 [.fn (.yield 0) [] [],.pt n 0] (G 0 a)=some (.tup [],X):=by
 have h1:=gh (el a).length (by omega) 0
 have h1:hat (G (el a).length 0) n=some (.blk true (.cells true [.int .i64 0])):=h1
 have c0:=aDA ha
 rw[r86 (by simp)];unfold x86;dsimp only
 rw[l0]
 unfold uT
 sym =>
  simp[Wl,Wp,VY,UD,UE,Ty]
  tactic =>
   rw[aE (el a).length (fun _=>[.fn (.yield 0) [] [],.pt n 0]) (fun i=>G i (sS a i))]
   ·rw[c0]
    (sym=>(simp[Za,Zb,Zf,Zh,Zl,Zm,Z3,ZG,Yr,W4,W5,WC,V8,VA,VF,VH,VJ,VQ,VT,VV,Uq,Uy,Tf,Tg,Tk,Tt,Tu,Tx,Tz,T0,T4,T6,T7,h1,hf];all_goals tactic=>exact rfl))
   ·exact g0.head a _ rfl rfl
   ·intro i hi
    obtain⟨p1,p2⟩:=aGR ha hi
    obtain⟨M,m1,m2⟩:=hy i _ p2
    exact aJD (gh i (by omega) _) m2 (sR ha i) p1 m1
   ·rw[c0]
    (sym=>(simp[Za,Zb,Zf,Zh,Zl,Zm,Z3,ZG,Yr,W4,W5,WC,VQ,VT,VV,VW,Uq,Uy,Tf,Tg,Tk,Tt,Tu,Tx,Tz,T0,T6,T7,h1];all_goals tactic=>exact rfl))
def dA (ks:List Nat):List Int:=ks.map fun k:Nat=>(k:Int)
theorem wK (a:Nat):(el a).length≤16:=by
 have:=List.length_filter_le (fun i=>a.testBit i) (List.range 16)
 simpa [el]using this
theorem jL {ks:List Nat} {i v:Nat} (h:ks[i]?=some v):(dA ks)[i]?=some (v:Int):=by
 unfold dA
 rw[List.getElem?_map,h];rfl
theorem bZ (ks:List Nat):(dA ks).length=ks.length:=by simp[dA]
abbrev gCn (a:Nat):XH:=[some (.loop 85 0 [.pt 1 0] .ready),some (.blk true (.cells true [.nilsl])),cI a]
abbrev gCc (x:Int) (r:List Int) (a:Nat):XH:=[some (.loop 85 0 [.pt 1 0] .ready),some (.blk false (.cells true [.sl 3 0 1 (r.length+1)])),cI a,some (.blk true (.cells true (I x::r.map I)))]
abbrev gCm (x:Int) (r:List Int) (a:Nat):XH:=[some (.loop 85 0 [.pt 1 0] .ready),some (.blk false (.cells true [.sl 4 0 1 (r.length+1)])),cI a,none,some (.blk true (.cells true (I x::r.map I)))]
def gC:List Int→Nat→XH
 | []=>gCn
 | x::r=>gCc x r
theorem aJZ:yZ 2 gCn gCn:=by
 refine⟨fun _=>rfl,fun _ _=>rfl,?_⟩
 intro a e h0 h1
 (sym=>(simp[Xd,Xh,Xx,XI,WE,WI,WK,WM,WO,WP,WQ,WR,WS,WY,WZ,Vc,Ve,Vf,Vh,VR,VS,VZ,Ua,Ub,Uc,Ud,Ue,Uf,Ux,U2,U3,U4,U5,U6,T5,h0,h1];all_goals tactic=>exact rfl))
theorem aKb (x:Int) (r:List Int):yZ 2 (gCc x r) (gCc x r):=by
 refine⟨fun _=>rfl,fun _ _=>rfl,?_⟩
 intro a e h0 h1
 (sym=>(simp[Xc,Xd,Xh,Xw,Xx,XI,W3,WE,WH,WI,WK,WL,WM,WO,WQ,WR,WS,WT,WY,WZ,Vb,Vc,Ve,Vf,Vg,Vh,VR,VS,VZ,Ua,Ub,Uc,Ud,Ue,Uf,Uk,Ux,U3,U4,U5,U6,T5,h0,h1];all_goals tactic=>exact rfl))
theorem aKa (x:Int) (r:List Int):yZ 2 (gCm x r) (gCc x r):=by
 refine⟨fun _=>rfl,fun _ _=>rfl,?_⟩
 intro a e h0 h1
 (sym=>(simp[Xc,Xd,Xh,Xw,Xx,XI,W3,WE,WH,WI,WK,WL,WM,WO,WQ,WR,WS,WT,WY,WZ,Vb,Vc,Ve,Vf,Vg,Vh,VR,VS,VZ,Ua,Ub,Uc,Ud,Ue,Uf,Uk,Ux,U3,U4,U5,U6,T5,h0,h1];all_goals tactic=>exact rfl))
theorem yCn (v:Nat):YdF gCn (gCc (v:Int) []) v true:=by
 have y:runYW aA (.fn (.yield 0) [] []) [I (v:Nat)] [some (.loop 85 0 [.pt 1 0] .ready),some (.blk true (.cells true [.nilsl]))]=some (.bool true,[some (.loop 85 0 [.pt 1 0] .ready),some (.blk false (.cells true [.sl 2 0 1 1])),some (.blk true (.cells true [I (v:Nat)]))]):=by
  rw[iK (K:=85) (d:=x85) (site:=0) (vs:=[.pt 1 0]) rfl rfl (by rfl) rfl]
  (sym=>(simp[Za,Zb,Zc,Zd,Ze,Zf,Zg,Zh,Zj,Zl,Zm,Zo,Zv,Z1,ZG,ZK,ZL,ZS,YY,Xc,Xd,Xi,Xm,Xs,Xw,Xx,XJ,We,Wq,Wu,W3,W4,W5,W6,W7,W8,W9,WA,WC,WE,WH,WI,WK,WL,WM,WO,WQ,WR,WS,WT,WY,WZ,Vb,Vc,Ve,Vf,Vg,Vh,Vv,Vx,Vy,Vz,VB,VE,VQ,VZ,Ua,Ub,Uc,Ud,Ue,Uf,Ug,Uh,Uk,Um,Uo,Uu,Ux,U0,U1,U3,U4,U5,U6,U7,U8,UF,UG,UH,UI,UQ,UR,UU,UV,UW,UX,UY,UZ,Ta,Tb,Tf,Tg,Tk,Tl,Tm,Tn,Tq,Tr,Ts,Ty,T2,T6,TP,Sa,Sb,Sc,Sd,Sm,Sn,Sp,Sq,Sw,SD,SE,SG,SI,SJ,SK];all_goals tactic=>exact rfl))
 intro a
 (sym=>(simp[YX,Xd,Xh,Xr,Xs,Xw,Xx,XI,W3,W6,W9,WC,WE,WF,WG,WH,WJ,WK,WL,WM,WN,WQ,WU,WV,WW,WY,WZ,Vb,Vc,Vf,Vh,Vi,Vj,Vk,Vl,VZ,Ua,Ub,Uc,Ud,Ug,Uh,Uk,Ux,U3,U4,U5,U6,Sl,y];all_goals tactic=>exact rfl))
theorem yCc (v:Nat) (x:Int) (r:List Int) (hr:r.length≤20):YdF (gCc x r) (gCm x (r++[(v:Int)])) v true:=by
 have b1:((r.length+1+1)*8≤1099511627776)=True:=eq_true (by omega)
 have b2:(r.length+1+1≤1099511627776)=True:=eq_true (by omega)
 have y:runYW aA (.fn (.yield 0) [] []) [I (v:Nat)] [some (.loop 85 0 [.pt 1 0] .ready),some (.blk false (.cells true [.sl 2 0 1 (r.length+1)])),some (.blk true (.cells true (I x::r.map I)))]=some (.bool true,[some (.loop 85 0 [.pt 1 0] .ready),some (.blk false (.cells true [.sl 3 0 1 (r.length+1+1)])),none,some (.blk true (.cells true (I x::(r.map I++[I (v:Nat)]))))]):=by
  rw[iK (K:=85) (d:=x85) (site:=0) (vs:=[.pt 1 0]) rfl rfl (by rfl) rfl]
  (sym=>(simp[Za,Zb,Zc,Zd,Ze,Zf,Zg,Zh,Zj,Zl,Zm,Zo,Zv,Z1,ZG,ZK,ZL,ZS,YY,Xc,Xd,Xi,Xm,Xs,Xw,Xx,XJ,We,Wq,Wu,W3,W4,W5,W6,W7,W8,W9,WA,WC,WE,WH,WI,WK,WL,WM,WO,WQ,WR,WS,WT,WX,WY,WZ,Vb,Vc,Vd,Ve,Vf,Vg,Vh,Vv,Vx,Vy,Vz,VB,VE,VQ,VZ,Ua,Ub,Uc,Ud,Ue,Uf,Ug,Uh,Ui,Uk,Um,Uo,Uu,Ux,U0,U1,U3,U4,U5,U6,U7,U8,UF,UG,UH,UI,UQ,UR,UU,UV,UW,UX,UY,UZ,Ta,Tc,Td,Tf,Tg,Tk,Tl,Tm,Tn,Tp,Tq,Tr,Ty,T2,T6,TI,TP,Sa,Sb,Sc,Sd,Sm,Sn,Sp,Sq,Sw,SD,SE,SG,SI,SJ,SK,b1,b2];all_goals tactic=>exact rfl))
 intro a
 (sym=>(simp[YX,Xc,Xd,Xh,Xr,Xs,Xw,Xx,XI,W3,W6,W9,WC,WE,WF,WG,WH,WJ,WK,WL,WM,WN,WQ,WU,WV,WW,WX,WY,WZ,Vb,Vc,Vf,Vg,Vh,Vi,Vj,Vk,Vl,VZ,Ua,Ub,Uc,Ud,Ug,Uh,Uk,Ux,U3,U4,U5,U6,TG,TH,Sl,y];all_goals tactic=>exact rfl))
theorem aKd (os:List Int):iA false 3 (.tup []) (gC os 0)=(.tup [],gC os 0):=by
 cases os with
 | nil=>unfold gC; (sym=>(simp[Za,Y9,Xa,Xd,Xu,Xx,XM,Wh,WE,WI,WK,WM,WO,WP,WQ,WR,WS,WY,WZ,Vc,Ve,Vf,Vh,Vv,VC,VD,VE,VZ,Ua,Uc,Ud,Ue,Uf,Ux,U2,U3,U4,U5,U6,U9,UD,Sw];all_goals tactic=>exact rfl))
 | cons x r=>unfold gC; (sym=>(simp[Za,Y9,Xa,Xc,Xd,Xu,Xw,Xx,XM,Wh,W3,WE,WH,WI,WK,WL,WM,WO,WQ,WR,WS,WT,WY,WZ,Vb,Vc,Ve,Vf,Vg,Vh,Vv,VC,VD,VE,VZ,Ua,Ub,Uc,Ud,Ue,Uf,Uk,Ux,U3,U4,U5,U6,U9,UD,Sw];all_goals tactic=>exact rfl))
theorem w85 {a:Nat} (ha:a<65536):runW aA 85 [.nilsl,.fn (.func 86) [] [.pt 0 0]] [cI a]=some (nL (dA (el a)),[some (.blk true (.cells true [.int .i64 0]))]):=by
 have e:=aLF (n:=2) (G:=fun i=>gC (dA ((el a).take i))) (X:=gC (dA (el a)) 0) ha rfl aJZ
  (by intro i _ c;cases dA ((el a).take i)<;>rfl)
  (by
   show iA false 3 (.tup []) (gC (dA ((el a).take (el a).length)) 0)=_
   rw[List.take_length]
   exact aKd _)
  (by
   intro i v hv
   have e1:dA ((el a).take (i+1))=dA ((el a).take i)++[(v:Int)]:=by
    rw[List.take_add_one,hv]
    simp[dA]
   have hl:=bZ ((el a).take i)
   have hl2:=wK a
   rw[List.length_take]at hl
   rw[e1]
   generalize dA ((el a).take i)=os at *
   rcases os with _|⟨x,r⟩
   ·exact⟨_,yCn v,aKb _ _⟩
   ·exact⟨_,yCc v x r (by simp at hl;omega),aKa _ _⟩)
 have e:runW aA 86 [.fn (.yield 0) [] [],.pt 2 0] [some (.loop 85 0 [.pt 1 0] .ready),some (.blk true (.cells true [.nilsl])),cI a]=some (.tup [],gC (dA (el a)) 0):=e
 generalize dA (el a)=os at *
 rw[r85 (by simp)];unfold x85;dsimp only
 rcases os with _|⟨x,r⟩
 ·have e:runW aA 86 [.fn (.yield 0) [] [],.pt 2 0] [some (.loop 85 0 [.pt 1 0] .ready),some (.blk true (.cells true [.nilsl])),cI a]=some (.tup [],[some (.loop 85 0 [.pt 1 0] .ready),some (.blk true (.cells true [.nilsl])),some (.blk true (.cells true [.int .i64 0]))]):=e
  (sym=>(simp[Za,Zb,Zf,Zh,Zl,Zm,Zo,Zv,Zz,ZG,ZT,ZU,Xb,Xd,Xh,Xo,Xu,Xv,Xx,XI,XQ,Wm,Ww,W3,W4,W5,W6,W9,WA,WB,WC,WE,WF,WG,WH,WJ,WK,WL,WM,WN,WO,WP,WQ,WR,WS,WU,WV,WW,WY,WZ,Vc,Ve,Vf,Vh,Vi,Vj,Vk,Vl,Vv,V9,VA,VC,VD,VE,VF,VG,VJ,VK,VL,VM,VO,VZ,Ua,Ub,Uc,Ud,Ue,Uf,Ug,Uh,Uk,Um,Ux,U2,U3,U4,U5,U6,US,UT,Tf,Tg,Tk,Tn,Tu,Tv,Ty,Tz,T2,T6,T7,Sa,Sb,Se,Sf,Sg,Si,Sj,Sk,Sw,e];all_goals tactic=>exact rfl))
 ·have e:runW aA 86 [.fn (.yield 0) [] [],.pt 2 0] [some (.loop 85 0 [.pt 1 0] .ready),some (.blk true (.cells true [.nilsl])),cI a]=some (.tup [],[some (.loop 85 0 [.pt 1 0] .ready),some (.blk false (.cells true [.sl 3 0 1 (r.length+1)])),some (.blk true (.cells true [.int .i64 0])),some (.blk true (.cells true (I x::r.map I)))]):=e
  (sym=>(simp[Za,Zb,Zf,Zh,Zl,Zm,Zo,Zv,Zz,ZG,ZT,ZU,Xb,Xd,Xh,Xl,Xo,Xu,Xv,Xw,Xx,XI,XO,Wb,Wi,Ww,W3,W4,W5,W6,W9,WB,WC,WE,WF,WG,WH,WJ,WK,WL,WM,WN,WO,WQ,WR,WS,WU,WV,WW,WY,WZ,Vb,Vc,Ve,Vf,Vh,Vi,Vj,Vk,Vl,Vs,Vt,Vu,Vv,Vw,V4,V5,V6,V7,V9,VA,VC,VD,VE,VF,VG,VJ,VK,VL,VM,VO,VZ,Ua,Ub,Uc,Ud,Ue,Uf,Ug,Uh,Ui,Uk,Um,Uu,Ux,U3,U4,U5,U6,U7,U8,UB,UC,US,UT,Tf,Tg,Tk,Tn,Tu,Tv,Ty,Tz,T2,T6,T7,TI,TJ,TL,TY,Sa,Sb,Se,Sf,Sg,Si,Sj,Sk,Sw,Sx,Sy,e];all_goals tactic=>exact rfl))
theorem w79 {a:Nat} (ha:a<65536):runW aA 79 [.fn (.func 86) [] [.pt 0 0]] [cI a]=some (nL (dA (el a)),[some (.blk true (.cells true [.int .i64 0]))]):=by
 have e:=w85 ha
 generalize dA (el a)=os at *
 rw[r79 (by simp)];unfold x79;dsimp only
 (sym=>(simp[Za,Zb,Zf,Zh,Zl,Zv,ZO,ZP,ZT,ZU,Xb,Xd,Xe,Xg,Xv,Xx,Xy,X0,XN,Wi,Wo,W3,W6,W9,WA,WB,WE,WG,WH,WK,WL,WM,WN,WO,WP,WQ,WR,WS,WU,WV,WW,WY,WZ,Ve,Vf,Vi,Vj,Vk,Vl,Vv,V9,VA,VC,VD,VE,VF,VG,VJ,VK,VL,VM,VO,VY,VZ,Ua,Uc,Ud,Ue,Uf,Ug,Uh,Ux,U2,U3,U4,U5,U6,UD,UE,Tu,Tv,Tz,T6,T7,Sw,e];all_goals tactic=>exact rfl))
theorem w80 {a:Nat}:runW aA 80 [I a] []=some (.fn (.func 86) [] [.pt 0 0],[cI a]):=by
 rw[r80 (by simp)];unfold x80;dsimp only
 (sym=>(simp[Za,Zb,Zf,Zh,Zl,Zo,Zv,Zx,Zz,Xd,Xg,Xi,Xx,X0,XV,We,Wo,Wq,W3,WB,WE,WH,WI,WK,WL,WM,WO,WQ,WR,WS,WT,WY,WZ,Vf,Vv,V9,VA,VC,VD,VE,VF,VG,VJ,VK,VL,VM,VO,VY,VZ,Ua,Uc,Ud,Uf,Uh,Uk,Ux,U3,U4,U5,U6,UD,UE,US,UT,Tn,Tu,Tv,Tz,T6,T7,TK,Sw];all_goals tactic=>exact rfl))
theorem w63 {a:Nat} (ha:a<65536):runW aA 63 [I a] []=some (nL (dA (el a)),[]):=by
 have e:=w79 ha
 have e2:=w80 (a:=a)
 generalize dA (el a)=os at *
 rw[r63 (by simp)];unfold x63;dsimp only
 (sym=>(simp[Za,Zb,Zf,Zg,Zh,Zj,Zl,Zv,ZO,ZP,ZT,ZU,YX,Xb,Xd,Xg,Xr,Xv,Xx,X0,XJ,XN,We,Wi,W3,W6,W9,WA,WB,WE,WG,WH,WJ,WK,WL,WM,WN,WO,WP,WQ,WR,WS,WU,WV,WW,WY,WZ,Vf,Vi,Vj,Vk,Vl,Vv,Vx,Vy,Vz,V9,VA,VC,VD,VE,VF,VG,VJ,VK,VL,VM,VO,VY,VZ,Ua,Uc,Ud,Uf,Ug,Uh,Ux,U2,U3,U4,U5,U6,UD,UE,Tu,Tv,Tz,T6,T7,Sw,SD,SE,SG,SI,SJ,SK,e,e2];all_goals tactic=>exact rfl))
structure Va where
 F:Int
 bs:List (Int×Int)
 ps:List (Int×Int×Int)
 sick:Int
 nur:Int
 fix:Int
abbrev rB (l:List (Int×Int)):AV:=.fs (l.map fun b=>[I b.1,I b.2])
abbrev rP (l:List (Int×Int×Int)):AV:=.fs (l.map fun p=>[I p.1,I p.2.1,I p.2.2])
abbrev Va.c (v:Va):List AV:=[I v.F,rB v.bs,rP v.ps,I v.sick,I v.nur,I v.fix]
def fY (F a b:Int):Int:=if btw 0 a (F-1)&&btw 0 b (F-1) then (if a=b then 22 else 0) else 5
theorem eN (F a b:Int):(btw 0 a (F-1)=false∧fY F a b=5)∨(btw 0 a (F-1)=true∧btw 0 b (F-1)=false∧fY F a b=5) ∨
 (btw 0 a (F-1)=true∧btw 0 b (F-1)=true∧(a=b)=True∧fY F a b=22)∨(btw 0 a (F-1)=true∧btw 0 b (F-1)=true∧(a=b)=False∧fY F a b=0):=by
 unfold fY
 cases btw 0 a (F-1)
 ·simp
 cases btw 0 b (F-1)
 ·simp
 by_cases h:a=b
 ·simp[h]
 ·simp[h]
theorem w53 (v:Va) (hF:1≤v.F∧v.F≤16) (a b:Int):runW aA 53 [.agg v.c,I a,I b] []=some (I (fY v.F a b),[]):=by
 have u:IntKind.i64.wrap (v.F-1)=v.F-1:=aD (by omega) (by omega)
 have e1:=w45 0 a (v.F-1)
 have e2:=w45 0 b (v.F-1)
 rw[r53 (by simp)];unfold x53;dsimp only
 rcases eN v.F a b with ⟨h1,h⟩|⟨h1,h2,h⟩|⟨h1,h2,h3,h⟩|⟨h1,h2,h3,h⟩
 ·rw[h];rw[h1]at e1; (sym=>(simp[Za,Zb,Zf,Zh,Zl,Zm,Zo,Zp,Zt,Zv,Zy,Zz,Z3,Z5,Z8,ZG,ZO,ZP,ZT,ZU,ZV,ZX,Ya,Yk,YX,Xi,Xk,Xl,Xr,Xs,XJ,We,Wg,Wi,Ws,W3,W4,W5,WA,WB,WC,WK,WN,WO,WP,WQ,WR,WS,WU,WV,Vi,Vj,Vk,Vv,V9,VA,VC,VD,VE,VF,VG,VJ,VK,VL,VM,VO,VT,VU,VY,VZ,Ua,Uc,Ud,Uf,Ug,Uh,Um,Ur,U2,U3,U4,U5,U6,U7,U8,UD,UE,US,UT,Tf,Tg,Tk,Tn,Tt,Tu,Tv,Ty,Tz,T1,T3,T6,T7,Sw,u,e1];all_goals tactic=>exact rfl))
 ·rw[h];rw[h1]at e1;rw[h2]at e2; (sym=>(simp[Za,Zb,Zf,Zh,Zl,Zm,Zo,Zp,Zr,Zv,Zy,Zz,Z3,Z5,Z8,ZG,ZO,ZP,ZT,ZU,ZW,ZX,Ya,Yk,YX,Xi,Xk,Xl,Xr,Xs,XJ,We,Wg,Wi,Ws,W3,W4,W5,WA,WB,WC,WK,WN,WO,WP,WQ,WR,WS,WU,WV,Vi,Vj,Vk,Vv,V9,VA,VC,VD,VE,VF,VG,VJ,VK,VL,VM,VO,VT,VU,VY,VZ,Ua,Uc,Ud,Uf,Ug,Uh,Um,Uq,Ur,U2,U3,U4,U5,U6,U7,U8,UD,UE,US,UT,Tf,Tg,Tk,Tn,Tt,Tu,Tv,Ty,Tz,T1,T3,T6,T7,Sw,u,e1,e2];all_goals tactic=>exact rfl))
 ·rw[h];rw[h1]at e1;rw[h2]at e2; (sym=>(simp[Za,Zb,Zf,Zh,Zl,Zm,Zo,Zp,Zr,Zv,Zy,Zz,Z3,Z5,Z8,ZG,ZO,ZP,ZT,ZU,ZW,ZX,Ya,Yk,Yq,YX,Xi,Xk,Xl,Xr,Xs,XJ,We,Wg,Wi,Ws,W3,W4,W5,WA,WB,WC,WK,WN,WO,WP,WQ,WR,WS,WU,WV,Vi,Vj,Vk,Vv,V9,VA,VC,VD,VE,VF,VG,VJ,VK,VL,VM,VO,VT,VU,VV,VY,VZ,Ua,Uc,Ud,Uf,Ug,Uh,Um,Uq,Uy,U2,U3,U4,U5,U6,U7,U8,UD,UE,US,UT,Tf,Tg,Tk,Tn,Tt,Tu,Tv,Ty,Tz,T1,T3,T6,T7,Sw,u,e1,e2,h3];all_goals tactic=>exact rfl))
 ·rw[h];rw[h1]at e1;rw[h2]at e2; (sym=>(simp[Za,Zb,Zf,Zh,Zl,Zm,Zo,Zp,Zr,Zv,Zy,Zz,Z3,Z5,Z8,ZG,ZO,ZP,ZT,ZU,ZW,ZX,Ya,Yk,Yq,YX,Xi,Xk,Xl,Xr,Xs,XJ,We,Wg,Wi,Ws,W3,W4,W5,WA,WB,WC,WK,WN,WO,WP,WQ,WR,WS,WU,WV,Vi,Vj,Vk,Vv,V9,VA,VC,VD,VE,VF,VG,VJ,VK,VL,VM,VO,VT,VV,VY,VZ,Ua,Uc,Ud,Uf,Ug,Uh,Um,Uq,Uz,U2,U3,U4,U5,U6,U7,U8,UD,UE,US,UT,Tf,Tg,Tk,Tn,Tt,Tu,Tv,Tw,Ty,Tz,T2,T6,T7,Sw,u,e1,e2,h3];all_goals tactic=>exact rfl))
def bE (v:Va) (i:Nat):Int:=fY v.F (v.bs.getD i (0,0)).1 (v.bs.getD i (0,0)).2
def pE (v:Va) (i:Nat):Int:=if fY v.F (v.ps.getD i (0,0,0)).2.1 (v.ps.getD i (0,0,0)).2.2=0 then (if btw 0 (v.ps.getD i (0,0,0)).1 100 then 0 else 2) else fY v.F (v.ps.getD i (0,0,0)).2.1 (v.ps.getD i (0,0,0)).2.2
def Va.A (v:Va):Int:=2^v.F.toNat-1
def sE (v:Va):Int:=if btw 0 v.sick v.A&&(btw 0 v.nur v.A&&btw 0 v.fix v.A) then 0 else 2
def bsE (v:Va):Int:=if 60<v.bs.length then 1 else cB (bE v) v.bs.length
def psE (v:Va):Int:=if 20<v.ps.length then 1 else cB (pE v) v.ps.length
def vE (v:Va):Int:=if btw 1 v.F 16 then (if bsE v=0 then (if psE v=0 then sE v else psE v) else bsE v) else 2
theorem vW {n:Int} (h:n≠0):(n=0)=False:=eq_false h
theorem aW {α:Type} {l:List α} {i:Nat} {x d:α} (h:l[i]?=some x):l.getD i d=x:=by rw[List.getD_eq_getElem?_getD,h];rfl
abbrev bx (v:Va):XH:=[some (.blk true (.cells true v.c))]
theorem vI (v:Va) (hF:1≤v.F∧v.F≤16) (hb:v.bs.length<1000000000) {i:Nat} (hi:i<v.bs.length) (h0:bE v i=0) :
 aV 0 [1,22,23,24] (execW aA 23 0 none (match qB with | .loop _ a=>a|c=>c) (aR [1,22,23,24] [.pt 0 0,rB v.bs,I v.bs.length,I (i:Nat)]) (bx v))=some ([.pt 0 0,rB v.bs,I v.bs.length,I (i+1:Nat)],bx v):=by
 obtain⟨x,hx⟩:=bG hi
 have a1:=cU hi
 have a2:=eK hi (by omega)
 have e:=w53 v hF x.1 x.2
 have e0:fY v.F x.1 x.2=0:=by unfold bE at h0;rw[aW hx]at h0;exact h0
 rw[e0]at e
 unfold qB
 dsimp only
 (sym=>(simp[Za,Zb,Zc,Zf,Zg,Zh,Zj,Zl,Zm,Zv,Zw,Z3,Z9,ZA,ZG,ZK,ZL,ZO,ZP,ZT,ZU,Yg,Yh,Yj,Yr,Ys,Yw,Yx,Y8,YA,YD,YO,YX,YZ,Xb,Xd,Xi,Xr,Xt,Xv,Xx,Ws,W3,W4,W5,W6,W7,W8,W9,WA,WC,WE,WH,WI,WK,WL,WM,WN,WO,WP,WQ,WR,WS,WT,WU,WV,WY,WZ,Vf,Vi,Vj,Vk,Vv,Vx,Vy,V0,V1,V3,VQ,VR,VS,VT,VU,VV,VZ,Ua,Ub,Uc,Ud,Uf,Ug,Uh,Ui,Uj,Uk,Um,Uq,Uu,Ux,Uy,U2,U3,U4,U5,U6,U7,U8,UF,Tf,Tg,Th,Ti,Tj,Tk,Tl,Tm,Tt,Tu,Tw,Ty,Tz,T2,T5,T6,T7,TK,SD,SE,SF,SI,SJ,SK,a1,a2,hx,e];all_goals tactic=>exact rfl))
theorem aID (v:Va) (hF:1≤v.F∧v.F≤16) {i:Nat} (hi:i<v.bs.length) (h0:bE v i≠0):∃ e h,
 execW aA 23 0 none (match qB with | .loop _ a=>a|c=>c) (aR [1,22,23,24] [.pt 0 0,rB v.bs,I v.bs.length,I (i:Nat)]) (bx v)=some (.ret,e,h)∧bA none x23.res x23.ownR 0 (some (.ret,e,h))=some (I (bE v i),[]):=by
 obtain⟨x,hx⟩:=bG hi
 have a1:=cU hi
 have e:=w53 v hF x.1 x.2
 have e0:fY v.F x.1 x.2=bE v i:=by unfold bE;rw[aW hx]
 have n0:=vW h0
 rw[e0]at e
 refine bY ?_ ?_
 ·unfold qB
  dsimp only
  (sym=>(simp[Za,Zb,Zc,Zf,Zg,Zh,Zj,Zl,Zm,Zv,Zw,Z3,Z9,ZA,ZG,ZK,ZL,ZO,ZP,ZT,ZU,Yg,Yh,Yr,Ys,Yw,Yx,Y8,YA,YD,YO,YX,YZ,Xb,Xi,Xr,Xt,Xv,Ws,W3,W4,W5,W6,W7,W8,W9,WA,WC,WK,WN,WP,WU,WV,Vi,Vj,Vk,Vv,Vx,Vy,V0,V1,V3,VQ,VT,VU,VX,VZ,Ua,Ub,Uc,Ud,Ug,Uh,Ui,Uj,Uk,Um,Ur,Uu,Uy,Uz,U2,U3,U4,U5,U6,U7,U8,UF,Tf,Tg,Th,Ti,Tj,Tk,Tl,Tm,Tt,Tu,Tv,Tw,Ty,Tz,T1,T3,T6,T7,SD,SE,SF,SI,SJ,SK,a1,hx,e,n0];all_goals tactic=>exact rfl))
 ·unfold qB
  dsimp only
  (sym=>(simp[Za,Zb,Zc,Zf,Zg,Zh,Zj,Zl,Zm,Zv,Zw,Z3,Z9,ZA,ZG,ZK,ZL,ZO,ZP,ZT,ZU,Yg,Yh,Yr,Ys,Yw,Yx,Y8,YA,YD,YO,YX,YZ,Xb,Xi,Xr,Xt,Xv,Ws,W3,W4,W5,W6,W7,W8,W9,WA,WC,WK,WN,WP,WU,WV,Vi,Vj,Vk,Vv,Vx,Vy,V0,V1,V3,V9,VF,VQ,VT,VU,VZ,Ua,Ub,Uc,Ud,Ug,Uh,Ui,Uj,Uk,Um,Ur,Uu,Uy,Uz,U2,U3,U4,U5,U6,U7,U8,UF,Tf,Tg,Th,Ti,Tj,Tk,Tl,Tm,Tt,Tu,Tv,Tw,Ty,Tz,T1,T3,T6,T7,SD,SE,SF,SI,SJ,SK,a1,hx,e,n0];all_goals tactic=>exact rfl))
theorem kY (v:Va) {i:Nat} {p:Int×Int×Int} (hp:v.ps[i]?=some p):(fY v.F p.2.1 p.2.2≠0∧pE v i=fY v.F p.2.1 p.2.2)∨(fY v.F p.2.1 p.2.2=0∧btw 0 p.1 100=true∧pE v i=0)∨(fY v.F p.2.1 p.2.2=0∧btw 0 p.1 100=false∧pE v i=2):=by
 unfold pE
 rw[aW hp]
 by_cases h:fY v.F p.2.1 p.2.2=0
 ·cases h2:btw 0 p.1 100<;>simp[h]
 ·simp[h]
theorem aAI (v:Va) (hF:1≤v.F∧v.F≤16) (hb:v.ps.length<1000000000) {i:Nat} (hi:i<v.ps.length) (h0:pE v i=0) :
 aV 0 [1,43,44,45] (execW aA 23 0 none (match oM with | .loop _ a=>a|c=>c) (aR [1,43,44,45] [.pt 0 0,rP v.ps,I v.ps.length,I (i:Nat)]) (bx v))=some ([.pt 0 0,rP v.ps,I v.ps.length,I (i+1:Nat)],bx v):=by
 obtain⟨x,hx⟩:=bG hi
 have a1:=cU hi
 have a2:=eK hi (by omega)
 have e:=w53 v hF x.2.1 x.2.2
 have e2:=w45 0 x.1 100
 rcases kY v hx with ⟨h1,h2⟩|⟨h1,h2,_⟩|⟨h1,h2,h3⟩
 ·exact absurd (h2.symm.trans h0) h1
 ·rw[h1]at e
  rw[h2]at e2
  unfold oM
  dsimp only
  (sym=>(simp[Za,Zb,Zc,Zf,Zg,Zh,Zj,Zl,Zm,Zv,Zw,Z3,Z5,Z8,ZA,ZG,ZK,ZL,ZO,ZP,ZT,ZU,ZX,Ya,Yg,Yh,Yj,Yr,Ys,Yw,Yx,YX,YZ,Xb,Xd,Xi,Xr,Xs,Xt,Xv,Xx,Ws,W3,W4,W5,W6,W7,W8,W9,WA,WC,WE,WH,WI,WK,WL,WM,WN,WO,WP,WQ,WR,WS,WT,WU,WV,WY,WZ,Vf,Vi,Vj,Vk,Vv,Vx,Vy,V0,V1,V3,VQ,VR,VS,VT,VU,VV,VZ,Ua,Ub,Uc,Ud,Uf,Ug,Uh,Ui,Uj,Uk,Um,Uq,Uu,Ux,Uy,U2,U3,U4,U5,U6,U7,U8,UF,Tf,Tg,Th,Ti,Tj,Tk,Tl,Tm,Tt,Tu,Tw,Ty,Tz,T2,T5,T6,T7,TK,SD,SE,SF,SI,SJ,SK,a1,a2,hx,e,e2];all_goals tactic=>exact rfl))
 ·rw[h0]at h3;simp at h3
theorem aIC (v:Va) (hF:1≤v.F∧v.F≤16) {i:Nat} (hi:i<v.ps.length) (h0:pE v i≠0):∃ e h,
 execW aA 23 0 none (match oM with | .loop _ a=>a|c=>c) (aR [1,43,44,45] [.pt 0 0,rP v.ps,I v.ps.length,I (i:Nat)]) (bx v)=some (.ret,e,h)∧bA none x23.res x23.ownR 0 (some (.ret,e,h))=some (I (pE v i),[]):=by
 obtain⟨x,hx⟩:=bG hi
 have a1:=cU hi
 have e:=w53 v hF x.2.1 x.2.2
 have e2:=w45 0 x.1 100
 rcases kY v hx with ⟨h1,h2⟩|⟨h1,h2,h3⟩|⟨h1,h2,h3⟩
 ·have n0:=vW h1
  rw[h2]
  generalize fY v.F x.2.1 x.2.2=er at *
  refine bY ?_ ?_
  ·unfold oM
   dsimp only
   (sym=>(simp[Za,Zb,Zc,Zf,Zg,Zh,Zj,Zl,Zm,Zv,Zw,Z3,Z8,ZA,ZG,ZK,ZL,ZO,ZP,ZT,ZU,Ya,Yg,Yh,Yr,Ys,Yw,Yx,YX,YZ,Xb,Xi,Xr,Xt,Xv,Ws,W3,W4,W5,W6,W7,W8,W9,WA,WC,WK,WN,WP,WU,WV,Vi,Vj,Vk,Vv,Vx,Vy,V0,V1,V3,VQ,VT,VU,VX,VZ,Ua,Ub,Uc,Ud,Ug,Uh,Ui,Uj,Uk,Um,Ur,Uu,Uy,Uz,U2,U3,U4,U5,U6,U7,U8,UF,Tf,Tg,Th,Ti,Tj,Tk,Tl,Tm,Tt,Tu,Tv,Tw,Ty,Tz,T1,T3,T6,T7,SD,SE,SF,SI,SJ,SK,a1,hx,e,n0];all_goals tactic=>exact rfl))
  ·unfold oM
   dsimp only
   (sym=>(simp[Za,Zb,Zc,Zf,Zg,Zh,Zj,Zl,Zm,Zv,Zw,Z3,Z8,ZA,ZG,ZK,ZL,ZO,ZP,ZT,ZU,Ya,Yg,Yh,Yr,Ys,Yw,Yx,YX,YZ,Xb,Xi,Xr,Xt,Xv,Ws,W3,W4,W5,W6,W7,W8,W9,WA,WC,WK,WN,WP,WU,WV,Vi,Vj,Vk,Vv,Vx,Vy,V0,V1,V3,V9,VF,VQ,VT,VU,VZ,Ua,Ub,Uc,Ud,Ug,Uh,Ui,Uj,Uk,Um,Ur,Uu,Uy,Uz,U2,U3,U4,U5,U6,U7,U8,UF,Tf,Tg,Th,Ti,Tj,Tk,Tl,Tm,Tt,Tu,Tv,Tw,Ty,Tz,T1,T3,T6,T7,SD,SE,SF,SI,SJ,SK,a1,hx,e,n0];all_goals tactic=>exact rfl))
 ·exact absurd h3 h0
 ·rw[h1]at e
  rw[h2]at e2
  rw[h3]
  refine bY ?_ ?_
  ·unfold oM
   dsimp only
   (sym=>(simp[Za,Zb,Zc,Zf,Zg,Zh,Zj,Zl,Zm,Zv,Zw,Z3,Z5,Z8,ZA,ZG,ZK,ZL,ZO,ZP,ZT,ZU,ZX,Ya,Yg,Yh,Yr,Ys,Yw,Yx,YX,YZ,Xb,Xi,Xr,Xs,Xt,Xv,Ws,W3,W4,W5,W6,W7,W8,W9,WA,WC,WK,WN,WP,WU,WV,Vi,Vj,Vk,Vv,Vx,Vy,V0,V1,V3,VQ,VT,VU,VV,VX,VZ,Ua,Ub,Uc,Ud,Ug,Uh,Ui,Uj,Uk,Um,Uq,Ur,Uu,Uy,U2,U3,U4,U5,U6,U7,U8,UF,Tf,Tg,Th,Ti,Tj,Tk,Tl,Tm,Tt,Tu,Tv,Tw,Ty,Tz,T1,T3,T6,T7,SD,SE,SF,SI,SJ,SK,a1,hx,e,e2];all_goals tactic=>exact rfl))
  ·unfold oM
   dsimp only
   (sym=>(simp[Za,Zb,Zc,Zf,Zg,Zh,Zj,Zl,Zm,Zv,Zw,Z3,Z5,Z8,ZA,ZG,ZK,ZL,ZO,ZP,ZT,ZU,ZX,Ya,Yg,Yh,Yr,Ys,Yw,Yx,YX,YZ,Xb,Xi,Xr,Xs,Xt,Xv,Ws,W3,W4,W5,W6,W7,W8,W9,WA,WC,WK,WN,WP,WU,WV,Vi,Vj,Vk,Vv,Vx,Vy,V0,V1,V3,V9,VF,VQ,VT,VU,VV,VZ,Ua,Ub,Uc,Ud,Ug,Uh,Ui,Uj,Uk,Um,Uq,Ur,Uu,Uy,U2,U3,U4,U5,U6,U7,U8,UF,Tf,Tg,Th,Ti,Tj,Tk,Tl,Tm,Tt,Tu,Tv,Tw,Ty,Tz,T1,T3,T6,T7,SD,SE,SF,SI,SJ,SK,a1,hx,e,e2];all_goals tactic=>exact rfl))
theorem aKH (v:Va) (hF:1≤v.F∧v.F≤16):IntKind.i64.wrap (1*2^min v.F.toNat IntKind.i64.bits)=2^v.F.toNat∧IntKind.i64.wrap (2^v.F.toNat-1)=v.A∧0<v.A∧v.A<65536:=by
 obtain⟨f,hf⟩:∃ f:Nat,v.F=f:=⟨v.F.toNat,by omega⟩
 unfold Va.A
 rw[hf]at hF ⊢
 simp only[Int.toNat_natCast]
 have h1:=jW bR (i:=f) (by omega)
 have h2:(2:Nat)^f≤2^16:=Nat.pow_le_pow_right (by omega) (by omega)
 have h3:(2:Nat)^1≤2^f:=Nat.pow_le_pow_right (by omega) (by omega)
 have e:(2:Int)^f=((2^f:Nat):Int):=by norm_cast
 rw[h1,e]
 exact⟨rfl,aD (by omega) (by omega),by omega,by omega⟩
theorem vF (v:Va):(btw 0 v.sick v.A=false∧sE v=2)∨(btw 0 v.sick v.A=true∧btw 0 v.nur v.A=false∧sE v=2)∨(btw 0 v.sick v.A=true∧btw 0 v.nur v.A=true∧btw 0 v.fix v.A=false∧sE v=2) ∨
 (btw 0 v.sick v.A=true∧btw 0 v.nur v.A=true∧btw 0 v.fix v.A=true∧sE v=0):=by
 unfold sE
 cases btw 0 v.sick v.A<;>cases btw 0 v.nur v.A<;>cases btw 0 v.fix v.A<;>simp
abbrev bx3 (v:Va):XH:=[some (.blk true (.cells true v.c)),some (.blk true (.cells true [I v.sick,I v.nur,I v.fix]))]
theorem aFG (v:Va) (hF:1≤v.F∧v.F≤16) {i:Nat} {s:Int} (hs:(i=0∧s=v.sick)∨(i=1∧s=v.nur)∨(i=2∧s=v.fix)) (h0:btw 0 s v.A=true) :
 aV 0 [1,69,70,71] (execW aA 23 0 none (match uV with | .loop _ a=>a|c=>c) (aR [1,69,70,71] [.pt 0 0,.sl 1 0 1 3,I 3,I (i:Nat)]) (bx3 v))=some ([.pt 0 0,.sl 1 0 1 3,I 3,I (i+1:Nat)],bx3 v):=by
 obtain⟨u1,u2,_,_⟩:=aKH v hF
 have e:=w45 0 s v.A
 have n0:(v.F<0)=False:=eq_false (by omega)
 rw[h0]at e
 rcases hs with ⟨rfl,rfl⟩|⟨rfl,rfl⟩|⟨rfl,rfl⟩
 all_goals
  unfold uV
  dsimp only
  (sym=>(simp[Za,Zb,Zf,Zg,Zh,Zj,Zl,Zm,Zv,Z3,Z5,Z8,ZA,ZG,ZO,ZP,ZT,ZU,ZX,Ya,Yf,Yj,Yk,Yo,Ys,Yz,Y0,Y1,Y8,Y9,YA,YB,YC,YD,YF,YX,Xc,Xd,Xr,Xs,Xw,Xx,XJ,We,W3,W4,W5,WA,WC,WE,WF,WH,WI,WK,WL,WM,WN,WO,WP,WQ,WR,WS,WT,WU,WV,WY,WZ,Vf,Vi,Vj,Vk,Vv,Vx,Vy,Vz,VQ,VR,VS,VT,VU,VV,VZ,Ua,Ub,Uc,Ud,Uf,Ug,Uh,Uk,Uq,Uu,Ux,Uy,U2,U3,U4,U5,U6,Tf,Tg,Tk,Tt,Tu,Tw,Ty,Tz,T2,T5,T6,T7,TK,Sw,SD,SE,SG,SI,SJ,SK,u1,u2,e,n0];all_goals tactic=>exact rfl))
theorem aIB (v:Va) (hF:1≤v.F∧v.F≤16) {i:Nat} {s:Int} (hs:(i=0∧s=v.sick)∨(i=1∧s=v.nur)∨(i=2∧s=v.fix)) (h0:btw 0 s v.A=false):∃ e h,
 execW aA 23 0 none (match uV with | .loop _ a=>a|c=>c) (aR [1,69,70,71] [.pt 0 0,.sl 1 0 1 3,I 3,I (i:Nat)]) (bx3 v)=some (.ret,e,h)∧bA none x23.res x23.ownR 0 (some (.ret,e,h))=some (I 2,[]):=by
 obtain⟨u1,u2,_,_⟩:=aKH v hF
 have e:=w45 0 s v.A
 have n0:(v.F<0)=False:=eq_false (by omega)
 rw[h0]at e
 rcases hs with ⟨rfl,rfl⟩|⟨rfl,rfl⟩|⟨rfl,rfl⟩
 all_goals
  refine bY ?_ ?_
  ·unfold uV
   dsimp only
   (sym=>(simp[Za,Zb,Zf,Zg,Zh,Zj,Zl,Zm,Zv,Z3,Z5,Z8,ZA,ZG,ZO,ZP,ZT,ZU,ZX,Ya,Yf,Yk,Yo,Ys,Y8,Y9,YA,YB,YC,YD,YF,YX,Xr,Xs,XJ,We,W3,W4,W5,WA,WC,WK,WN,WP,WU,WV,Vi,Vj,Vk,Vv,Vx,Vy,Vz,VQ,VT,VU,VX,VZ,Ua,Uc,Ud,Ug,Uh,Ur,Uu,Uy,U2,U3,U4,U5,U6,Tf,Tg,Tk,Tt,Tu,Tv,Tw,Ty,Tz,T1,T3,T6,T7,Sw,SD,SE,SG,SI,SJ,SK,u1,u2,e,n0];all_goals tactic=>exact rfl))
  ·unfold uV
   dsimp only
   (sym=>(simp[Za,Zb,Zf,Zg,Zh,Zj,Zl,Zm,Zv,Z3,Z5,Z8,ZA,ZG,ZO,ZP,ZT,ZU,ZX,Ya,Yf,Yk,Yo,Ys,Y8,Y9,YA,YB,YC,YD,YF,YX,Xr,Xs,XJ,We,W3,W4,W5,WA,WC,WK,WN,WP,WU,WV,Vi,Vj,Vk,Vv,Vx,Vy,Vz,V9,VF,VQ,VT,VU,VZ,Ua,Uc,Ud,Ug,Uh,Ur,Uu,Uy,U2,U3,U4,U5,U6,Tf,Tg,Tk,Tt,Tu,Tv,Tw,Ty,Tz,T1,T3,T6,T7,Sw,SD,SE,SG,SI,SJ,SK,u1,u2,e,n0];all_goals tactic=>exact rfl))
theorem w23 (v:Va) (hb:v.bs.length<1000000000) (hp:v.ps.length<1000000000):runW aA 23 [.agg v.c] []=some (I (vE v),[]):=by
 have e0:=w45 1 v.F 16
 rw[r23 (by simp)];unfold x23;dsimp only
 unfold vE
 cases hF:btw 1 v.F 16
 ·rw[hF]at e0
  rw[if_neg (by simp)]
  (sym=>(simp[Za,Zb,Zf,Zg,Zh,Zj,Zl,Zm,Zo,Zv,Zz,Z5,Z8,ZG,ZO,ZP,ZT,ZU,ZX,Ya,YX,Xi,Xk,Xl,Xr,Xs,XJ,We,Wg,Wi,Ws,W3,W4,W5,WA,WB,WC,WK,WN,WO,WP,WQ,WR,WS,WU,WV,Vi,Vj,Vk,Vv,Vx,Vy,V0,V1,V3,V9,VA,VC,VD,VE,VF,VG,VJ,VK,VL,VM,VO,VT,VU,VY,VZ,Ua,Uc,Ud,Uf,Ug,Uh,Um,Ur,U2,U3,U4,U5,U6,U7,U8,UD,UE,US,UT,Tf,Tg,Tk,Tn,Tu,Tv,Ty,Tz,T1,T3,T6,T7,Sw,SD,SE,SF,SI,SJ,SK,e0];all_goals tactic=>exact rfl))
 ·rw[hF]at e0
  rw[if_pos rfl]
  have hF':=iP.1 hF
  unfold bsE
  by_cases h60:60<v.bs.length
  ·rw[if_pos h60,if_neg (by decide)]
   have c60:((60:Int)<(v.bs.length:Int))=True:=eq_true (by omega)
   (sym=>(simp[Za,Zb,Zf,Zg,Zh,Zj,Zl,Zm,Zo,Zv,Zz,Z3,Z5,Z8,ZF,ZG,ZO,ZP,ZT,ZU,ZX,Ya,Yc,Yu,YX,Xi,Xk,Xl,Xr,Xs,XJ,We,Wg,Wi,Ws,W3,W4,W5,WA,WB,WC,WK,WN,WO,WP,WQ,WR,WS,WU,WV,Vi,Vj,Vk,Vv,Vx,Vy,V0,V1,V3,V9,VA,VC,VD,VE,VF,VG,VJ,VK,VL,VM,VO,VT,VU,VV,VZ,Ua,Uc,Ud,Uf,Ug,Uh,Ui,Um,Uq,Uy,U2,U3,U4,U5,U6,U7,U8,UD,UE,US,UT,Tf,Tg,Tk,Tn,Tt,Tu,Tv,Ty,Tz,T1,T3,T6,T7,Sw,SD,SE,SF,SI,SJ,SK,e0,c60];all_goals tactic=>exact rfl))
  ·rw[if_neg h60]
   have g60:((60:Int)<(v.bs.length:Int))=False:=eq_false (by omega)
   have z:=Te (n:=(v.bs.length:Int))
   obtain⟨m,m1,m2,m3⟩:=cN (bE v) v.bs.length
   rcases m3 with ⟨rfl,e⟩|⟨m3,m4,e⟩
   ·rw[e, if_pos rfl]
    unfold psE
    by_cases h20:20<v.ps.length
    ·rw[if_pos h20,if_neg (by decide)]
     have c20:((20:Int)<(v.ps.length:Int))=True:=eq_true (by omega)
     sym =>
      simp[Za,Zb,Zf,Zg,Zh,Zj,Zl,Zm,Zo,Zv,Zz,Z3,Z5,Z8,ZF,ZG,ZO,ZP,ZT,ZU,ZX,Ya,Yc,Yu,YX,Xi,Xk,Xl,Xr,Xs,We,Wg,Wi,Ws,W3,W4,W5,WA,WB,WC,WK,WN,WP,WU,WV,Vi,Vj,Vk,Vv,Vx,Vy,V0,V1,V3,VO,VT,VV,VZ,Ua,Uc,Ud,Ug,Uh,Ui,Um,Uq,Uz,U2,U3,U4,U5,U6,U7,U8,UD,UE,US,UT,Tf,Tg,Tk,Tn,Tt,Tu,Tw,Ty,Tz,T2,T6,T7,SD,SE,SF,SI,SJ,SK,e0,g60]
      tactic =>
       unfold qB
       rw[aE v.bs.length (fun i=>[.pt 0 0,rB v.bs,I v.bs.length,I (i:Nat)]) (fun _=>bx v)]
       ·(sym=>(simp[Za,Zb,Zf,Zh,Zl,Zm,Zv,Z3,Z8,ZF,ZG,Ya,Yc,Ys,Yu,YX,Xr,XJ,We,W3,W4,W5,WC,WK,WO,WQ,WR,WS,Vv,V9,VA,VC,VD,VE,VF,VG,VJ,VK,VL,VM,VQ,VT,VU,VV,Ua,Ud,Uf,Ui,Uy,Uz,U3,U4,Te,Tf,Tg,Tk,Tt,Tu,Tv,Tx,Tz,T0,T1,T4,T6,T7,Sw,z,c20];all_goals tactic=>exact rfl))
       ·(sym=>(simp[Za,Y9,YX,Xb,Xd,Xr,Xv,Xx,W3,WE,WH,WI,WK,WL,WM,WO,WQ,WR,WS,WT,WY,WZ,Vf,VR,VS,VZ,Ua,Uc,Ud,Uf,Uk,Ux,U3,U4,U5,U6,T5,TK];all_goals tactic=>exact rfl))
       ·exact fun i hi=>vI v hF' hb hi (m2 i hi)
       ·(sym=>(simp[Za,Zb,Zf,Zh,Zl,Zm,Z3,Ys,VQ,VT,VV,VW,Uz,Te,Tt,Tu,Tx,Tz,T0,T6,z];all_goals tactic=>exact rfl))
    ·rw[if_neg h20]
     have g20:((20:Int)<(v.ps.length:Int))=False:=eq_false (by omega)
     have z2:=Te (n:=(v.ps.length:Int))
     obtain⟨k,k1,k2,k3⟩:=cN (pE v) v.ps.length
     sym =>
      simp[Za,Zb,Zf,Zg,Zh,Zj,Zl,Zm,Zo,Zv,Zz,Z3,Z5,Z8,ZF,ZG,ZO,ZP,ZT,ZU,ZX,Ya,Yc,Yu,YX,Xi,Xk,Xl,Xr,Xs,We,Wg,Wi,Ws,W3,W4,W5,WA,WB,WC,WK,WN,WP,WU,WV,Vi,Vj,Vk,Vv,Vx,Vy,V0,V1,V3,VO,VT,VV,VY,VZ,Ua,Uc,Ud,Ug,Uh,Ui,Um,Uq,Uz,U2,U3,U4,U5,U6,U7,U8,UD,UE,US,UT,Tf,Tg,Tk,Tn,Tt,Tu,Tw,Ty,Tz,T2,T6,T7,SD,SE,SF,SI,SJ,SK,e0,g60]
      tactic =>
       unfold qB
       rw[aE v.bs.length (fun i=>[.pt 0 0,rB v.bs,I v.bs.length,I (i:Nat)]) (fun _=>bx v)]
       ·sym =>
        simp[Za,Zb,Zf,Zh,Zl,Zm,Zv,Z3,Z8,ZF,ZG,Ya,Yc,Ys,Yu,W3,W4,W5,WC,VQ,VT,VV,Ui,Uz,Te,Tf,Tg,Tk,Tt,Tu,Tw,Tx,Ty,Tz,T0,T4,T6,T7,z,g20]
        tactic =>
         rcases k3 with ⟨rfl,e3⟩|⟨k3,k4,e3⟩
         ·rw[e3, if_pos rfl]
          unfold oM
          rw[aE v.ps.length (fun i=>[.pt 0 0,rP v.ps,I v.ps.length,I (i:Nat)]) (fun _=>bx v)]
          ·sym =>
           simp[Za,Zb,Zd,Ze,Zf,Zg,Zh,Zj,Zl,Zm,Zo,Zv,Z1,Z3,Z8,ZF,ZG,Ya,Ye,Ys,YF,Xi,Wq,W3,W4,W5,W7,W9,WA,WC,Vv,Vx,Vy,V0,V1,V3,VQ,VT,VV,VZ,Ua,Ub,Uc,Ud,Ug,Uh,Um,Uu,Uz,U0,U1,U7,U8,UF,UG,UH,UI,UU,UV,UW,UX,Te,Tf,Tg,Tk,Tn,Tt,Tu,Tx,Ty,Tz,T0,T4,T6,T7,TR,SD,SE,SF,SI,SJ,SK,z2]
           tactic =>
            have lf:=fun i s hs h0=>aIB v hF' (i:=i) (s:=s) hs h0
            have rd:=fun i s hs h0=>aFG v hF' (i:=i) (s:=s) hs h0
            unfold uV at lf rd ⊢
            dsimp only at lf rd
            rcases vF v with ⟨h1,h⟩|⟨h1,h2,h⟩|⟨h1,h2,h3,h⟩|⟨h1,h2,h3,h⟩
            ·rw[h]
             obtain⟨eo,ho,q1,q2⟩:=lf 0 v.sick (by simp) h1
             rw[aE 0 (fun i=>[.pt 0 0,.sl 1 0 1 3,I 3,I (i:Nat)]) (fun _=>bx3 v)]
             ·rw[q1];exact q2
             ·(sym=>(simp[Za,Y9,YX,Xc,Xd,Xr,Xw,Xx,W3,WE,WF,WH,WI,WK,WL,WM,WO,WQ,WR,WS,WT,WY,WZ,Vf,VQ,VR,VS,VZ,Ua,Ub,Uc,Ud,Uf,Uk,Ux,U3,U4,U5,U6,T5,TK];all_goals tactic=>exact rfl))
             ·intro i hi;omega
             ·rw[q1];rfl
            ·rw[h]
             obtain⟨eo,ho,q1,q2⟩:=lf 1 v.nur (by simp) h2
             rw[aE 1 (fun i=>[.pt 0 0,.sl 1 0 1 3,I 3,I (i:Nat)]) (fun _=>bx3 v)]
             ·rw[q1];exact q2
             ·(sym=>(simp[Za,Y9,YX,Xc,Xd,Xr,Xw,Xx,W3,WE,WF,WH,WI,WK,WL,WM,WO,WQ,WR,WS,WT,WY,WZ,Vf,VQ,VR,VS,VZ,Ua,Ub,Uc,Ud,Uf,Uk,Ux,U3,U4,U5,U6,T5,TK];all_goals tactic=>exact rfl))
             ·intro i hi
              obtain rfl:i=0:=by omega
              exact rd 0 v.sick (by simp) h1
             ·rw[q1];rfl
            ·rw[h]
             obtain⟨eo,ho,q1,q2⟩:=lf 2 v.fix (by simp) h3
             rw[aE 2 (fun i=>[.pt 0 0,.sl 1 0 1 3,I 3,I (i:Nat)]) (fun _=>bx3 v)]
             ·rw[q1];exact q2
             ·(sym=>(simp[Za,Y9,YX,Xc,Xd,Xr,Xw,Xx,W3,WE,WF,WH,WI,WK,WL,WM,WO,WQ,WR,WS,WT,WY,WZ,Vf,VQ,VR,VS,VZ,Ua,Ub,Uc,Ud,Uf,Uk,Ux,U3,U4,U5,U6,T5,TK];all_goals tactic=>exact rfl))
             ·intro i hi
              have:i=0∨i=1:=by omega
              rcases this with rfl|rfl
              ·exact rd 0 v.sick (by simp) h1
              ·exact rd 1 v.nur (by simp) h2
             ·rw[q1];rfl
            ·rw[h]
             rw[aE 3 (fun i=>[.pt 0 0,.sl 1 0 1 3,I 3,I (i:Nat)]) (fun _=>bx3 v)]
             ·(sym=>(simp[Za,Zb,Zf,Zh,Zl,Zm,Zv,Z3,Ys,YF,YX,Xr,XJ,We,WK,WO,WQ,WR,WS,Vv,V9,VA,VC,VD,VE,VF,VG,VJ,VK,VL,VM,VQ,VT,VV,Ua,Ud,Uf,Uz,U3,U4,Tt,Tu,Tv,Tx,Tz,T0,T4,T6,T7,Sw];all_goals tactic=>exact rfl))
             ·(sym=>(simp[Za,Y9,YX,Xc,Xd,Xr,Xw,Xx,W3,WE,WF,WH,WI,WK,WL,WM,WO,WQ,WR,WS,WT,WY,WZ,Vf,VQ,VR,VS,VZ,Ua,Ub,Uc,Ud,Uf,Uk,Ux,U3,U4,U5,U6,T5,TK];all_goals tactic=>exact rfl))
             ·intro i hi
              have:i=0∨i=1∨i=2:=by omega
              rcases this with rfl|rfl|rfl
              ·exact rd 0 v.sick (by simp) h1
              ·exact rd 1 v.nur (by simp) h2
              ·exact rd 2 v.fix (by simp) h3
             ·(sym=>(simp[Za,Zb,Zf,Zh,Zl,Zm,Z3,Ys,YF,VQ,VT,VV,VW,Uz,Tt,Tu,Tx,Tz,T0,T6];all_goals tactic=>exact rfl))
          ·(sym=>(simp[Za,Y9,YX,Xb,Xd,Xr,Xv,Xx,W3,WE,WH,WI,WK,WL,WM,WO,WQ,WR,WS,WT,WY,WZ,Vf,VQ,VR,VS,VZ,Ua,Uc,Ud,Uf,Uk,Ux,U3,U4,U5,U6,T5,TK];all_goals tactic=>exact rfl))
          ·exact fun i hi=>aAI v hF' hp hi (k2 i hi)
          ·(sym=>(simp[Za,Zb,Zf,Zh,Zl,Zm,Z3,Ys,VQ,VT,VV,VW,Uz,Te,Tt,Tu,Tx,Tz,T0,T6,z2];all_goals tactic=>exact rfl))
         ·rw[e3,if_neg k4]
          obtain⟨eo,ho,q1,q2⟩:=aIC v hF' k3 k4
          unfold oM at q1 ⊢
          rw[aE k (fun i=>[.pt 0 0,rP v.ps,I v.ps.length,I (i:Nat)]) (fun _=>bx v)]
          ·dsimp only at q1;rw[q1];exact q2
          ·(sym=>(simp[Za,Y9,YX,Xb,Xd,Xr,Xv,Xx,W3,WE,WH,WI,WK,WL,WM,WO,WQ,WR,WS,WT,WY,WZ,Vf,VQ,VR,VS,VZ,Ua,Uc,Ud,Uf,Uk,Ux,U3,U4,U5,U6,T5,TK];all_goals tactic=>exact rfl))
          ·exact fun i hi=>aAI v hF' hp (by omega) (k2 i hi)
          ·dsimp only at q1;rw[q1];rfl
       ·(sym=>(simp[Za,Y9,YX,Xb,Xd,Xr,Xv,Xx,W3,WE,WH,WI,WK,WL,WM,WO,WQ,WR,WS,WT,WY,WZ,Vf,VR,VS,VZ,Ua,Uc,Ud,Uf,Uk,Ux,U3,U4,U5,U6,T5,TK];all_goals tactic=>exact rfl))
       ·exact fun i hi=>vI v hF' hb hi (m2 i hi)
       ·(sym=>(simp[Za,Zb,Zf,Zh,Zl,Zm,Z3,Ys,VQ,VT,VV,VW,Uz,Te,Tt,Tu,Tx,Tz,T0,T6,z];all_goals tactic=>exact rfl))
   ·rw[e,if_neg m4]
    obtain⟨eo,ho,q1,q2⟩:=aID v hF' m3 m4
    sym =>
     simp[Za,Zb,Zf,Zg,Zh,Zj,Zl,Zm,Zo,Zv,Zz,Z3,Z5,Z8,ZF,ZG,ZO,ZP,ZT,ZU,ZX,Ya,Yc,Yu,YX,Xi,Xk,Xl,Xr,Xs,We,Wg,Wi,Ws,W3,W4,W5,WA,WB,WC,WK,WN,WP,WU,WV,Vi,Vj,Vk,Vv,Vx,Vy,V0,V1,V3,VO,VT,VV,VY,VZ,Ua,Uc,Ud,Ug,Uh,Ui,Um,Uq,Uz,U2,U3,U4,U5,U6,U7,U8,UD,UE,US,UT,Tf,Tg,Tk,Tn,Tt,Tu,Tw,Ty,Tz,T2,T6,T7,SD,SE,SF,SI,SJ,SK,e0,g60]
     tactic =>
      unfold qB at q1 ⊢
      rw[aE m (fun i=>[.pt 0 0,rB v.bs,I v.bs.length,I (i:Nat)]) (fun _=>bx v)]
      ·dsimp only at q1;rw[q1];exact q2
      ·(sym=>(simp[Za,Y9,YX,Xb,Xd,Xr,Xv,Xx,W3,WE,WH,WI,WK,WL,WM,WO,WQ,WR,WS,WT,WY,WZ,Vf,VR,VS,VZ,Ua,Uc,Ud,Uf,Uk,Ux,U3,U4,U5,U6,T5,TK];all_goals tactic=>exact rfl))
      ·exact fun i hi=>vI v hF' hb (by omega) (m2 i hi)
      ·dsimp only at q1;rw[q1];rfl
theorem u_F (v:Va) (hF:1≤v.F∧v.F≤16):IntKind.i64.wrap (v.F-1)=v.F-1:=aD (by omega) (by omega)
theorem vH (v:Va) (hF:1≤v.F∧v.F≤16) (hb:v.bs.length<1000000000) {i:Nat} (hi:i<v.bs.length) (h0:bE v i=0) :
 aV 0 [1,3] (execW aA 24 0 none (match kP with | .loop _ a=>a|c=>c) (aR [1,3] [.pt 0 0,I (i:Nat)]) (bx v))=some ([.pt 0 0,I (i+1:Nat)],bx v):=by
 obtain⟨x,hx⟩:=bG hi
 have a1:=cU hi
 have a2:=eK hi (by omega)
 have u:=u_F v hF
 have e1:=w47 0 x.1 (v.F-1)
 have e2:=w47 0 x.2 (v.F-1)
 unfold bE at h0
 rw[aW hx]at h0
 rcases eN v.F x.1 x.2 with ⟨h1,h⟩|⟨h1,h2,h⟩|⟨h1,h2,h3,h⟩|⟨h1,h2,h3,h⟩
 ·rw[h]at h0;simp at h0
 ·rw[h]at h0;simp at h0
 ·rw[h]at h0;simp at h0
 ·rw[h1]at e1;rw[h2]at e2
  unfold kP
  dsimp only
  (sym=>(simp[Za,Zb,Zf,Zh,Zi,Zl,Zm,Zp,Zr,Zv,Zy,Z3,Z5,Z8,Z9,ZA,ZF,ZG,ZH,ZI,ZJ,ZO,ZP,ZT,ZU,ZW,ZX,Ya,Yc,Yg,Yh,Yj,Yk,Yq,Ys,Yw,Yx,Y8,YA,YD,YP,YX,Xd,Xr,Xs,Xx,W3,W4,W5,WA,WC,WE,WH,WI,WK,WL,WM,WN,WO,WP,WQ,WR,WS,WT,WU,WV,WY,WZ,Vf,Vi,Vj,Vk,VQ,VR,VS,VT,VU,VV,VZ,Ua,Uc,Ud,Uf,Ug,Uh,Ui,Uj,Uk,Uq,Uu,Ux,Uy,Uz,U2,U3,U4,U5,U6,Tf,Tg,Th,Ti,Tk,Tt,Tu,Tw,Ty,Tz,T2,T5,T6,T7,TK,a1,a2,hx,u,e1,e2,h3];all_goals tactic=>exact rfl))
theorem aIA (v:Va) (hF:1≤v.F∧v.F≤16) {i:Nat} (hi:i<v.bs.length) (h0:bE v i≠0):∃ e h,
 execW aA 24 0 none (match kP with | .loop _ a=>a|c=>c) (aR [1,3] [.pt 0 0,I (i:Nat)]) (bx v)=some (.ret,e,h)∧bA none x24.res x24.ownR 0 (some (.ret,e,h))=some (I (bE v i),[]):=by
 obtain⟨x,hx⟩:=bG hi
 have a1:=cU hi
 have u:=u_F v hF
 have e1:=w47 0 x.1 (v.F-1)
 have e2:=w47 0 x.2 (v.F-1)
 unfold bE at h0 ⊢
 rw[aW hx]at h0 ⊢
 rcases eN v.F x.1 x.2 with ⟨h1,h⟩|⟨h1,h2,h⟩|⟨h1,h2,h3,h⟩|⟨h1,h2,h3,h⟩
 ·rw[h];rw[h1]at e1
  refine bY ?_ ?_
  ·unfold kP;dsimp only; (sym=>(simp[Za,Zb,Zf,Zh,Zi,Zl,Zm,Zp,Zt,Zv,Zy,Z3,Z5,Z8,Z9,ZA,ZF,ZG,ZH,ZI,ZJ,ZO,ZP,ZT,ZU,ZV,ZX,Ya,Yc,Yg,Yh,Yk,Ys,Yw,Yx,Y8,YA,YD,YP,YX,Xr,Xs,W3,W4,W5,WA,WC,WK,WN,WP,WU,WV,Vi,Vj,Vk,VQ,VT,VU,VX,VZ,Ua,Uc,Ud,Ug,Uh,Ui,Uj,Uk,Ur,Uu,Uy,U2,U3,U4,U5,U6,Tf,Tg,Th,Ti,Tk,Tt,Tu,Tv,Tw,Ty,Tz,T1,T3,T6,T7,a1,hx,u,e1];all_goals tactic=>exact rfl))
  ·unfold kP;dsimp only; (sym=>(simp[Za,Zb,Zf,Zh,Zi,Zl,Zm,Zp,Zt,Zv,Zy,Z3,Z5,Z8,Z9,ZA,ZF,ZG,ZH,ZI,ZJ,ZO,ZP,ZT,ZU,ZV,ZX,Ya,Yc,Yg,Yh,Yk,Ys,Yw,Yx,Y8,YA,YD,YP,YX,Xr,Xs,W3,W4,W5,WA,WC,WK,WN,WP,WU,WV,Vi,Vj,Vk,V9,VF,VQ,VT,VU,VZ,Ua,Uc,Ud,Ug,Uh,Ui,Uj,Uk,Ur,Uu,Uy,U2,U3,U4,U5,U6,Tf,Tg,Th,Ti,Tk,Tt,Tu,Tv,Tw,Ty,Tz,T1,T3,T6,T7,a1,hx,u,e1];all_goals tactic=>exact rfl))
 ·rw[h];rw[h1]at e1;rw[h2]at e2
  refine bY ?_ ?_
  ·unfold kP;dsimp only; (sym=>(simp[Za,Zb,Zf,Zh,Zi,Zl,Zm,Zp,Zr,Zv,Zy,Z3,Z5,Z8,Z9,ZA,ZF,ZG,ZH,ZI,ZJ,ZO,ZP,ZT,ZU,ZW,ZX,Ya,Yc,Yg,Yh,Yk,Ys,Yw,Yx,Y8,YA,YD,YP,YX,Xr,Xs,W3,W4,W5,WA,WC,WK,WN,WP,WU,WV,Vi,Vj,Vk,VQ,VT,VU,VX,VZ,Ua,Uc,Ud,Ug,Uh,Ui,Uj,Uk,Uq,Ur,Uu,Uy,U2,U3,U4,U5,U6,Tf,Tg,Th,Ti,Tk,Tt,Tu,Tv,Tw,Ty,Tz,T1,T3,T6,T7,a1,hx,u,e1,e2];all_goals tactic=>exact rfl))
  ·unfold kP;dsimp only; (sym=>(simp[Za,Zb,Zf,Zh,Zi,Zl,Zm,Zp,Zr,Zv,Zy,Z3,Z5,Z8,Z9,ZA,ZF,ZG,ZH,ZI,ZJ,ZO,ZP,ZT,ZU,ZW,ZX,Ya,Yc,Yg,Yh,Yk,Ys,Yw,Yx,Y8,YA,YD,YP,YX,Xr,Xs,W3,W4,W5,WA,WC,WK,WN,WP,WU,WV,Vi,Vj,Vk,V9,VF,VQ,VT,VU,VZ,Ua,Uc,Ud,Ug,Uh,Ui,Uj,Uk,Uq,Ur,Uu,Uy,U2,U3,U4,U5,U6,Tf,Tg,Th,Ti,Tk,Tt,Tu,Tv,Tw,Ty,Tz,T1,T3,T6,T7,a1,hx,u,e1,e2];all_goals tactic=>exact rfl))
 ·rw[h];rw[h1]at e1;rw[h2]at e2
  refine bY ?_ ?_
  ·unfold kP;dsimp only; (sym=>(simp[Za,Zb,Zf,Zh,Zi,Zl,Zm,Zp,Zr,Zv,Zy,Z3,Z5,Z8,Z9,ZA,ZF,ZG,ZH,ZI,ZJ,ZO,ZP,ZT,ZU,ZW,ZX,Ya,Yc,Yg,Yh,Yk,Yq,Ys,Yw,Yx,Y8,YA,YD,YP,YX,Xr,Xs,W3,W4,W5,WA,WC,WK,WN,WP,WU,WV,Vi,Vj,Vk,VQ,VT,VU,VV,VX,VZ,Ua,Uc,Ud,Ug,Uh,Ui,Uj,Uk,Uq,Uu,Uy,U2,U3,U4,U5,U6,Tf,Tg,Th,Ti,Tk,Tt,Tu,Tv,Tw,Ty,Tz,T1,T3,T6,T7,a1,hx,u,e1,e2,h3];all_goals tactic=>exact rfl))
  ·unfold kP;dsimp only; (sym=>(simp[Za,Zb,Zf,Zh,Zi,Zl,Zm,Zp,Zr,Zv,Zy,Z3,Z5,Z8,Z9,ZA,ZF,ZG,ZH,ZI,ZJ,ZO,ZP,ZT,ZU,ZW,ZX,Ya,Yc,Yg,Yh,Yk,Yq,Ys,Yw,Yx,Y8,YA,YD,YP,YX,Xr,Xs,W3,W4,W5,WA,WC,WK,WN,WP,WU,WV,Vi,Vj,Vk,V9,VF,VQ,VT,VU,VV,VZ,Ua,Uc,Ud,Ug,Uh,Ui,Uj,Uk,Uq,Uu,Uy,U2,U3,U4,U5,U6,Tf,Tg,Th,Ti,Tk,Tt,Tu,Tv,Tw,Ty,Tz,T1,T3,T6,T7,a1,hx,u,e1,e2,h3];all_goals tactic=>exact rfl))
 ·exact absurd h h0
theorem aAH (v:Va) (hF:1≤v.F∧v.F≤16) (hb:v.ps.length<1000000000) {i:Nat} (hi:i<v.ps.length) (h0:pE v i=0) :
 aV 0 [1,6] (execW aA 24 0 none (match jV with | .loop _ a=>a|c=>c) (aR [1,6] [.pt 0 0,I (i:Nat)]) (bx v))=some ([.pt 0 0,I (i+1:Nat)],bx v):=by
 obtain⟨x,hx⟩:=bG hi
 have a1:=cU hi
 have a2:=eK hi (by omega)
 have u:=u_F v hF
 have e1:=w47 0 x.2.1 (v.F-1)
 have e2:=w47 0 x.2.2 (v.F-1)
 have e4:=w47 0 x.1 100
 rcases kY v hx with ⟨g1,g2⟩|⟨g1,g2,_⟩|⟨g1,g2,g3⟩
 ·exact absurd (g2.symm.trans h0) g1
 ·rw[g2]at e4
  rcases eN v.F x.2.1 x.2.2 with ⟨h1,h⟩|⟨h1,h2,h⟩|⟨h1,h2,h3,h⟩|⟨h1,h2,h3,h⟩
  ·rw[h]at g1;simp at g1
  ·rw[h]at g1;simp at g1
  ·rw[h]at g1;simp at g1
  ·rw[h1]at e1;rw[h2]at e2
   unfold jV
   dsimp only
   (sym=>(simp[Za,Zb,Zc,Zf,Zg,Zh,Zj,Zl,Zm,Zp,Zr,Zv,Zw,Zy,Z3,Z5,Z8,ZA,ZF,ZG,ZK,ZL,ZO,ZP,ZT,ZU,ZW,ZX,Ya,Yc,Yg,Yh,Yj,Yk,Yq,Ys,Yw,Yx,YX,Xd,Xi,Xr,Xs,Xx,Ws,W3,W4,W5,W6,W7,W8,W9,WA,WC,WE,WH,WI,WK,WL,WM,WN,WO,WP,WQ,WR,WS,WT,WU,WV,WY,WZ,Vf,Vi,Vj,Vk,Vv,Vx,Vy,V0,V1,V3,VQ,VR,VS,VT,VU,VV,VZ,Ua,Ub,Uc,Ud,Uf,Ug,Uh,Ui,Uj,Uk,Um,Uq,Uu,Ux,Uy,Uz,U2,U3,U4,U5,U6,U7,U8,UF,Tf,Tg,Th,Ti,Tj,Tk,Tl,Tm,Tt,Tu,Tw,Ty,Tz,T2,T5,T6,T7,TK,SD,SE,SF,SI,SJ,SK,a1,a2,hx,u,e1,e2,e4,h3];all_goals tactic=>exact rfl))
 ·rw[h0]at g3;simp at g3
theorem aIz (v:Va) (hF:1≤v.F∧v.F≤16) {i:Nat} (hi:i<v.ps.length) (h0:pE v i≠0):∃ e h,
 execW aA 24 0 none (match jV with | .loop _ a=>a|c=>c) (aR [1,6] [.pt 0 0,I (i:Nat)]) (bx v)=some (.ret,e,h)∧bA none x24.res x24.ownR 0 (some (.ret,e,h))=some (I (pE v i),[]):=by
 obtain⟨x,hx⟩:=bG hi
 have a1:=cU hi
 have u:=u_F v hF
 have e1:=w47 0 x.2.1 (v.F-1)
 have e2:=w47 0 x.2.2 (v.F-1)
 have e4:=w47 0 x.1 100
 rcases kY v hx with ⟨g1,g2⟩|⟨g1,g2,g3⟩|⟨g1,g2,g3⟩
 ·rw[g2]
  rcases eN v.F x.2.1 x.2.2 with ⟨h1,h⟩|⟨h1,h2,h⟩|⟨h1,h2,h3,h⟩|⟨h1,h2,h3,h⟩
  ·rw[h];rw[h1]at e1
   refine bY ?_ ?_
   ·unfold jV;dsimp only; (sym=>(simp[Za,Zb,Zc,Zf,Zg,Zh,Zj,Zl,Zm,Zp,Zt,Zv,Zw,Zy,Z3,Z5,Z8,ZA,ZF,ZG,ZK,ZL,ZO,ZP,ZT,ZU,ZV,ZX,Ya,Yc,Yg,Yh,Yk,Ys,Yw,Yx,YX,Xi,Xr,Xs,Ws,W3,W4,W5,W6,W7,W8,W9,WA,WC,WK,WN,WP,WU,WV,Vi,Vj,Vk,Vv,Vx,Vy,V0,V1,V3,VQ,VT,VU,VX,VZ,Ua,Ub,Uc,Ud,Ug,Uh,Ui,Uj,Uk,Um,Ur,Uu,Uy,U2,U3,U4,U5,U6,U7,U8,UF,Tf,Tg,Th,Ti,Tj,Tk,Tl,Tm,Tt,Tu,Tv,Tw,Ty,Tz,T1,T3,T6,T7,SD,SE,SF,SI,SJ,SK,a1,hx,u,e1];all_goals tactic=>exact rfl))
   ·unfold jV;dsimp only; (sym=>(simp[Za,Zb,Zc,Zf,Zg,Zh,Zj,Zl,Zm,Zp,Zt,Zv,Zw,Zy,Z3,Z5,Z8,ZA,ZF,ZG,ZK,ZL,ZO,ZP,ZT,ZU,ZV,ZX,Ya,Yc,Yg,Yh,Yk,Ys,Yw,Yx,YX,Xi,Xr,Xs,Ws,W3,W4,W5,W6,W7,W8,W9,WA,WC,WK,WN,WP,WU,WV,Vi,Vj,Vk,Vv,Vx,Vy,V0,V1,V3,V9,VF,VQ,VT,VU,VZ,Ua,Ub,Uc,Ud,Ug,Uh,Ui,Uj,Uk,Um,Ur,Uu,Uy,U2,U3,U4,U5,U6,U7,U8,UF,Tf,Tg,Th,Ti,Tj,Tk,Tl,Tm,Tt,Tu,Tv,Tw,Ty,Tz,T1,T3,T6,T7,SD,SE,SF,SI,SJ,SK,a1,hx,u,e1];all_goals tactic=>exact rfl))
  ·rw[h];rw[h1]at e1;rw[h2]at e2
   refine bY ?_ ?_
   ·unfold jV;dsimp only; (sym=>(simp[Za,Zb,Zc,Zf,Zg,Zh,Zj,Zl,Zm,Zp,Zr,Zv,Zw,Zy,Z3,Z5,Z8,ZA,ZF,ZG,ZK,ZL,ZO,ZP,ZT,ZU,ZW,ZX,Ya,Yc,Yg,Yh,Yk,Ys,Yw,Yx,YX,Xi,Xr,Xs,Ws,W3,W4,W5,W6,W7,W8,W9,WA,WC,WK,WN,WP,WU,WV,Vi,Vj,Vk,Vv,Vx,Vy,V0,V1,V3,VQ,VT,VU,VX,VZ,Ua,Ub,Uc,Ud,Ug,Uh,Ui,Uj,Uk,Um,Uq,Ur,Uu,Uy,U2,U3,U4,U5,U6,U7,U8,UF,Tf,Tg,Th,Ti,Tj,Tk,Tl,Tm,Tt,Tu,Tv,Tw,Ty,Tz,T1,T3,T6,T7,SD,SE,SF,SI,SJ,SK,a1,hx,u,e1,e2];all_goals tactic=>exact rfl))
   ·unfold jV;dsimp only; (sym=>(simp[Za,Zb,Zc,Zf,Zg,Zh,Zj,Zl,Zm,Zp,Zr,Zv,Zw,Zy,Z3,Z5,Z8,ZA,ZF,ZG,ZK,ZL,ZO,ZP,ZT,ZU,ZW,ZX,Ya,Yc,Yg,Yh,Yk,Ys,Yw,Yx,YX,Xi,Xr,Xs,Ws,W3,W4,W5,W6,W7,W8,W9,WA,WC,WK,WN,WP,WU,WV,Vi,Vj,Vk,Vv,Vx,Vy,V0,V1,V3,V9,VF,VQ,VT,VU,VZ,Ua,Ub,Uc,Ud,Ug,Uh,Ui,Uj,Uk,Um,Uq,Ur,Uu,Uy,U2,U3,U4,U5,U6,U7,U8,UF,Tf,Tg,Th,Ti,Tj,Tk,Tl,Tm,Tt,Tu,Tv,Tw,Ty,Tz,T1,T3,T6,T7,SD,SE,SF,SI,SJ,SK,a1,hx,u,e1,e2];all_goals tactic=>exact rfl))
  ·rw[h];rw[h1]at e1;rw[h2]at e2
   refine bY ?_ ?_
   ·unfold jV;dsimp only; (sym=>(simp[Za,Zb,Zc,Zf,Zg,Zh,Zj,Zl,Zm,Zp,Zr,Zv,Zw,Zy,Z3,Z5,Z8,ZA,ZF,ZG,ZK,ZL,ZO,ZP,ZT,ZU,ZW,ZX,Ya,Yc,Yg,Yh,Yk,Yq,Ys,Yw,Yx,YX,Xi,Xr,Xs,Ws,W3,W4,W5,W6,W7,W8,W9,WA,WC,WK,WN,WP,WU,WV,Vi,Vj,Vk,Vv,Vx,Vy,V0,V1,V3,VQ,VT,VU,VV,VX,VZ,Ua,Ub,Uc,Ud,Ug,Uh,Ui,Uj,Uk,Um,Uq,Uu,Uy,U2,U3,U4,U5,U6,U7,U8,UF,Tf,Tg,Th,Ti,Tj,Tk,Tl,Tm,Tt,Tu,Tv,Tw,Ty,Tz,T1,T3,T6,T7,SD,SE,SF,SI,SJ,SK,a1,hx,u,e1,e2,h3];all_goals tactic=>exact rfl))
   ·unfold jV;dsimp only; (sym=>(simp[Za,Zb,Zc,Zf,Zg,Zh,Zj,Zl,Zm,Zp,Zr,Zv,Zw,Zy,Z3,Z5,Z8,ZA,ZF,ZG,ZK,ZL,ZO,ZP,ZT,ZU,ZW,ZX,Ya,Yc,Yg,Yh,Yk,Yq,Ys,Yw,Yx,YX,Xi,Xr,Xs,Ws,W3,W4,W5,W6,W7,W8,W9,WA,WC,WK,WN,WP,WU,WV,Vi,Vj,Vk,Vv,Vx,Vy,V0,V1,V3,V9,VF,VQ,VT,VU,VV,VZ,Ua,Ub,Uc,Ud,Ug,Uh,Ui,Uj,Uk,Um,Uq,Uu,Uy,U2,U3,U4,U5,U6,U7,U8,UF,Tf,Tg,Th,Ti,Tj,Tk,Tl,Tm,Tt,Tu,Tv,Tw,Ty,Tz,T1,T3,T6,T7,SD,SE,SF,SI,SJ,SK,a1,hx,u,e1,e2,h3];all_goals tactic=>exact rfl))
  ·exact absurd h g1
 ·exact absurd g3 h0
 ·rw[g3];rw[g2]at e4
  rcases eN v.F x.2.1 x.2.2 with ⟨h1,h⟩|⟨h1,h2,h⟩|⟨h1,h2,h3,h⟩|⟨h1,h2,h3,h⟩
  ·rw[h]at g1;simp at g1
  ·rw[h]at g1;simp at g1
  ·rw[h]at g1;simp at g1
  ·rw[h1]at e1;rw[h2]at e2
   refine bY ?_ ?_
   ·unfold jV;dsimp only; (sym=>(simp[Za,Zb,Zc,Zf,Zg,Zh,Zj,Zl,Zm,Zp,Zr,Zv,Zw,Zy,Z3,Z5,Z8,ZA,ZF,ZG,ZK,ZL,ZO,ZP,ZT,ZU,ZW,ZX,Ya,Yc,Yg,Yh,Yk,Yq,Ys,Yw,Yx,YX,Xi,Xr,Xs,Ws,W3,W4,W5,W6,W7,W8,W9,WA,WC,WK,WN,WP,WU,WV,Vi,Vj,Vk,Vv,Vx,Vy,V0,V1,V3,VQ,VT,VU,VV,VX,VZ,Ua,Ub,Uc,Ud,Ug,Uh,Ui,Uj,Uk,Um,Uq,Ur,Uu,Uy,Uz,U2,U3,U4,U5,U6,U7,U8,UF,Tf,Tg,Th,Ti,Tj,Tk,Tl,Tm,Tt,Tu,Tv,Tw,Ty,Tz,T1,T3,T6,T7,SD,SE,SF,SI,SJ,SK,a1,hx,u,e1,e2,e4,h3];all_goals tactic=>exact rfl))
   ·unfold jV;dsimp only; (sym=>(simp[Za,Zb,Zc,Zf,Zg,Zh,Zj,Zl,Zm,Zp,Zr,Zv,Zw,Zy,Z3,Z5,Z8,ZA,ZF,ZG,ZK,ZL,ZO,ZP,ZT,ZU,ZW,ZX,Ya,Yc,Yg,Yh,Yk,Yq,Ys,Yw,Yx,YX,Xi,Xr,Xs,Ws,W3,W4,W5,W6,W7,W8,W9,WA,WC,WK,WN,WP,WU,WV,Vi,Vj,Vk,Vv,Vx,Vy,V0,V1,V3,V9,VF,VQ,VT,VU,VV,VZ,Ua,Ub,Uc,Ud,Ug,Uh,Ui,Uj,Uk,Um,Uq,Ur,Uu,Uy,Uz,U2,U3,U4,U5,U6,U7,U8,UF,Tf,Tg,Th,Ti,Tj,Tk,Tl,Tm,Tt,Tu,Tv,Tw,Ty,Tz,T1,T3,T6,T7,SD,SE,SF,SI,SJ,SK,a1,hx,u,e1,e2,e4,h3];all_goals tactic=>exact rfl))
theorem w24 (v:Va) (hb:v.bs.length<1000000000) (hp:v.ps.length<1000000000):runW aA 24 [.agg v.c] []=some (I (vE v),[]):=by
 have e0:=w47 1 v.F 16
 rw[r24 (by simp)];unfold x24;dsimp only
 unfold vE
 cases hF:btw 1 v.F 16
 ·rw[hF]at e0
  rw[if_neg (by simp)]
  (sym=>(simp[Za,Zb,Zf,Zg,Zh,Zj,Zl,Zm,Zo,Zv,Zz,Z5,Z8,ZG,ZO,ZP,ZT,ZU,ZX,Ya,YX,Xi,Xk,Xl,Xr,Xs,XJ,We,Wg,Wi,Ws,W3,W4,W5,WA,WB,WC,WK,WN,WO,WP,WQ,WR,WS,WU,WV,Vi,Vj,Vk,Vv,Vx,Vy,V0,V1,V3,V9,VA,VC,VD,VE,VF,VG,VJ,VK,VL,VM,VO,VT,VU,VY,VZ,Ua,Uc,Ud,Uf,Ug,Uh,Um,Ur,U2,U3,U4,U5,U6,U7,U8,UD,UE,US,UT,Tf,Tg,Tk,Tn,Tu,Tv,Tz,T1,T6,T7,Sw,SD,SE,SF,SI,SJ,SK,e0];all_goals tactic=>exact rfl))
 ·rw[hF]at e0
  rw[if_pos rfl]
  have hF':=iP.1 hF
  unfold bsE
  by_cases h60:60<v.bs.length
  ·rw[if_pos h60,if_neg (by decide)]
   have c60:((60:Int)<(v.bs.length:Int))=True:=eq_true (by omega)
   (sym=>(simp[Za,Zb,Zf,Zg,Zh,Zj,Zl,Zm,Zo,Zv,Zz,Z3,Z5,Z8,ZF,ZG,ZO,ZP,ZT,ZU,ZX,Ya,Yc,Yu,YX,Xi,Xk,Xl,Xr,Xs,XJ,We,Wg,Wi,Ws,W3,W4,W5,WA,WB,WC,WK,WN,WO,WP,WQ,WR,WS,WU,WV,Vi,Vj,Vk,Vv,Vx,Vy,V0,V1,V3,V9,VA,VC,VD,VE,VF,VG,VJ,VK,VL,VM,VO,VT,VU,VV,VZ,Ua,Uc,Ud,Uf,Ug,Uh,Ui,Um,Uq,Uy,U2,U3,U4,U5,U6,U7,U8,UD,UE,US,UT,Tf,Tg,Tk,Tn,Tt,Tu,Tv,Tw,Tz,T1,T6,T7,Sw,SD,SE,SF,SI,SJ,SK,e0,c60];all_goals tactic=>exact rfl))
  ·rw[if_neg h60]
   have g60:((60:Int)<(v.bs.length:Int))=False:=eq_false (by omega)
   have z:=Te (n:=(v.bs.length:Int))
   obtain⟨m,m1,m2,m3⟩:=cN (bE v) v.bs.length
   rcases m3 with ⟨rfl,e⟩|⟨m3,m4,e⟩
   ·rw[e, if_pos rfl]
    unfold psE
    by_cases h20:20<v.ps.length
    ·rw[if_pos h20,if_neg (by decide)]
     have c20:((20:Int)<(v.ps.length:Int))=True:=eq_true (by omega)
     sym =>
      simp[Za,Zb,Zf,Zg,Zh,Zj,Zl,Zm,Zo,Zv,Zz,Z3,Z5,Z8,ZF,ZG,ZO,ZP,ZT,ZU,ZX,Ya,Yc,Yu,YX,Xi,Xk,Xl,Xr,Xs,We,Wg,Wi,Ws,W3,W4,W5,WA,WB,WC,WK,WN,WP,WU,WV,Vi,Vj,Vk,Vv,Vx,Vy,V0,V1,V3,VO,VT,VV,VZ,Ua,Uc,Ud,Ug,Uh,Ui,Um,Uq,Uz,U2,U3,U4,U5,U6,U7,U8,UD,UE,US,UT,Tf,Tg,Tk,Tn,Tt,Tu,Tw,Ty,Tz,T6,T7,SD,SE,SF,SI,SJ,SK,e0,g60]
      tactic =>
       unfold kP
       rw[aE v.bs.length (fun i=>[.pt 0 0,I (i:Nat)]) (fun _=>bx v)]
       ·(sym=>(simp[Za,Zb,Zf,Zh,Zl,Zm,Zv,Z3,Z8,ZF,ZG,Ya,Yc,Ys,Yu,YX,Xr,XJ,We,W3,W4,W5,WC,WK,WO,WQ,WR,WS,Vv,V9,VA,VC,VD,VE,VF,VG,VJ,VK,VL,VM,VQ,VT,VU,VV,Ua,Ud,Uf,Ui,Uy,Uz,U3,U4,Te,Tf,Tg,Tk,Tt,Tu,Tv,Tx,Tz,T0,T1,T4,T6,T7,Sw,z,c20];all_goals tactic=>exact rfl))
       ·(sym=>(simp[Za,Y9,YX,Xd,Xr,Xx,W3,WE,WH,WI,WK,WL,WM,WO,WQ,WR,WS,WT,WY,WZ,Vf,VR,VS,VZ,Ua,Uc,Ud,Uf,Uk,Ux,U3,U4,U5,U6,T5,TK];all_goals tactic=>exact rfl))
       ·exact fun i hi=>vH v hF' hb hi (m2 i hi)
       ·(sym=>(simp[Za,Zb,Zf,Zh,Zl,Zm,Zv,Z3,Z8,ZF,ZG,Ya,Yc,Ys,W3,W4,W5,WC,VQ,VT,VV,VW,Ui,Uz,Te,Tf,Tg,Tk,Tt,Tu,Tx,Tz,T0,T6,z];all_goals tactic=>exact rfl))
    ·rw[if_neg h20]
     have g20:((20:Int)<(v.ps.length:Int))=False:=eq_false (by omega)
     have z2:=Te (n:=(v.ps.length:Int))
     obtain⟨k,k1,k2,k3⟩:=cN (pE v) v.ps.length
     obtain⟨u1,u2,_,_⟩:=aKH v hF'
     have n0:(v.F<0)=False:=eq_false (by omega)
     have f1:=w47 0 v.sick v.A
     have f2:=w47 0 v.nur v.A
     have f3:=w47 0 v.fix v.A
     sym =>
      simp[Za,Zb,Zf,Zg,Zh,Zj,Zl,Zm,Zo,Zv,Zz,Z3,Z5,Z8,ZF,ZG,ZO,ZP,ZT,ZU,ZX,Ya,Yc,Yu,YX,Xi,Xk,Xl,Xr,Xs,We,Wg,Wi,Ws,W3,W4,W5,WA,WB,WC,WK,WN,WP,WU,WV,Vi,Vj,Vk,Vv,Vx,Vy,V0,V1,V3,VO,VT,VV,VY,VZ,Ua,Uc,Ud,Ug,Uh,Ui,Um,Uq,Uz,U2,U3,U4,U5,U6,U7,U8,UD,UE,US,UT,Tf,Tg,Tk,Tn,Tt,Tu,Tw,Ty,Tz,T6,T7,SD,SE,SF,SI,SJ,SK,e0,g60]
      tactic =>
       unfold kP
       rw[aE v.bs.length (fun i=>[.pt 0 0,I (i:Nat)]) (fun _=>bx v)]
       ·sym =>
        simp[Za,Zb,Zf,Zh,Zl,Zm,Zv,Z3,Z8,ZF,ZG,Ya,Yc,Ys,Yu,W3,W4,W5,WC,VQ,VT,VV,Ui,Uz,Te,Tf,Tg,Tk,Tt,Tu,Tw,Tx,Ty,Tz,T0,T4,T6,T7,z,g20]
        tactic =>
         rcases k3 with ⟨rfl,e3⟩|⟨k3,k4,e3⟩
         ·rw[e3,if_pos rfl]
          unfold jV
          rw[aE v.ps.length (fun i=>[.pt 0 0,I (i:Nat)]) (fun _=>bx v)]
          ·rcases vF v with ⟨h1,h⟩|⟨h1,h2,h⟩|⟨h1,h2,h3,h⟩|⟨h1,h2,h3,h⟩
           ·rw[h];rw[h1]at f1; (sym=>(simp[Za,Zb,Zf,Zg,Zh,Zj,Zl,Zm,Zp,Zt,Zv,Zy,Z3,Z5,Z8,ZF,ZG,ZO,ZP,ZT,ZU,ZV,ZX,Ya,Yc,Yk,Yo,Ys,YX,Xr,Xs,XJ,We,W3,W4,W5,WA,WC,WK,WN,WO,WP,WQ,WR,WS,WU,WV,Vi,Vj,Vk,Vv,Vx,Vy,V0,V1,V3,V9,VA,VC,VD,VE,VF,VG,VJ,VK,VL,VM,VQ,VT,VU,VV,VZ,Ua,Uc,Ud,Uf,Ug,Uh,Ui,Ur,Uz,U2,U3,U4,U5,U6,Te,Tf,Tg,Tk,Tt,Tu,Tv,Tx,Tz,T0,T1,T4,T6,T7,Sw,SD,SE,SF,SI,SJ,SK,z2,u1,u2,n0,f1];all_goals tactic=>exact rfl))
           ·rw[h];rw[h1]at f1;rw[h2]at f2; (sym=>(simp[Za,Zb,Zf,Zg,Zh,Zj,Zl,Zm,Zp,Zr,Zt,Zv,Zy,Z3,Z5,Z8,ZF,ZG,ZO,ZP,ZT,ZU,ZV,ZW,ZX,Ya,Yc,Yk,Yo,Ys,YX,Xr,Xs,XJ,We,W3,W4,W5,WA,WC,WK,WN,WO,WP,WQ,WR,WS,WU,WV,Vi,Vj,Vk,Vv,Vx,Vy,V0,V1,V3,V9,VA,VC,VD,VE,VF,VG,VJ,VK,VL,VM,VQ,VT,VU,VV,VZ,Ua,Uc,Ud,Uf,Ug,Uh,Ui,Uq,Ur,Uz,U2,U3,U4,U5,U6,Te,Tf,Tg,Tk,Tt,Tu,Tv,Tx,Tz,T0,T1,T4,T6,T7,Sw,SD,SE,SF,SI,SJ,SK,z2,u1,u2,n0,f1,f2];all_goals tactic=>exact rfl))
           ·rw[h];rw[h1]at f1;rw[h2]at f2;rw[h3]at f3; (sym=>(simp[Za,Zb,Zf,Zg,Zh,Zj,Zl,Zm,Zp,Zr,Zv,Zy,Z3,Z5,Z8,ZF,ZG,ZO,ZP,ZT,ZU,ZW,ZX,Ya,Yc,Yk,Yo,Ys,YX,Xr,Xs,XJ,We,W3,W4,W5,WA,WC,WK,WN,WO,WP,WQ,WR,WS,WU,WV,Vi,Vj,Vk,Vv,Vx,Vy,V0,V1,V3,V9,VA,VC,VD,VE,VF,VG,VJ,VK,VL,VM,VQ,VT,VU,VV,VZ,Ua,Uc,Ud,Uf,Ug,Uh,Ui,Uq,Ur,Uz,U2,U3,U4,U5,U6,Te,Tf,Tg,Tk,Tt,Tu,Tv,Tx,Tz,T0,T1,T4,T6,T7,Sw,SD,SE,SF,SI,SJ,SK,z2,u1,u2,n0,f1,f2,f3];all_goals tactic=>exact rfl))
           ·rw[h];rw[h1]at f1;rw[h2]at f2;rw[h3]at f3; (sym=>(simp[Za,Zb,Zf,Zg,Zh,Zj,Zl,Zm,Zp,Zr,Zv,Zy,Z3,Z5,Z8,ZF,ZG,ZO,ZP,ZT,ZU,ZW,ZX,Ya,Yc,Yk,Yo,Ys,YX,Xr,Xs,XJ,We,W3,W4,W5,WA,WC,WK,WN,WO,WP,WQ,WR,WS,WU,WV,Vi,Vj,Vk,Vv,Vx,Vy,V0,V1,V3,V9,VA,VC,VD,VE,VF,VG,VJ,VK,VL,VM,VQ,VT,VV,VZ,Ua,Uc,Ud,Uf,Ug,Uh,Ui,Uq,Uz,U2,U3,U4,U5,U6,Te,Tf,Tg,Tk,Tt,Tu,Tv,Tw,Tx,Tz,T0,T4,T6,T7,Sw,SD,SE,SF,SI,SJ,SK,z2,u1,u2,n0,f1,f2,f3];all_goals tactic=>exact rfl))
          ·(sym=>(simp[Za,Y9,YX,Xd,Xr,Xx,W3,WE,WH,WI,WK,WL,WM,WO,WQ,WR,WS,WT,WY,WZ,Vf,VQ,VR,VS,VZ,Ua,Uc,Ud,Uf,Uk,Ux,U3,U4,U5,U6,T5,TK];all_goals tactic=>exact rfl))
          ·exact fun i hi=>aAH v hF' hp hi (k2 i hi)
          ·(sym=>(simp[Za,Zb,Zf,Zh,Zl,Zm,Zv,Z3,Z8,ZF,ZG,Ya,Yc,Ys,W3,W4,W5,WC,VQ,VT,VV,VW,Ui,Uz,Te,Tf,Tg,Tk,Tt,Tu,Tx,Tz,T0,T6,z2];all_goals tactic=>exact rfl))
         ·rw[e3,if_neg k4]
          obtain⟨eo,ho,q1,q2⟩:=aIz v hF' k3 k4
          unfold jV at q1 ⊢
          rw[aE k (fun i=>[.pt 0 0,I (i:Nat)]) (fun _=>bx v)]
          ·dsimp only at q1;rw[q1];exact q2
          ·(sym=>(simp[Za,Y9,YX,Xd,Xr,Xx,W3,WE,WH,WI,WK,WL,WM,WO,WQ,WR,WS,WT,WY,WZ,Vf,VQ,VR,VS,VZ,Ua,Uc,Ud,Uf,Uk,Ux,U3,U4,U5,U6,T5,TK];all_goals tactic=>exact rfl))
          ·exact fun i hi=>aAH v hF' hp (by omega) (k2 i hi)
          ·dsimp only at q1;rw[q1];rfl
       ·(sym=>(simp[Za,Y9,YX,Xd,Xr,Xx,W3,WE,WH,WI,WK,WL,WM,WO,WQ,WR,WS,WT,WY,WZ,Vf,VR,VS,VZ,Ua,Uc,Ud,Uf,Uk,Ux,U3,U4,U5,U6,T5,TK];all_goals tactic=>exact rfl))
       ·exact fun i hi=>vH v hF' hb hi (m2 i hi)
       ·(sym=>(simp[Za,Zb,Zf,Zh,Zl,Zm,Zv,Z3,Z8,ZF,ZG,Ya,Yc,Ys,W3,W4,W5,WC,VQ,VT,VV,VW,Ui,Uz,Te,Tf,Tg,Tk,Tt,Tu,Tx,Tz,T0,T6,z];all_goals tactic=>exact rfl))
   ·rw[e,if_neg m4]
    obtain⟨eo,ho,q1,q2⟩:=aIA v hF' m3 m4
    sym =>
     simp[Za,Zb,Zf,Zg,Zh,Zj,Zl,Zm,Zo,Zv,Zz,Z3,Z5,Z8,ZF,ZG,ZO,ZP,ZT,ZU,ZX,Ya,Yc,Yu,YX,Xi,Xk,Xl,Xr,Xs,We,Wg,Wi,Ws,W3,W4,W5,WA,WB,WC,WK,WN,WP,WU,WV,Vi,Vj,Vk,Vv,Vx,Vy,V0,V1,V3,VO,VT,VV,VY,VZ,Ua,Uc,Ud,Ug,Uh,Ui,Um,Uq,Uz,U2,U3,U4,U5,U6,U7,U8,UD,UE,US,UT,Tf,Tg,Tk,Tn,Tt,Tu,Tw,Ty,Tz,T6,T7,SD,SE,SF,SI,SJ,SK,e0,g60]
     tactic =>
      unfold kP at q1 ⊢
      rw[aE m (fun i=>[.pt 0 0,I (i:Nat)]) (fun _=>bx v)]
      ·dsimp only at q1;rw[q1];exact q2
      ·(sym=>(simp[Za,Y9,YX,Xd,Xr,Xx,W3,WE,WH,WI,WK,WL,WM,WO,WQ,WR,WS,WT,WY,WZ,Vf,VR,VS,VZ,Ua,Uc,Ud,Uf,Uk,Ux,U3,U4,U5,U6,T5,TK];all_goals tactic=>exact rfl))
      ·exact fun i hi=>vH v hF' hb (by omega) (m2 i hi)
      ·dsimp only at q1;rw[q1];rfl
structure Vn where
 F:Nat
 bs:List (Nat×Nat)
 ps:List (Nat×Nat×Nat)
 sick:Nat
 nur:Nat
 fix:Nat
abbrev bI (b:Nat×Nat):Int×Int:=(b.1,b.2)
abbrev pI (p:Nat×Nat×Nat):Int×Int×Int:=(p.1,p.2.1,p.2.2)
def Vn.v (x:Vn):Va:=⟨x.F,x.bs.map bI,x.ps.map pI,x.sick,x.nur,x.fix⟩
structure Vn.Ok (x:Vn):Prop where
 F1:1≤x.F
 F16:x.F≤16
 nb:x.bs.length≤60
 np:x.ps.length≤20
 b:∀ p∈x.bs,p.1<x.F∧p.2<x.F∧p.1≠p.2
 p:∀ p∈x.ps,p.1≤100∧p.2.1<x.F∧p.2.2<x.F∧p.2.1≠p.2.2
 s:x.sick<2^x.F
 n:x.nur<2^x.F
 f:x.fix<2^x.F
theorem uC {F a b:Int}:fY F a b=0↔(0≤a∧a<F)∧(0≤b∧b<F)∧a≠b:=by
 rcases eN F a b with ⟨h1,h⟩|⟨h1,h2,h⟩|⟨h1,h2,h3,h⟩|⟨h1,h2,h3,h⟩
 ·rw[h];simp[btw]at h1;constructor
  ·intro h;simp at h
  ·intro h;have:=h1 h.1.1;omega
 ·rw[h];simp[btw]at h2;constructor
  ·intro h;simp at h
  ·intro h;have:=h2 h.2.1.1;omega
 ·rw[h];constructor
  ·intro h;simp at h
  ·intro h;exact absurd (of_eq_true h3) h.2.2
 ·rw[h]
  have g1:=iP.1 h1
  have g2:=iP.1 h2
  have g3:=of_eq_false h3
  simp only[true_iff]
  exact⟨by omega,by omega,g3⟩
theorem uP {α β:Type} (f:α→β) (P:β→Prop) (hf:∀ b,P b→∃ a,f a=b):∀ l:List β,(∀ x∈l,P x)→∃ k:List α,k.map f=l
 | [],_=>⟨[],rfl⟩
 | x::l,h=>by
   obtain⟨a,ha⟩:=hf x (h x (by simp))
   obtain⟨k,hk⟩:=uP f P hf l fun y hy=>h y (by simp[hy])
   exact⟨a::k,by simp[ha,hk]⟩
theorem aJu {v:Va} (h:vE v=0):∃ x:Vn,x.Ok∧v=x.v:=by
 unfold vE at h
 cases hF:btw 1 v.F 16
 ·rw[hF]at h;simp at h
 rw[hF,if_pos rfl]at h
 have hF':=iP.1 hF
 by_cases hb:bsE v=0
 ·rw[if_pos hb]at h
  by_cases hp:psE v=0
  ·rw[if_pos hp]at h
   unfold bsE at hb
   unfold psE at hp
   by_cases h60:60<v.bs.length
   ·rw[if_pos h60]at hb;simp at hb
   rw[if_neg h60]at hb
   by_cases h20:20<v.ps.length
   ·rw[if_pos h20]at hp;simp at hp
   rw[if_neg h20]at hp
   have hb':∀ b∈v.bs,(0≤b.1∧b.1<v.F)∧(0≤b.2∧b.2<v.F)∧b.1≠b.2:=fun b hm=>by
    obtain⟨i,hi⟩:=List.getElem?_of_mem hm
    have:=gH hb i (fP hi)
    unfold bE at this
    rw[aW hi]at this
    exact uC.1 this
   have hp':∀ p∈v.ps,(0≤p.1∧p.1≤100)∧(0≤p.2.1∧p.2.1<v.F)∧(0≤p.2.2∧p.2.2<v.F)∧p.2.1≠p.2.2:=fun p hm=>by
    obtain⟨i,hi⟩:=List.getElem?_of_mem hm
    have:=gH hp i (fP hi)
    rcases kY v hi with ⟨g1,g2⟩|⟨g1,g2,_⟩|⟨g1,g2,g3⟩
    ·exact absurd (g2.symm.trans this) g1
    ·exact⟨iP.1 g2,uC.1 g1⟩
    ·rw[g3]at this;simp at this
   obtain⟨bs,hbs⟩:=uP bI (fun b=>0≤b.1∧0≤b.2) (fun b hh=>⟨(b.1.toNat,b.2.toNat),by
    obtain⟨b1,b2⟩:=b
    simp only[bI,Prod.mk.injEq]at hh ⊢
    omega⟩) v.bs fun b hm=>⟨(hb' b hm).1.1,(hb' b hm).2.1.1⟩
   obtain⟨ps,hps⟩:=uP pI (fun p=>0≤p.1∧0≤p.2.1∧0≤p.2.2) (fun p hh=>⟨(p.1.toNat,p.2.1.toNat,p.2.2.toNat),by
    obtain⟨p1,p2,p3⟩:=p
    simp only[pI,Prod.mk.injEq]at hh ⊢
    omega⟩) v.ps fun p hm=>⟨(hp' p hm).1.1,(hp' p hm).2.1.1,(hp' p hm).2.2.1.1⟩
   obtain⟨f,hf⟩:∃ f:Nat,v.F=f:=⟨v.F.toNat,by omega⟩
   have hA:v.A=((2^f-1:Nat):Int):=by
    unfold Va.A
    rw[hf]
    simp only[Int.toNat_natCast]
    have e:(2:Int)^f=((2^f:Nat):Int):=by norm_cast
    have:=Nat.two_pow_pos f
    rw[e];omega
   rcases vF v with ⟨h1,hs⟩|⟨h1,h2,hs⟩|⟨h1,h2,h3,hs⟩|⟨h1,h2,h3,hs⟩
   ·rw[hs]at h;simp at h
   ·rw[hs]at h;simp at h
   ·rw[hs]at h;simp at h
   have g1:=iP.1 h1
   have g2:=iP.1 h2
   have g3:=iP.1 h3
   rw[hA]at g1 g2 g3
   have:=Nat.two_pow_pos f
   refine⟨⟨f,bs,ps,v.sick.toNat,v.nur.toNat,v.fix.toNat⟩,⟨by show 1≤f;omega,by show f≤16;omega,?_,?_,?_,?_,by show v.sick.toNat<2^f;omega,by show v.nur.toNat<2^f;omega,by show v.fix.toNat<2^f;omega⟩,?_⟩
   ·have:=congrArg List.length hbs
    simp only[List.length_map]at this
    show bs.length≤60
    omega
   ·have:=congrArg List.length hps
    simp only[List.length_map]at this
    show ps.length≤20
    omega
   ·intro b hm
    have:=hb' (bI b) (by rw[←hbs];exact List.mem_map_of_mem hm)
    rw[hf]at this
    simp only[bI]at this
    show b.1<f∧b.2<f∧b.1≠b.2
    omega
   ·intro p hm
    have:=hp' (pI p) (by rw[←hps];exact List.mem_map_of_mem hm)
    rw[hf]at this
    simp only[pI]at this
    show p.1≤100∧p.2.1<f∧p.2.2<f∧p.2.1≠p.2.2
    omega
   ·obtain⟨F,vb,vp,s,n,x⟩:=v
    simp only[Vn.v]at *
    rw[hbs,hps,hf]
    simp only[Va.mk.injEq,true_and]
    omega
  ·rw[if_neg hp]at h;exact absurd h hp
 ·rw[if_neg hb]at h;exact absurd h hb
abbrev Vn.c (x:Vn):List AV:=[I x.F,rB (x.bs.map bI),rP (x.ps.map pI),I x.sick,I x.nur,I x.fix]
def orB (s:Nat) (c:Bool) (k:Nat):Nat:=if c then s|||2^k else s
def brd (ill o:Nat) (b:Nat×Nat):Nat:=orB (orB o (ill.testBit b.1) b.2) (ill.testBit b.2) b.1
def plt (cl:Nat) (n:Int) (o:Nat) (p:Nat×Nat×Nat):Nat:=orB o (decide ((p.1:Int)=n)&&(o.testBit p.2.1 && !cl.testBit p.2.2)) p.2.2
def bor (x:Vn) (ill:Nat):Nat:=x.bs.foldl (brd ill) ill
def tQ (x:Vn) (ill cl:Nat) (n:Int):Nat:=x.ps.foldl (plt cl n) (fS (bor x ill) cl)
theorem aBU {s k n:Nat} {c:Bool} (hs:s<2^n) (hk:k<n):orB s c k<2^n:=by
 unfold orB
 split
 ·exact oQ hs hk
 ·exact hs
theorem aKy {ill o n:Nat} {b:Nat×Nat} (ho:o<2^n) (h1:b.1<n) (h2:b.2<n):brd ill o b<2^n:=aBU (aBU ho h2) h1
theorem qZ {α:Type} {f:Nat→α→Nat} {n:Nat}:∀ {l:List α} {o:Nat},(∀ x∈l,∀ o,o<2^n→f o x<2^n)→o<2^n→l.foldl f o<2^n
 | [],_,_,h=>h
 | x::l,o,hf,h=>qZ (l:=l) (o:=f o x) (fun y hy=>hf y (by simp[hy])) (hf x (by simp) o h)
theorem iH {α β:Type} {f:β→α→β} {l:List α} {i:Nat} {x:α} (h:l[i]?=some x) (o:β):(l.take (i+1)).foldl f o=f ((l.take i).foldl f o) x:=by
 rw[List.take_add_one,h];simp
theorem aT {n:Nat} (h:n≤16):2^n≤65536:=Nat.pow_le_pow_right (n:=2) (by omega) h
section
variable {x:Vn} (ok:x.Ok) {ill cl:Nat} {n:Int}
abbrev iO (x:Vn):XH:=[some (.blk true (.cells true x.c))]
def bF (x:Vn) (ill i:Nat):Nat:=(x.bs.take i).foldl (brd ill) ill
include ok in
theorem aBw (hi:ill<2^x.F) (i:Nat):bF x ill i<2^x.F:=qZ (fun b hb o ho=>by
 have:=ok.b b (List.mem_of_mem_take hb)
 exact aKy ho this.1 this.2.1) hi
include ok in
theorem aFx (hill:ill<2^x.F) {i:Nat} (hi:i<x.bs.length) :
 aV 0 [1,2,3,4,9,10] (execW aA 48 0 none (match aCM with | .loop _ a=>a|c=>c) (aR [1,2,3,4,9,10] [I ill,I cl,I n,.pt 0 0,I (bF x ill i:Nat),I (i:Nat)]) (iO x))=some ([I ill,I cl,I n,.pt 0 0,I (bF x ill (i+1):Nat),I (i+1:Nat)],iO x):=by
 obtain⟨b,hx⟩:=bG hi
 have hb:=ok.b b (List.mem_of_getElem? hx)
 have hF:=ok.F16
 have hp:=aT hF
 have a1:=cU hi
 have a2:=eK hi (by have:=ok.nb;omega)
 have l0:=aBw ok hill i
 have up:bF x ill (i+1)=brd ill (bF x ill i) b:=iH hx ill
 rw[up]
 generalize bF x ill i=o at *
 have e1:=w52 (a:=ill) (j:=b.1) (by omega) (by omega)
 have e2:=w52 (a:=ill) (j:=b.2) (by omega) (by omega)
 have s1:=jW bR (i:=b.1) (by omega)
 have s2:=jW bR (i:=b.2) (by omega)
 have n1:((b.1:Int)<0)=False:=eq_false (by omega)
 have n2:((b.2:Int)<0)=False:=eq_false (by omega)
 have p1:(2:Nat)^b.1≤2^16:=Nat.pow_le_pow_right (by omega) (by omega)
 have p2:(2:Nat)^b.2≤2^16:=Nat.pow_le_pow_right (by omega) (by omega)
 have o1:=cH bR (a:=o) (b:=2^b.2) (by omega) (by omega)
 have o1':=oQ (a:=o) (i:=b.2) (n:=x.F) (by omega) hb.2.1
 have o2:=cH bR (a:=o|||2^b.2) (b:=2^b.1) (by omega) (by omega)
 have o3:=cH bR (a:=o) (b:=2^b.1) (by omega) (by omega)
 unfold brd orB
 generalize 2^b.1=q1 at *
 generalize 2^b.2=q2 at *
 cases h1:ill.testBit b.1<;>cases h2:ill.testBit b.2
 all_goals
  rw[h1]at e1
  rw[h2]at e2
  unfold aCM
  dsimp only
  (sym=>(simp[Za,Zb,Zd,Ze,Zf,Zh,Zi,Zl,Zm,Zv,Z3,Z8,Z9,ZA,ZF,ZG,ZH,ZI,ZJ,ZO,ZP,ZT,ZU,Ya,Yc,Yg,Yh,Yj,Yn,Yo,Ys,Yw,Yx,Y8,YA,YD,YP,YX,Xd,Xr,Xs,Xx,W3,W4,W5,WA,WC,WE,WH,WI,WK,WL,WM,WN,WO,WP,WQ,WR,WS,WT,WU,WV,WY,WZ,Vf,Vi,Vj,Vk,VQ,VR,VS,VT,VU,VV,VY,VZ,Ua,Uc,Ud,Uf,Ug,Uh,Ui,Uj,Uk,Uu,Ux,Uy,U2,U3,U4,U5,U6,Tf,Tg,Th,Ti,Tk,Tt,Tu,Tw,Ty,Tz,T2,T5,T6,T7,TK,a1,a2,hx,e1,e2,s1,s2,n1,n2,o1,o2,o3];all_goals tactic=>exact rfl))
def pF (x:Vn) (cl:Nat) (n:Int) (o i:Nat):Nat:=(x.ps.take i).foldl (plt cl n) o
include ok in
theorem aGa {o:Nat} (ho:o<2^x.F) (i:Nat):pF x cl n o i<2^x.F:=qZ (fun p hp o ho=>by
 have:=ok.p p (List.mem_of_mem_take hp)
 exact aBU ho this.2.2.1) ho
include ok in
theorem aFw {o0:Nat} (ho:o0<2^x.F) (hcl:cl<2^x.F) {i:Nat} (hi:i<x.ps.length) :
 aV 0 [2,3,4,9,13] (execW aA 48 0 none (match xO with | .loop _ a=>a|c=>c) (aR [2,3,4,9,13] [I cl,I n,.pt 0 0,I (pF x cl n o0 i:Nat),I (i:Nat)]) (iO x))=some ([I cl,I n,.pt 0 0,I (pF x cl n o0 (i+1):Nat),I (i+1:Nat)],iO x):=by
 obtain⟨p,hx⟩:=bG hi
 have hb:=ok.p p (List.mem_of_getElem? hx)
 have hF:=ok.F16
 have hp:=aT hF
 have a1:=cU hi
 have a2:=eK hi (by have:=ok.np;omega)
 have l0:=aGa (cl:=cl) (n:=n) ok ho i
 have up:pF x cl n o0 (i+1)=plt cl n (pF x cl n o0 i) p:=iH hx o0
 rw[up]
 generalize pF x cl n o0 i=o at *
 have e1:=w52 (a:=o) (j:=p.2.1) (by omega) (by omega)
 have e2:=w52 (a:=cl) (j:=p.2.2) (by omega) (by omega)
 have s1:=jW bR (i:=p.2.2) (by omega)
 have n1:((p.2.2:Int)<0)=False:=eq_false (by omega)
 have p1:(2:Nat)^p.2.2≤2^16:=Nat.pow_le_pow_right (by omega) (by omega)
 have o1:=cH bR (a:=o) (b:=2^p.2.2) (by omega) (by omega)
 unfold plt orB
 generalize 2^p.2.2=q1 at *
 by_cases hn:(p.1:Int)=n
 ·have c1:((p.1:Int)=n)=True:=eq_true hn
  have d1:decide ((p.1:Int)=n)=true:=decide_eq_true hn
  rw[d1]
  cases h1:o.testBit p.2.1
  ·rw[h1]at e1
   unfold xO
   dsimp only
   (sym=>(simp[Za,Zb,Zc,Zd,Ze,Zf,Zg,Zh,Zj,Zl,Zm,Zp,Zq,Zs,Zv,Zw,Zy,Z3,Z8,ZA,ZF,ZG,ZK,ZL,ZO,ZP,ZT,ZU,ZV,ZW,Ya,Yc,Yg,Yh,Yj,Yq,Ys,Yw,Yx,YX,Xd,Xi,Xr,Xs,Xx,Ws,W3,W4,W5,W6,W7,W8,W9,WA,WC,WE,WH,WI,WK,WL,WM,WN,WO,WP,WQ,WR,WS,WT,WU,WV,WY,WZ,Vf,Vi,Vj,Vk,Vv,Vx,Vy,V0,V1,V3,VQ,VR,VS,VT,VU,VV,VY,VZ,Ua,Ub,Uc,Ud,Uf,Ug,Uh,Ui,Uj,Uk,Um,Un,Uo,Uu,Ux,Uy,U2,U3,U4,U5,U6,U7,U8,UF,Tf,Tg,Th,Ti,Tj,Tk,Tl,Tm,Tt,Tu,Tw,Ty,Tz,T2,T5,T6,T7,TK,SD,SE,SF,SI,SJ,SK,a1,a2,hx,e1,c1];all_goals tactic=>exact rfl))
  ·rw[h1]at e1
   cases h2:cl.testBit p.2.2
   all_goals
    rw[h2]at e2
    unfold xO
    dsimp only
    (sym=>(simp[Za,Zb,Zc,Zd,Ze,Zf,Zg,Zh,Zj,Zl,Zm,Zp,Zq,Zv,Zw,Zy,Z3,Z5,Z8,ZA,ZF,ZG,ZK,ZL,ZO,ZP,ZT,ZU,ZV,ZX,Ya,Yc,Yg,Yh,Yj,Yn,Yo,Yq,Ys,Yw,Yx,YX,Xd,Xi,Xr,Xs,Xx,Ws,W3,W4,W5,W6,W7,W8,W9,WA,WC,WE,WH,WI,WK,WL,WM,WN,WO,WP,WQ,WR,WS,WT,WU,WV,WY,WZ,Vf,Vi,Vj,Vk,Vv,Vx,Vy,V0,V1,V3,VQ,VR,VS,VT,VU,VV,VY,VZ,Ua,Ub,Uc,Ud,Uf,Ug,Uh,Ui,Uj,Uk,Um,Uo,Uq,Ur,Uu,Ux,Uy,U2,U3,U4,U5,U6,U7,U8,UF,Tf,Tg,Th,Ti,Tj,Tk,Tl,Tm,Tt,Tu,Tw,Ty,Tz,T2,T5,T6,T7,TK,SD,SE,SF,SI,SJ,SK,a1,a2,hx,e1,e2,c1,s1,n1,o1];all_goals tactic=>exact rfl))
 ·have c1:((p.1:Int)=n)=False:=eq_false hn
  have d1:decide ((p.1:Int)=n)=false:=decide_eq_false hn
  rw[d1]
  unfold xO
  dsimp only
  (sym=>(simp[Za,Zb,Zc,Zd,Ze,Zf,Zg,Zh,Zj,Zl,Zm,Zp,Zs,Zv,Zw,Zy,Z3,Z8,ZA,ZF,ZG,ZK,ZL,ZW,Ya,Yc,Yg,Yh,Yj,Yq,Ys,Yw,Yx,YX,Xd,Xi,Xr,Xx,Ws,W3,W4,W5,W6,W7,W8,W9,WA,WC,WE,WH,WI,WK,WL,WM,WO,WQ,WR,WS,WT,WY,WZ,Vf,Vv,Vx,Vy,V0,V1,V3,VQ,VR,VS,VT,VU,VV,VY,VZ,Ua,Ub,Uc,Ud,Uf,Ug,Uh,Ui,Uj,Uk,Um,Un,Uu,Ux,Uy,Uz,U3,U4,U5,U6,U7,U8,UF,Tf,Tg,Th,Ti,Tj,Tk,Tl,Tm,Tt,Tu,Tw,Ty,Tz,T2,T5,T6,T7,TK,SD,SE,SF,SI,SJ,SK,a1,a2,hx,c1];all_goals tactic=>exact rfl))
include ok in
theorem w48 (hill:ill<2^x.F) (hcl:cl<2^x.F):runW aA 48 [.agg x.c,I ill,I cl,I n] []=some (I (tQ x ill cl n:Nat),[]):=by
 have hp:=aT ok.F16
 have lb:=aBw ok hill x.bs.length
 have eb:bF x ill x.bs.length=bor x ill:=by unfold bF bor;rw[List.take_length]
 have d1:=gJ bR (a:=bor x ill) (b:=cl) (by rw[←eb];omega) (by omega)
 have dl:=iD (bor x ill) cl
 have ep:pF x cl n (fS (bor x ill) cl) x.ps.length=tQ x ill cl n:=by unfold pF tQ;rw[List.take_length]
 have z:=Te (n:=(x.bs.length:Int))
 have z2:=Te (n:=(x.ps.length:Int))
 rw[r48 (by simp)];unfold x48;dsimp only
 sym =>
  simp[Za,Zb,Zf,Zh,Zl,Zo,Zv,Zz,Xi,Xk,Xl,We,Wg,Wi,Ws,WB,VO,VY,Uc,Uh,Um,U7,U8,UD,UE,US,UT,Tn,Tu,Ty,Tz,T6,T7]
  tactic =>
   unfold aCM
   rw[aE x.bs.length (fun i=>[I ill,I cl,I n,.pt 0 0,I (bF x ill i:Nat),I (i:Nat)]) (fun _=>iO x)]
   ·rw[eb]
    rw[eb]at lb
    sym =>
     simp[Za,Zb,Zf,Zh,Zl,Zm,Zv,Z3,Z8,ZF,ZG,Ya,Yc,Ys,W3,W4,W5,WC,VQ,VT,VV,Ui,Uz,Te,Tf,Tg,Tk,Tt,Tu,Tx,Ty,Tz,T0,T4,T6,T7,SC,z,d1]
     tactic =>
      unfold xO
      rw[aE x.ps.length (fun i=>[I cl,I n,.pt 0 0,I (pF x cl n (fS (bor x ill) cl) i:Nat),I (i:Nat)]) (fun _=>iO x)]
      ·rw[ep]
       generalize tQ x ill cl n=r
       (sym=>(simp[Za,Zb,Zf,Zh,Zl,Zm,Zv,Z3,Z8,ZF,ZG,Ya,Yc,Ys,YX,Xr,XJ,We,W3,W4,W5,WC,WK,WO,WQ,WR,WS,Vv,V9,VA,VC,VD,VE,VF,VG,VJ,VK,VL,VM,VQ,VT,VV,Ua,Ud,Uf,Ui,Uz,U3,U4,Te,Tf,Tg,Tk,Tt,Tu,Tv,Tx,Tz,T0,T4,T6,Sw,z2];all_goals tactic=>exact rfl))
      ·(sym=>(simp[Za,Y9,YX,Xd,Xr,Xx,W3,WE,WH,WI,WK,WL,WM,WO,WQ,WR,WS,WT,WY,WZ,Vf,VQ,VR,VS,VZ,Ua,Uc,Ud,Uf,Uk,Ux,U3,U4,U5,U6,T5,TK];all_goals tactic=>exact rfl))
      ·exact fun i hi=>aFw ok (by omega) hcl hi
      ·rw[ep]
       generalize tQ x ill cl n=r
       (sym=>(simp[Za,Zb,Zf,Zh,Zl,Zm,Zv,Z3,Z8,ZF,ZG,Ya,Yc,Ys,W3,W4,W5,WC,VQ,VT,VV,VW,Ui,Uz,Te,Tf,Tg,Tk,Tt,Tu,Tx,Tz,T0,T6,z2];all_goals tactic=>exact rfl))
   ·(sym=>(simp[Za,Y9,YX,Xd,Xr,Xx,W3,WB,WE,WH,WI,WK,WL,WM,WO,WQ,WR,WS,WT,WY,WZ,Vf,VO,VR,VS,VZ,Ua,Uc,Ud,Uf,Uk,Ux,U3,U4,U5,U6,T5,TK];all_goals tactic=>exact rfl))
   ·exact fun i hi=>aFx ok hill hi
   ·(sym=>(simp[Za,Zb,Zf,Zh,Zl,Zm,Zv,Z3,Z8,ZF,ZG,Ya,Yc,Ys,W3,W4,W5,WC,VQ,VT,VV,VW,Ui,Uz,Te,Tf,Tg,Tk,Tt,Tu,Tx,Tz,T0,T6,z];all_goals tactic=>exact rfl))
end
def pO (a i:Nat):List Nat:=(List.range i).filter (a.testBit ·)
theorem aCm (a i:Nat):pO a (i+1)=if a.testBit i then pO a i++[i] else pO a i:=by
 unfold pO
 rw[List.range_succ,List.filter_append]
 cases h:a.testBit i<;>simp[h]
theorem aDy (a i:Nat):(pO a i).length≤i:=by
 have:=List.length_filter_le (fun k=>a.testBit k) (List.range i)
 simpa [pO]using this
theorem uE (ks:List Nat) (k:Nat):dA (ks++[k])=dA ks++[(k:Int)]:=by simp[dA]
theorem aHM {a:Nat} (ha:a<65536) {i:Nat} (hi:i<16) :
 aV 0 [0,3,4] (execW aA 49 0 none (match aAq with | .loop _ a=>a|c=>c) (aR [0,3,4] [I a,oS 0 (dA (pO a i)),I (i:Nat)]) (oG (dA (pO a i))))=some ([I a,oS 0 (dA (pO a (i+1))),I (i+1:Nat)],oG (dA (pO a (i+1)))):=by
 have e:=w52 (a:=a) (j:=i) (by omega) (by omega)
 have a1:((i:Int)<16)=True:=eq_true (by omega)
 have a2:IntKind.i64.wrap ((i:Int)+1)=(i:Int)+1:=aD (by omega) (by omega)
 have hl:=aDy a i
 have hl2:=bZ (pO a i)
 rw[aCm]
 cases h:a.testBit i
 ·rw[h]at e
  simp only[Bool.false_eq_true,if_false]
  generalize dA (pO a i)=os at *
  unfold aAq
  dsimp only
  cases os with
  | nil=>(sym=>(simp[Za,Zb,Zf,Zg,Zh,Zj,Zl,Zm,Zv,Z3,ZO,ZP,ZT,ZU,Yj,Ys,YX,Xe,Xr,Xs,Xy,XJ,We,WA,WK,WN,WO,WP,WR,WS,WU,WV,Vi,Vj,Vk,Vv,Vx,Vy,Vz,VQ,VR,VS,VT,VU,VV,VZ,Ua,Uc,Ud,Uf,Uh,Uy,U2,U3,U4,U5,U6,Tt,Tu,Tw,Ty,Tz,T2,T5,T6,T7,TU,TW,Sw,SD,SE,SG,SI,SJ,SK,e,a1,a2];all_goals tactic=>exact rfl))
  | cons y r=>(sym=>(simp[Za,Zb,Zf,Zg,Zh,Zj,Zl,Zm,Zv,Z3,ZO,ZP,ZT,ZU,Yj,Ys,YX,Xc,Xr,Xs,Xw,XJ,We,W3,WA,WE,WH,WI,WK,WL,WM,WN,WO,WP,WQ,WR,WS,WT,WU,WV,WY,WZ,Vf,Vi,Vj,Vk,Vv,Vx,Vy,Vz,VQ,VR,VS,VT,VU,VV,VZ,Ua,Uc,Ud,Uf,Ug,Uh,Uk,Ux,Uy,U2,U3,U4,U5,U6,Tt,Tu,Tw,Ty,Tz,T2,T5,T6,T7,TK,TV,TX,Sw,SD,SE,SG,SI,SJ,SK,e,a1,a2];all_goals tactic=>exact rfl))
 ·rw[h]at e
  simp only[if_true]
  rw[uE]
  generalize dA (pO a i)=os at *
  unfold aAq
  dsimp only
  cases os with
  | nil=>(sym=>(simp[Za,Zb,Zd,Ze,Zf,Zg,Zh,Zj,Zl,Zm,Zo,Zv,Z1,Z3,ZO,ZP,ZS,ZT,ZU,Yj,Ys,YX,Xc,Xi,Xr,Xs,Xw,XJ,We,Wq,W3,W4,W5,W7,W8,W9,WA,WE,WH,WI,WK,WL,WM,WN,WO,WP,WQ,WR,WS,WT,WU,WV,WY,WZ,Vf,Vi,Vj,Vk,Vv,Vx,Vy,Vz,VQ,VR,VS,VT,VU,VZ,Ua,Ub,Uc,Ud,Uf,Ug,Uh,Uk,Um,Uu,Ux,Uy,U0,U1,U2,U3,U4,U5,U6,U7,U8,UF,UG,UH,UI,UU,UV,UW,UX,UY,UZ,Ta,Tb,Tn,Tq,Tr,Ts,Tt,Tu,Tw,Ty,Tz,T2,T5,T6,T7,TK,TP,TU,TV,TW,TX,Sw,SD,SE,SG,SI,SJ,SK,e,a1,a2];all_goals tactic=>exact rfl))
  | cons y r =>
    have b1:((r.length+1+1)*8≤1099511627776)=True:=eq_true (by simp at hl2;omega)
    have b2:(r.length+1+1≤1099511627776)=True:=eq_true (by simp at hl2;omega)
    (sym=>(simp[Za,Zb,Zd,Ze,Zf,Zg,Zh,Zj,Zl,Zm,Zo,Zv,Z1,Z3,ZO,ZP,ZS,ZT,ZU,Yj,Ys,YX,Xc,Xi,Xr,Xs,Xw,XJ,We,Wq,W3,W4,W5,W6,W7,W8,W9,WA,WE,WH,WI,WK,WL,WM,WN,WO,WP,WQ,WR,WS,WT,WU,WV,WY,WZ,Vf,Vi,Vj,Vk,Vv,Vx,Vy,Vz,VQ,VR,VS,VT,VU,VZ,Ua,Ub,Uc,Ud,Uf,Ug,Uh,Ui,Uk,Um,Uu,Ux,Uy,U0,U1,U2,U3,U4,U5,U6,U7,U8,UF,UG,UH,UI,UU,UV,UW,UX,UY,UZ,Ta,Tc,Td,Tn,Tp,Tq,Tr,Tt,Tu,Tw,Ty,Tz,T2,T5,T6,T7,TG,TH,TI,TK,TP,TV,TX,Sw,SD,SE,SG,SI,SJ,SK,e,a1,a2,b1,b2];all_goals tactic=>exact rfl))
theorem w49 {a:Nat} (ha:a<65536):runW aA 49 [I a] []=some (nL (dA (el a)),[]):=by
 have e16:pO a 16=el a:=rfl
 rw[r49 (by simp)];unfold x49;dsimp only
 sym =>
  simp[Zb,Zf,Zh,Zl,Zv,We,VY,Uh,UD,UE,Tu,Ty,Tz,T7]
  tactic =>
   unfold aAq
   rw[aE 16 (fun i=>[I a,oS 0 (dA (pO a i)),I (i:Nat)]) (fun i=>oG (dA (pO a i)))]
   ·rw[e16]
    generalize dA (el a)=os
    cases os with
    | nil=>(sym=>(simp[Za,Zb,Zf,Zh,Zl,Zm,Zv,Z3,Ys,Xb,Xv,XQ,Wm,WK,WO,WP,WR,WS,Vv,V9,VA,VC,VD,VE,VF,VG,VJ,VK,VL,VM,VQ,VT,VV,Ua,Ud,Uf,Uz,U2,U3,U4,Tt,Tu,Tv,Tx,Tz,T0,T4,T6,T7,TU,TW,Sw,S8];all_goals tactic=>exact rfl))
    | cons y r=>(sym=>(simp[Za,Zb,Zf,Zh,Zl,Zm,Zv,Z3,Ys,Xb,Xv,XO,Wb,Wi,W3,W6,WK,WO,WQ,WR,WS,Vs,Vt,Vu,Vv,Vw,V5,V7,V9,VA,VC,VD,VE,VF,VG,VJ,VK,VL,VM,VQ,VT,VV,VZ,Ua,Ud,Uf,Ug,Ui,Uu,Uz,U3,U4,Tt,Tu,Tv,Tx,Tz,T0,T4,T6,T7,TI,TJ,TL,TV,TX,TY,Sw,Sx,Sy,S8];all_goals tactic=>exact rfl))
   ·have e0:dA (pO a 0)=[]:=rfl
    rw[e0]
    (sym=>(simp[Za,Y9,YX,Xe,Xr,Xy,WB,WK,WO,WP,WR,WS,VO,VR,VS,VZ,Ua,Ud,Uf,U2,U3,U4,U5,U6,T5,TU,TW];all_goals tactic=>exact rfl))
   ·exact fun i hi=>aHM ha hi
   ·rw[e16]
    generalize dA (el a)=os
    cases os with
    | nil=>(sym=>(simp[Za,Zb,Zf,Zh,Zl,Zm,Zv,Z3,Ys,VQ,VT,VV,VW,Uz,Tt,Tu,Tx,Tz,T0,T6,T7,TU,TW,S8];all_goals tactic=>exact rfl))
    | cons y r=>(sym=>(simp[Za,Zb,Zf,Zh,Zl,Zm,Zv,Z3,Ys,VQ,VT,VV,VW,Uz,Tt,Tu,Tx,Tz,T0,T6,T7,TV,TX,S8];all_goals tactic=>exact rfl))
def bC (x:Vn) (cl:Nat):Nat→Nat
 | 0=>fS x.sick cl
 | n+1=>tQ x (bC x cl n) cl (n:Int)
theorem sQ {a b n:Nat} (h:a<2^n):fS a b<2^n:=Nat.lt_of_le_of_lt (iD a b) h
theorem aHF {x:Vn} (ok:x.Ok) {ill cl:Nat} {n:Int} (h:ill<2^x.F):tQ x ill cl n<2^x.F:=by
 have h1:=aBw ok h x.bs.length
 have e1:bF x ill x.bs.length=bor x ill:=by unfold bF bor;rw[List.take_length]
 rw[e1]at h1
 have h2:=aGa (cl:=cl) (n:=n) ok (sQ (b:=cl) h1) x.ps.length
 unfold pF at h2
 rw[List.take_length]at h2
 exact h2
theorem dV {x:Vn} (ok:x.Ok) (cl:Nat):∀ n,bC x cl n<2^x.F
 | 0=>sQ ok.s
 | n+1=>aHF ok (dV ok cl n)
theorem aJi {x:Vn} (ok:x.Ok) {a:Nat} (h:a<2^x.F):a<65536:=Nat.lt_of_lt_of_le h (aT ok.F16)
def prC (c:List Int):Nat→Int
 | 0 => -1
 | i+1=>c.getD i 0
def pU (x:Vn) (c:List Int) (i:Nat):Int:=if btw 0 (c.getD i 0) ((x.F:Int)-1) then (if c.getD i 0≤prC c i then 7 else if x.fix.testBit (c.getD i 0).toNat then 23 else 0) else 5
def dH (c:List Int) (i:Nat):Nat:=(c.take i).foldl (fun s f=>s|||2^f.toNat) 0
theorem zN {c:List Int} {i:Nat} {f:Int} (h:c[i]?=some f):dH c (i+1)=dH c i|||2^f.toNat:=iH h 0
theorem jT (x:Vn) {c:List Int} {i:Nat} {f:Int} (h:c[i]?=some f):(btw 0 f ((x.F:Int)-1)=false∧pU x c i=5)∨(btw 0 f ((x.F:Int)-1)=true∧(f≤prC c i)=True∧pU x c i=7) ∨
 (btw 0 f ((x.F:Int)-1)=true∧(f≤prC c i)=False∧x.fix.testBit f.toNat=true∧pU x c i=23)∨(btw 0 f ((x.F:Int)-1)=true∧(f≤prC c i)=False∧x.fix.testBit f.toNat=false∧pU x c i=0):=by
 unfold pU
 rw[aW h]
 cases btw 0 f ((x.F:Int)-1)
 ·simp
 by_cases h2:f≤prC c i
 ·simp[h2]
 cases x.fix.testBit f.toNat<;>simp[h2]
theorem aBT {c:List Int} {i:Nat} {f:Int} (h:c[i]?=some f):prC c (i+1)=f:=aW h
theorem tY {x:Vn} {c:List Int}:∀ i,(∀ j,j<i→pU x c j=0)→i≤c.length→dH c i<2^x.F
 | 0,_,_=>Nat.two_pow_pos _
 | i+1,h,hl=>by
   obtain⟨f,hf⟩:=bG (l:=c) (i:=i) (by omega)
   have ih:=tY i (fun j hj=>h j (by omega)) (by omega)
   have h0:=h i (by omega)
   rw[zN hf]
   rcases jT x hf with ⟨_,e⟩|⟨_,_,e⟩|⟨_,_,_,e⟩|⟨h1,_,_,_⟩
   ·rw[e]at h0;simp at h0
   ·rw[e]at h0;simp at h0
   ·rw[e]at h0;simp at h0
   ·have:=iP.1 h1
    exact oQ ih (by omega)
section
variable {x:Vn} (ok:x.Ok) {c:List Int} (hc:c.length<1000000000)
include ok hc in
theorem aDb {i:Nat} (hi:i<c.length) (h0:∀ j,j≤i→pU x c j=0) :
 aV 0 [2,7,8,16,17,18] (execW aA 54 0 none (match mG with | .loop _ a=>a|c=>c) (aR [2,7,8,16,17,18] [.pt 0 0,I (dH c i:Nat),I (prC c i),nL c,I c.length,I (i:Nat)]) (iO x))=some ([.pt 0 0,I (dH c (i+1):Nat),I (prC c (i+1)),nL c,I c.length,I (i+1:Nat)],iO x):=by
 obtain⟨f,hf⟩:=bG hi
 have a1:=cU hi
 have a2:=eK hi (by omega)
 have hF:=ok.F16
 have hF1:=ok.F1
 have hp:=aT hF
 have u:IntKind.i64.wrap ((x.F:Int)-1)=(x.F:Int)-1:=aD (by omega) (by omega)
 have e1:=w45 0 f ((x.F:Int)-1)
 have sl:=tY (x:=x) i (fun j hj=>h0 j (by omega)) (by omega)
 rcases jT x hf with ⟨_,e⟩|⟨_,_,e⟩|⟨_,_,_,e⟩|⟨h1,h2,h3,_⟩
 ·rw[h0 i (by omega)]at e;simp at e
 ·rw[h0 i (by omega)]at e;simp at e
 ·rw[h0 i (by omega)]at e;simp at e
 rw[h1]at e1
 have hb:=iP.1 h1
 rw[zN hf,aBT hf]
 obtain⟨k,rfl⟩:∃ k:Nat,f=k:=⟨f.toNat,by omega⟩
 simp only[Int.toNat_natCast]at h3 ⊢
 have e2:=oH (a:=x.fix) (j:=k) (by have:=ok.f;omega) (by omega)
 rw[h3]at e2
 have e3:=w62 (j:=k) (by omega)
 have p1:(2:Nat)^k≤2^16:=Nat.pow_le_pow_right (by omega) (by omega)
 have o1:=cH bR (a:=dH c i) (b:=2^k) (by omega) (by omega)
 generalize dH c i=q at *
 generalize 2^k=q1 at *
 generalize prC c i=pr at *
 unfold mG
 dsimp only
 (sym=>(simp[Za,Zb,Zf,Zg,Zh,Zj,Zl,Zm,Zv,Z3,Z5,Z8,ZA,ZG,ZO,ZP,ZT,ZU,ZX,Ya,Yg,Yh,Yj,Yk,Yn,Ys,Yt,Yw,Yx,YX,Xb,Xd,Xr,Xs,Xv,Xx,W3,W4,W5,WA,WC,WE,WH,WI,WK,WL,WM,WN,WO,WP,WQ,WR,WS,WT,WU,WV,WY,WZ,Vf,Vi,Vj,Vk,Vv,Vx,Vy,V0,V1,V3,VQ,VR,VS,VT,VU,VV,VZ,Ua,Uc,Ud,Uf,Ug,Uh,Ui,Uj,Uk,Uq,Uu,Ux,Uy,Uz,U2,U3,U4,U5,U6,Tf,Tg,Th,Ti,Tk,Tt,Tu,Tw,Ty,Tz,T2,T5,T6,T7,TK,SD,SE,SF,SI,SJ,SK,a1,a2,hf,u,e1,e2,e3,h2,o1];all_goals tactic=>exact rfl))
include ok in
theorem aJW {i:Nat} (hi:i<c.length) (h0:pU x c i≠0) (q:Nat):∃ e h,
 execW aA 54 0 none (match mG with | .loop _ a=>a|c=>c) (aR [2,7,8,16,17,18] [.pt 0 0,I q,I (prC c i),nL c,I c.length,I (i:Nat)]) (iO x)=some (.ret,e,h)∧bA none x54.res x54.ownR 0 (some (.ret,e,h))=some (.tup [I 0,I (pU x c i)],[]):=by
 obtain⟨f,hf⟩:=bG hi
 have a1:=cU hi
 have hF:=ok.F16
 have hF1:=ok.F1
 have hp:=aT hF
 have u:IntKind.i64.wrap ((x.F:Int)-1)=(x.F:Int)-1:=aD (by omega) (by omega)
 have e1:=w45 0 f ((x.F:Int)-1)
 rcases jT x hf with ⟨h1,e⟩|⟨h1,h2,e⟩|⟨h1,h2,h3,e⟩|⟨h1,h2,h3,e⟩
 ·rw[e];rw[h1]at e1
  refine bY ?_ ?_
  ·unfold mG;dsimp only; (sym=>(simp[Za,Zb,Zf,Zh,Zl,Zm,Zv,Z3,Z5,Z8,ZA,ZG,ZO,ZP,ZT,ZU,ZX,Ya,Yg,Yh,Yk,Ys,Yw,Yx,YX,Xr,Xs,W3,W4,W5,WA,WC,WK,WN,WP,WU,WV,Vi,Vj,Vk,VQ,VT,VU,VX,VZ,Ua,Uc,Ud,Ug,Uh,Ui,Uj,Uk,Ur,Uu,Uy,U2,U3,U4,U5,U6,Tf,Tg,Th,Ti,Tk,Tt,Tu,Tv,Tw,Ty,Tz,T1,T3,T6,T7,a1,hf,u,e1];all_goals tactic=>exact rfl))
  ·unfold mG;dsimp only; (sym=>(simp[Za,Zb,Zf,Zh,Zl,Zm,Zv,Z3,Z5,Z8,ZA,ZG,ZO,ZP,ZT,ZU,ZX,Ya,Yg,Yh,Yk,Ys,Yw,Yx,YX,Xr,Xs,W3,W4,W5,WA,WC,WK,WN,WP,WU,WV,Vi,Vj,Vk,V9,VF,VQ,VT,VU,VZ,Ua,Uc,Ud,Ug,Uh,Ui,Uj,Uk,Ur,Uu,Uy,U2,U3,U4,U5,U6,Tf,Tg,Th,Ti,Tk,Tt,Tu,Tv,Tw,Ty,Tz,T1,T3,T6,T7,a1,hf,u,e1];all_goals tactic=>exact rfl))
 ·rw[e];rw[h1]at e1
  generalize prC c i=pr at *
  refine bY ?_ ?_
  ·unfold mG;dsimp only; (sym=>(simp[Za,Zb,Zf,Zh,Zl,Zm,Zv,Z3,Z5,Z8,ZA,ZG,ZO,ZP,ZT,ZU,ZX,Ya,Yg,Yh,Yk,Ys,Yt,Yw,Yx,YX,Xr,Xs,W3,W4,W5,WA,WC,WK,WN,WP,WU,WV,Vi,Vj,Vk,VQ,VT,VU,VV,VX,VZ,Ua,Uc,Ud,Ug,Uh,Ui,Uj,Uk,Uq,Uu,Uy,U2,U3,U4,U5,U6,Tf,Tg,Th,Ti,Tk,Tt,Tu,Tv,Tw,Ty,Tz,T1,T3,T6,T7,a1,hf,u,e1,h2];all_goals tactic=>exact rfl))
  ·unfold mG;dsimp only; (sym=>(simp[Za,Zb,Zf,Zh,Zl,Zm,Zv,Z3,Z5,Z8,ZA,ZG,ZO,ZP,ZT,ZU,ZX,Ya,Yg,Yh,Yk,Ys,Yt,Yw,Yx,YX,Xr,Xs,W3,W4,W5,WA,WC,WK,WN,WP,WU,WV,Vi,Vj,Vk,V9,VF,VQ,VT,VU,VV,VZ,Ua,Uc,Ud,Ug,Uh,Ui,Uj,Uk,Uq,Uu,Uy,U2,U3,U4,U5,U6,Tf,Tg,Th,Ti,Tk,Tt,Tu,Tv,Tw,Ty,Tz,T1,T3,T6,T7,a1,hf,u,e1,h2];all_goals tactic=>exact rfl))
 ·rw[e];rw[h1]at e1
  have hb:=iP.1 h1
  obtain⟨k,rfl⟩:∃ k:Nat,f=k:=⟨f.toNat,by omega⟩
  simp only[Int.toNat_natCast]at h3
  have e2:=oH (a:=x.fix) (j:=k) (by have:=ok.f;omega) (by omega)
  rw[h3]at e2
  generalize prC c i=pr at *
  refine bY ?_ ?_
  ·unfold mG;dsimp only; (sym=>(simp[Za,Zb,Zf,Zg,Zh,Zj,Zl,Zm,Zv,Z3,Z5,Z8,ZA,ZG,ZO,ZP,ZT,ZU,ZX,Ya,Yg,Yh,Yk,Ys,Yt,Yw,Yx,YX,Xr,Xs,W3,W4,W5,WA,WC,WK,WN,WP,WU,WV,Vi,Vj,Vk,Vv,Vx,Vy,V0,V1,V3,VQ,VT,VU,VV,VX,VZ,Ua,Uc,Ud,Ug,Uh,Ui,Uj,Uk,Uq,Uu,Uy,Uz,U2,U3,U4,U5,U6,Tf,Tg,Th,Ti,Tk,Tt,Tu,Tv,Tw,Ty,Tz,T1,T3,T6,T7,SD,SE,SF,SI,SJ,SK,a1,hf,u,e1,h2,e2];all_goals tactic=>exact rfl))
  ·unfold mG;dsimp only; (sym=>(simp[Za,Zb,Zf,Zg,Zh,Zj,Zl,Zm,Zv,Z3,Z5,Z8,ZA,ZG,ZO,ZP,ZT,ZU,ZX,Ya,Yg,Yh,Yk,Ys,Yt,Yw,Yx,YX,Xr,Xs,W3,W4,W5,WA,WC,WK,WN,WP,WU,WV,Vi,Vj,Vk,Vv,Vx,Vy,V0,V1,V3,V9,VF,VQ,VT,VU,VV,VZ,Ua,Uc,Ud,Ug,Uh,Ui,Uj,Uk,Uq,Uu,Uy,Uz,U2,U3,U4,U5,U6,Tf,Tg,Th,Ti,Tk,Tt,Tu,Tv,Tw,Ty,Tz,T1,T3,T6,T7,SD,SE,SF,SI,SJ,SK,a1,hf,u,e1,h2,e2];all_goals tactic=>exact rfl))
 ·exact absurd e h0
end
abbrev iZ (x:Vn) (c:List Int):Int:=cB (pU x c) c.length
theorem aHn {x:Vn} (ok:x.Ok) {c:List Int} (hc:c.length<1000000000) (h23:runW aA 23 [.agg x.c] []=some (I 0,[])) :
 runW aA 54 [.agg x.c,nL c] []=some (.tup (if iZ x c=0 then [I (dH c c.length:Nat),I 0] else [I 0,I (iZ x c)]),[]):=by
 have z:=Te (n:=(c.length:Int))
 have p0:prC c 0 = -1:=rfl
 have s0:dH c 0=0:=rfl
 obtain⟨m,m1,m2,m3⟩:=cN (pU x c) c.length
 rw[r54 (by simp)];unfold x54;dsimp only
 sym =>
  simp[Za,Zb,Zf,Zg,Zh,Zj,Zl,Zm,Zo,Zv,Zz,Z3,ZF,ZG,ZO,ZP,ZT,ZU,Yc,Yr,YX,YZ,Xb,Xi,Xk,Xl,Xr,Xt,Xv,We,Wg,Wi,Ws,W3,W4,W5,W7,W8,W9,WA,WB,WK,WN,WP,WU,WV,Vi,Vj,Vk,Vv,Vx,Vy,V0,V1,V3,VO,VT,VV,VY,VZ,Ua,Uc,Ud,Ug,Uh,Ui,Um,Uq,Uy,U2,U3,U4,U5,U6,U7,U8,UD,UE,US,UT,Tf,Tg,Tj,Tn,Tt,Tu,Tw,Ty,Tz,T6,T7,SD,SE,SF,SI,SJ,SK,h23]
  tactic =>
   rcases m3 with ⟨rfl,e⟩|⟨m3,m4,e⟩
   ·rw[if_pos e]
    unfold mG
    rw[aE c.length (fun i=>[.pt 0 0,I (dH c i:Nat),I (prC c i),nL c,I c.length,I (i:Nat)]) (fun _=>iO x)]
    ·generalize dH c c.length=q at *
     generalize prC c c.length=pr at *
     (sym=>(simp[Za,Zb,Zf,Zh,Zl,Zm,Zv,Z3,Ys,YX,Xa,Xr,Xu,XJ,XM,We,Wh,WK,WO,WQ,WR,WS,Vv,V9,VA,VC,VD,VE,VF,VI,VJ,VK,VL,VM,VQ,VT,VV,Ua,Ud,Uf,Uz,U3,U4,U5,U6,U9,UA,UD,UE,Te,Tt,Tu,Tv,Tx,Tz,T0,T4,T6,T7,Sw,z];all_goals tactic=>exact rfl))
    ·rw[p0,s0]; (sym=>(simp[Za,Y9,YX,Xb,Xd,Xr,Xv,Xx,W3,WE,WH,WI,WK,WL,WM,WO,WQ,WR,WS,WT,WY,WZ,Vf,VR,VS,VZ,Ua,Uc,Ud,Uf,Uk,Ux,U3,U4,U5,U6,T5,TK];all_goals tactic=>exact rfl))
    ·exact fun i hi=>aDb ok hc hi fun j hj=>m2 j (by omega)
    ·generalize dH c c.length=q at *
     generalize prC c c.length=pr at *
     (sym=>(simp[Za,Zb,Zf,Zh,Zl,Zm,Z3,Ys,VQ,VT,VV,VW,Uz,Te,Tt,Tu,Tx,Tz,T0,T6,z];all_goals tactic=>exact rfl))
   ·rw[if_neg (by rw[e];exact m4),e]
    obtain⟨eo,ho,q1,q2⟩:=aJW ok m3 m4 (dH c m)
    unfold mG at q1 ⊢
    rw[aE m (fun i=>[.pt 0 0,I (dH c i:Nat),I (prC c i),nL c,I c.length,I (i:Nat)]) (fun _=>iO x)]
    ·dsimp only at q1;rw[q1];exact q2
    ·rw[p0,s0]; (sym=>(simp[Za,Y9,YX,Xb,Xd,Xr,Xv,Xx,W3,WE,WH,WI,WK,WL,WM,WO,WQ,WR,WS,WT,WY,WZ,Vf,VR,VS,VZ,Ua,Uc,Ud,Uf,Uk,Ux,U3,U4,U5,U6,T5,TK];all_goals tactic=>exact rfl))
    ·exact fun i hi=>aDb ok hc (by omega) fun j hj=>m2 j (by omega)
    ·dsimp only at q1;rw[q1];rfl
theorem aLb {v:Va} {c:List Int} (hb:v.bs.length<1000000000) (hp:v.ps.length<1000000000) (hv:vE v≠0):runW aA 54 [.agg v.c,nL c] []=some (.tup [I 0,I (vE v)],[]):=by
 have e:=w23 v hb hp
 have n0:=vW hv
 generalize vE v=er at *
 rw[r54 (by simp)];unfold x54;dsimp only
 (sym=>(simp[Za,Zb,Zf,Zg,Zh,Zj,Zl,Zm,Zo,Zv,Zz,Z3,ZG,ZO,ZP,ZT,ZU,Yr,YX,YZ,Xa,Xb,Xi,Xk,Xl,Xr,Xt,Xu,Xv,XJ,XM,We,Wg,Wh,Wi,Ws,W3,W4,W5,W7,W8,W9,WA,WB,WK,WN,WO,WP,WQ,WR,WS,WU,WV,Vi,Vj,Vk,Vv,Vx,Vy,V0,V1,V3,V9,VA,VC,VD,VE,VF,VI,VJ,VK,VL,VM,VO,VT,VU,VY,VZ,Ua,Uc,Ud,Uf,Ug,Uh,Um,Ur,Uz,U2,U3,U4,U5,U6,U7,U8,U9,UA,UD,UE,US,UT,Tf,Tg,Tj,Tn,Tt,Tu,Tv,Tz,T1,T6,T7,Sw,SD,SE,SF,SI,SJ,SK,e,n0];all_goals tactic=>exact rfl))
theorem aLa {v:Va} {c:List Int} (hb:v.bs.length<1000000000) (hp:v.ps.length<1000000000) (hv:vE v≠0):runW aA 55 [.agg v.c,nL c] []=some (.tup [I 0,I (vE v)],[]):=by
 have e:=w24 v hb hp
 have n0:=vW hv
 generalize vE v=er at *
 rw[r55 (by simp)];unfold x55;dsimp only
 (sym=>(simp[Za,Zb,Zf,Zg,Zh,Zj,Zl,Zm,Zo,Zv,Zz,Z3,ZG,ZO,ZP,ZT,ZU,Yr,YX,YZ,Xa,Xb,Xi,Xk,Xl,Xr,Xt,Xu,Xv,XJ,XM,We,Wg,Wh,Wi,Ws,W3,W4,W5,W7,W8,W9,WA,WB,WK,WN,WO,WP,WQ,WR,WS,WU,WV,Vi,Vj,Vk,Vv,Vx,Vy,V0,V1,V3,V9,VA,VC,VD,VE,VF,VI,VJ,VK,VL,VM,VO,VT,VU,VY,VZ,Ua,Uc,Ud,Uf,Ug,Uh,Um,Ur,Uz,U2,U3,U4,U5,U6,U7,U8,U9,UA,UD,UE,US,UT,Tf,Tg,Tj,Tn,Tt,Tu,Tv,Tz,T1,T6,T7,Sw,SD,SE,SF,SI,SJ,SK,e,n0];all_goals tactic=>exact rfl))
section
variable {x:Vn} (ok:x.Ok) {c:List Int} (hc:c.length<1000000000)
include ok hc in
theorem aDa {i:Nat} (hi:i<c.length) (h0:∀ j,j≤i→pU x c j=0) :
 aV 0 [1,2,7,8] (execW aA 55 0 none (match iU with | .loop _ a=>a|c=>c) (aR [1,2,7,8] [nL c,.pt 0 0,I (dH c i:Nat),I (i:Nat)]) (iO x))=some ([nL c,.pt 0 0,I (dH c (i+1):Nat),I (i+1:Nat)],iO x):=by
 obtain⟨f,hf⟩:=bG hi
 have a1:=cU hi
 have a2:=eK hi (by omega)
 have hF:=ok.F16
 have hF1:=ok.F1
 have hp:=aT hF
 have u:IntKind.i64.wrap ((x.F:Int)-1)=(x.F:Int)-1:=aD (by omega) (by omega)
 have e1:=w47 0 f ((x.F:Int)-1)
 have sl:=tY (x:=x) i (fun j hj=>h0 j (by omega)) (by omega)
 rcases jT x hf with ⟨_,e⟩|⟨_,_,e⟩|⟨_,_,_,e⟩|⟨h1,h2,h3,_⟩
 ·rw[h0 i (by omega)]at e;simp at e
 ·rw[h0 i (by omega)]at e;simp at e
 ·rw[h0 i (by omega)]at e;simp at e
 rw[h1]at e1
 have hb:=iP.1 h1
 rw[zN hf]
 obtain⟨k,rfl⟩:∃ k:Nat,f=k:=⟨f.toNat,by omega⟩
 simp only[Int.toNat_natCast]at h3 ⊢
 have e2:=w52 (a:=x.fix) (j:=k) (by have:=ok.f;omega) (by omega)
 rw[h3]at e2
 have e3:=jW bR (i:=k) (by omega)
 have n1:((k:Int)<0)=False:=eq_false (by omega)
 have p1:(2:Nat)^k≤2^16:=Nat.pow_le_pow_right (by omega) (by omega)
 have o1:=cH bR (a:=dH c i) (b:=2^k) (by omega) (by omega)
 generalize dH c i=q at *
 generalize 2^k=q1 at *
 unfold iU
 dsimp only
 cases i with
 | zero =>
   have a1:((0:Int)<(c.length:Int))=True:=a1
   have a2:IntKind.i64.wrap ((0:Int)+1)=(0:Int)+1:=a2
   (sym=>(simp[Za,Zb,Ze,Zf,Zg,Zh,Zi,Zk,Zl,Zm,Zp,Zs,Zv,Zy,Z3,Z5,Z8,ZA,ZF,ZG,ZH,ZI,ZJ,ZM,ZQ,ZR,ZT,ZU,ZW,ZX,Ya,Yc,Yg,Yh,Yj,Yk,Yn,Yo,Ys,Yu,Yx,Yz,Y8,Y9,YB,YX,Xb,Xd,Xr,Xs,Xv,Xx,W3,W4,W5,WA,WC,WE,WH,WI,WK,WL,WM,WN,WO,WP,WQ,WR,WS,WT,WU,WV,WY,WZ,Vf,Vi,Vj,Vk,Vm,Vp,Vq,Vv,Vx,Vy,V0,V1,V3,VQ,VR,VS,VT,VU,VV,VZ,Ua,Uc,Ud,Uf,Ug,Uh,Ui,Uj,Uk,Um,Uq,Ur,Us,Ut,Uu,Ux,Uy,Uz,U0,U1,U2,U3,U4,U5,U6,Tf,Tg,Th,Ti,Tk,Tt,Tu,Tw,Ty,Tz,T2,T5,T6,T7,TK,SD,SE,SF,SI,SJ,SK,a1,hf,u,e1,e2,e3,n1,o1];all_goals tactic=>exact rfl))
 | succ j =>
   obtain⟨y,hy⟩:=bG (l:=c) (i:=j) (by omega)
   rw[aBT hy]at h2
   have a3:((0:Int)<((j+1:Nat):Int))=True:=eq_true (by omega)
   have a4:IntKind.i64.wrap (((j+1:Nat):Int)-1)=(j:Int):=by rw[aD (by omega) (by omega)];omega
   have a5:((j:Int)<(c.length:Int))=True:=eq_true (by omega)
   generalize j+1=i at *
   (sym=>(simp[Za,Zb,Ze,Zf,Zg,Zh,Zi,Zk,Zl,Zm,Zp,Zq,Zv,Zy,Z3,Z5,Z8,ZA,ZF,ZG,ZH,ZI,ZJ,ZM,ZQ,ZR,ZT,ZU,ZV,ZX,Ya,Yc,Yg,Yh,Yj,Yk,Yn,Yo,Ys,Yt,Yu,Yw,Yx,YX,Xb,Xd,Xr,Xs,Xv,Xx,W3,W4,W5,WA,WC,WE,WH,WI,WK,WL,WM,WN,WO,WP,WQ,WR,WS,WT,WU,WV,WY,WZ,Vf,Vi,Vj,Vk,Vm,Vp,Vq,Vv,Vx,Vy,V0,V1,V3,VQ,VR,VS,VT,VU,VV,VZ,Ua,Uc,Ud,Uf,Ug,Uh,Ui,Uj,Uk,Um,Uq,Ur,Us,Ut,Uu,Ux,Uy,Uz,U0,U1,U2,U3,U4,U5,U6,Tf,Tg,Th,Ti,Tk,Tt,Tu,Tw,Ty,Tz,T2,T5,T6,T7,TK,SD,SE,SF,SI,SJ,SK,a1,a2,a3,a4,a5,hf,hy,u,e1,e2,e3,n1,h2,o1];all_goals tactic=>exact rfl))
include ok in
theorem aJV {i:Nat} (hi:i<c.length) (hc:c.length<1000000000) (h0:pU x c i≠0) (q:Nat):∃ e h,
 execW aA 55 0 none (match iU with | .loop _ a=>a|c=>c) (aR [1,2,7,8] [nL c,.pt 0 0,I q,I (i:Nat)]) (iO x)=some (.ret,e,h)∧bA none x55.res x55.ownR 0 (some (.ret,e,h))=some (.tup [I 0,I (pU x c i)],[]):=by
 obtain⟨f,hf⟩:=bG hi
 have a1:=cU hi
 have hF:=ok.F16
 have hF1:=ok.F1
 have hp:=aT hF
 have u:IntKind.i64.wrap ((x.F:Int)-1)=(x.F:Int)-1:=aD (by omega) (by omega)
 have e1:=w47 0 f ((x.F:Int)-1)
 have hce:=jT x hf
 cases i with
 | zero =>
   have a1:((0:Int)<(c.length:Int))=True:=a1
   have p0:prC c 0 = -1:=rfl
   rcases hce with ⟨h1,e⟩|⟨h1,h2,e⟩|⟨h1,h2,h3,e⟩|⟨h1,h2,h3,e⟩
   ·rw[e];rw[h1]at e1
    refine bY ?_ ?_
    ·unfold iU;dsimp only; (sym=>(simp[Za,Zb,Ze,Zf,Zh,Zi,Zl,Zm,Zv,Z3,Z5,Z8,ZA,ZF,ZH,ZI,ZJ,ZM,ZQ,ZR,ZT,ZU,ZX,Ya,Yc,Yg,Yh,Yk,Ys,Y8,Y9,YX,Xr,Xs,W3,W4,W5,WA,WC,WK,WN,WP,WU,WV,Vi,Vj,Vk,Vm,Vp,Vq,VQ,VT,VU,VX,VZ,Ua,Uc,Ud,Ug,Uh,Ui,Uj,Uk,Um,Ur,Us,Ut,Uu,Uy,U0,U1,U2,U3,U4,U5,U6,Tf,Tg,Th,Ti,Tk,Tt,Tu,Tv,Tw,Ty,Tz,T1,T3,T6,T7,a1,hf,u,e1];all_goals tactic=>exact rfl))
    ·unfold iU;dsimp only; (sym=>(simp[Za,Zb,Ze,Zf,Zh,Zi,Zl,Zm,Zv,Z3,Z5,Z8,ZA,ZF,ZH,ZI,ZJ,ZM,ZQ,ZR,ZT,ZU,ZX,Ya,Yc,Yg,Yh,Yk,Ys,Y8,Y9,YX,Xr,Xs,W3,W4,W5,WA,WC,WK,WN,WP,WU,WV,Vi,Vj,Vk,Vm,Vp,Vq,V9,VF,VQ,VT,VU,VZ,Ua,Uc,Ud,Ug,Uh,Ui,Uj,Uk,Um,Ur,Us,Ut,Uu,Uy,U0,U1,U2,U3,U4,U5,U6,Tf,Tg,Th,Ti,Tk,Tt,Tu,Tv,Tw,Ty,Tz,T1,T3,T6,T7,a1,hf,u,e1];all_goals tactic=>exact rfl))
   ·have hb:=iP.1 h1
    have:=of_eq_true h2
    rw[p0]at this
    omega
   ·rw[e];rw[h1]at e1
    have hb:=iP.1 h1
    obtain⟨k,rfl⟩:∃ k:Nat,f=k:=⟨f.toNat,by omega⟩
    simp only[Int.toNat_natCast]at h3
    have e2:=w52 (a:=x.fix) (j:=k) (by have:=ok.f;omega) (by omega)
    rw[h3]at e2
    refine bY ?_ ?_
    ·unfold iU;dsimp only; (sym=>(simp[Za,Zb,Ze,Zf,Zg,Zh,Zi,Zk,Zl,Zm,Zp,Zs,Zv,Zy,Z3,Z5,Z8,ZA,ZF,ZH,ZI,ZJ,ZM,ZQ,ZR,ZT,ZU,ZW,ZX,Ya,Yc,Yg,Yh,Yk,Ys,Yu,Y8,Y9,YX,Xr,Xs,W3,W4,W5,WA,WC,WK,WN,WP,WU,WV,Vi,Vj,Vk,Vm,Vp,Vq,Vv,Vx,Vy,V0,V1,V3,VQ,VT,VU,VV,VX,VZ,Ua,Uc,Ud,Ug,Uh,Ui,Uj,Uk,Um,Uq,Ur,Us,Ut,Uu,Uy,Uz,U0,U1,U2,U3,U4,U5,U6,Tf,Tg,Th,Ti,Tk,Tt,Tu,Tv,Tw,Ty,Tz,T1,T3,T6,T7,SD,SE,SF,SI,SJ,SK,a1,hf,u,e1,e2];all_goals tactic=>exact rfl))
    ·unfold iU;dsimp only; (sym=>(simp[Za,Zb,Ze,Zf,Zg,Zh,Zi,Zk,Zl,Zm,Zp,Zs,Zv,Zy,Z3,Z5,Z8,ZA,ZF,ZH,ZI,ZJ,ZM,ZQ,ZR,ZT,ZU,ZW,ZX,Ya,Yc,Yg,Yh,Yk,Ys,Yu,Y8,Y9,YX,Xr,Xs,W3,W4,W5,WA,WC,WK,WN,WP,WU,WV,Vi,Vj,Vk,Vm,Vp,Vq,Vv,Vx,Vy,V0,V1,V3,V9,VF,VQ,VT,VU,VV,VZ,Ua,Uc,Ud,Ug,Uh,Ui,Uj,Uk,Um,Uq,Ur,Us,Ut,Uu,Uy,Uz,U0,U1,U2,U3,U4,U5,U6,Tf,Tg,Th,Ti,Tk,Tt,Tu,Tv,Tw,Ty,Tz,T1,T3,T6,T7,SD,SE,SF,SI,SJ,SK,a1,hf,u,e1,e2];all_goals tactic=>exact rfl))
   ·exact absurd e h0
 | succ j =>
   obtain⟨y,hy⟩:=bG (l:=c) (i:=j) (by omega)
   rw[aBT hy]at hce
   have a3:((0:Int)<((j+1:Nat):Int))=True:=eq_true (by omega)
   have a4:IntKind.i64.wrap (((j+1:Nat):Int)-1)=(j:Int):=by rw[aD (by omega) (by omega)];omega
   have a5:((j:Int)<(c.length:Int))=True:=eq_true (by omega)
   generalize j+1=i at *
   rcases hce with ⟨h1,e⟩|⟨h1,h2,e⟩|⟨h1,h2,h3,e⟩|⟨h1,h2,h3,e⟩
   ·rw[e];rw[h1]at e1
    refine bY ?_ ?_
    ·unfold iU;dsimp only; (sym=>(simp[Za,Zb,Ze,Zf,Zh,Zi,Zl,Zm,Zv,Z3,Z5,Z8,ZA,ZF,ZH,ZI,ZJ,ZM,ZQ,ZR,ZT,ZU,ZX,Ya,Yc,Yg,Yh,Yk,Ys,Yw,Yx,YX,Xr,Xs,W3,W4,W5,WA,WC,WK,WN,WP,WU,WV,Vi,Vj,Vk,Vm,Vp,Vq,VQ,VT,VU,VX,VZ,Ua,Uc,Ud,Ug,Uh,Ui,Uj,Uk,Um,Ur,Us,Ut,Uu,Uy,U0,U1,U2,U3,U4,U5,U6,Tf,Tg,Th,Ti,Tk,Tt,Tu,Tv,Tw,Ty,Tz,T1,T3,T6,T7,a1,hf,u,e1];all_goals tactic=>exact rfl))
    ·unfold iU;dsimp only; (sym=>(simp[Za,Zb,Ze,Zf,Zh,Zi,Zl,Zm,Zv,Z3,Z5,Z8,ZA,ZF,ZH,ZI,ZJ,ZM,ZQ,ZR,ZT,ZU,ZX,Ya,Yc,Yg,Yh,Yk,Ys,Yw,Yx,YX,Xr,Xs,W3,W4,W5,WA,WC,WK,WN,WP,WU,WV,Vi,Vj,Vk,Vm,Vp,Vq,V9,VF,VQ,VT,VU,VZ,Ua,Uc,Ud,Ug,Uh,Ui,Uj,Uk,Um,Ur,Us,Ut,Uu,Uy,U0,U1,U2,U3,U4,U5,U6,Tf,Tg,Th,Ti,Tk,Tt,Tu,Tv,Tw,Ty,Tz,T1,T3,T6,T7,a1,hf,u,e1];all_goals tactic=>exact rfl))
   ·rw[e];rw[h1]at e1
    refine bY ?_ ?_
    ·unfold iU;dsimp only; (sym=>(simp[Za,Zb,Ze,Zf,Zh,Zi,Zl,Zm,Zp,Zq,Zv,Zy,Z3,Z5,Z8,ZA,ZF,ZH,ZI,ZJ,ZM,ZQ,ZR,ZT,ZU,ZV,ZX,Ya,Yc,Yg,Yh,Yk,Ys,Yt,Yu,Yw,Yx,YX,Xr,Xs,W3,W4,W5,WA,WC,WK,WN,WP,WU,WV,Vi,Vj,Vk,Vm,Vp,Vq,VQ,VT,VU,VV,VX,VZ,Ua,Uc,Ud,Ug,Uh,Ui,Uj,Uk,Um,Uq,Ur,Us,Ut,Uu,Uy,U0,U1,U2,U3,U4,U5,U6,Tf,Tg,Th,Ti,Tk,Tt,Tu,Tv,Tw,Ty,Tz,T1,T3,T6,T7,a1,a3,a4,a5,hf,hy,u,e1,h2];all_goals tactic=>exact rfl))
    ·unfold iU;dsimp only; (sym=>(simp[Za,Zb,Ze,Zf,Zh,Zi,Zl,Zm,Zp,Zq,Zv,Zy,Z3,Z5,Z8,ZA,ZF,ZH,ZI,ZJ,ZM,ZQ,ZR,ZT,ZU,ZV,ZX,Ya,Yc,Yg,Yh,Yk,Ys,Yt,Yu,Yw,Yx,YX,Xr,Xs,W3,W4,W5,WA,WC,WK,WN,WP,WU,WV,Vi,Vj,Vk,Vm,Vp,Vq,V9,VF,VQ,VT,VU,VV,VZ,Ua,Uc,Ud,Ug,Uh,Ui,Uj,Uk,Um,Uq,Ur,Us,Ut,Uu,Uy,U0,U1,U2,U3,U4,U5,U6,Tf,Tg,Th,Ti,Tk,Tt,Tu,Tv,Tw,Ty,Tz,T1,T3,T6,T7,a1,a3,a4,a5,hf,hy,u,e1,h2];all_goals tactic=>exact rfl))
   ·rw[e];rw[h1]at e1
    have hb:=iP.1 h1
    obtain⟨k,rfl⟩:∃ k:Nat,f=k:=⟨f.toNat,by omega⟩
    simp only[Int.toNat_natCast]at h3
    have e2:=w52 (a:=x.fix) (j:=k) (by have:=ok.f;omega) (by omega)
    rw[h3]at e2
    refine bY ?_ ?_
    ·unfold iU;dsimp only; (sym=>(simp[Za,Zb,Ze,Zf,Zg,Zh,Zi,Zk,Zl,Zm,Zp,Zq,Zv,Zy,Z3,Z5,Z8,ZA,ZF,ZH,ZI,ZJ,ZM,ZQ,ZR,ZT,ZU,ZV,ZX,Ya,Yc,Yg,Yh,Yk,Ys,Yt,Yu,Yw,Yx,YX,Xr,Xs,W3,W4,W5,WA,WC,WK,WN,WP,WU,WV,Vi,Vj,Vk,Vm,Vp,Vq,Vv,Vx,Vy,V0,V1,V3,VQ,VT,VU,VV,VX,VZ,Ua,Uc,Ud,Ug,Uh,Ui,Uj,Uk,Um,Uq,Ur,Us,Ut,Uu,Uy,Uz,U0,U1,U2,U3,U4,U5,U6,Tf,Tg,Th,Ti,Tk,Tt,Tu,Tv,Tw,Ty,Tz,T1,T3,T6,T7,SD,SE,SF,SI,SJ,SK,a1,a3,a4,a5,hf,hy,u,e1,h2,e2];all_goals tactic=>exact rfl))
    ·unfold iU;dsimp only; (sym=>(simp[Za,Zb,Ze,Zf,Zg,Zh,Zi,Zk,Zl,Zm,Zp,Zq,Zv,Zy,Z3,Z5,Z8,ZA,ZF,ZH,ZI,ZJ,ZM,ZQ,ZR,ZT,ZU,ZV,ZX,Ya,Yc,Yg,Yh,Yk,Ys,Yt,Yu,Yw,Yx,YX,Xr,Xs,W3,W4,W5,WA,WC,WK,WN,WP,WU,WV,Vi,Vj,Vk,Vm,Vp,Vq,Vv,Vx,Vy,V0,V1,V3,V9,VF,VQ,VT,VU,VV,VZ,Ua,Uc,Ud,Ug,Uh,Ui,Uj,Uk,Um,Uq,Ur,Us,Ut,Uu,Uy,Uz,U0,U1,U2,U3,U4,U5,U6,Tf,Tg,Th,Ti,Tk,Tt,Tu,Tv,Tw,Ty,Tz,T1,T3,T6,T7,SD,SE,SF,SI,SJ,SK,a1,a3,a4,a5,hf,hy,u,e1,h2,e2];all_goals tactic=>exact rfl))
   ·exact absurd e h0
end
theorem aHm {x:Vn} (ok:x.Ok) {c:List Int} (hc:c.length<1000000000) (h24:runW aA 24 [.agg x.c] []=some (I 0,[])) :
 runW aA 55 [.agg x.c,nL c] []=some (.tup (if iZ x c=0 then [I (dH c c.length:Nat),I 0] else [I 0,I (iZ x c)]),[]):=by
 have z:=Te (n:=(c.length:Int))
 have s0:dH c 0=0:=rfl
 obtain⟨m,m1,m2,m3⟩:=cN (pU x c) c.length
 rw[r55 (by simp)];unfold x55;dsimp only
 sym =>
  simp[Za,Zb,Zf,Zg,Zh,Zj,Zl,Zm,Zo,Zv,Zz,Z3,ZG,ZO,ZP,ZT,ZU,Yr,YX,YZ,Xb,Xi,Xk,Xl,Xr,Xt,Xv,We,Wg,Wi,Ws,W3,W4,W5,W7,W8,W9,WA,WB,WK,WN,WP,WU,WV,Vi,Vj,Vk,Vv,Vx,Vy,V0,V1,V3,VO,VT,VV,VY,VZ,Ua,Uc,Ud,Ug,Uh,Um,Uq,Uy,U2,U3,U4,U5,U6,U7,U8,UD,UE,US,UT,Tf,Tg,Tj,Tn,Tt,Tu,Tw,Ty,Tz,T6,T7,SD,SE,SF,SI,SJ,SK,h24]
  tactic =>
   rcases m3 with ⟨rfl,e⟩|⟨m3,m4,e⟩
   ·rw[if_pos e]
    unfold iU
    rw[aE c.length (fun i=>[nL c,.pt 0 0,I (dH c i:Nat),I (i:Nat)]) (fun _=>iO x)]
    ·generalize dH c c.length=q at *
     (sym=>(simp[Za,Zb,Zf,Zh,Zl,Zm,Zv,Z3,ZF,Yc,Ys,YX,Xa,Xr,Xu,XJ,XM,We,Wh,WK,WO,WQ,WR,WS,Vv,V9,VA,VC,VD,VE,VF,VI,VJ,VK,VL,VM,VQ,VT,VV,Ua,Ud,Uf,Ui,Uz,U3,U4,U5,U6,U9,UA,UD,UE,Te,Tt,Tu,Tv,Tx,Tz,T0,T4,T6,T7,Sw,z];all_goals tactic=>exact rfl))
    ·rw[s0]; (sym=>(simp[Za,Y9,YX,Xb,Xd,Xr,Xv,Xx,W3,WB,WE,WH,WI,WK,WL,WM,WO,WQ,WR,WS,WT,WY,WZ,Vf,VO,VR,VS,VZ,Ua,Uc,Ud,Uf,Uk,Ux,U3,U4,U5,U6,T5,TK];all_goals tactic=>exact rfl))
    ·exact fun i hi=>aDa ok hc hi fun j hj=>m2 j (by omega)
    ·generalize dH c c.length=q at *
     (sym=>(simp[Za,Zb,Zf,Zh,Zl,Zm,Zv,Z3,ZF,Yc,Ys,VQ,VT,VV,VW,Ui,Uz,Te,Tt,Tu,Tx,Tz,T0,T6,z];all_goals tactic=>exact rfl))
   ·rw[if_neg (by rw[e];exact m4),e]
    obtain⟨eo,ho,q1,q2⟩:=aJV ok m3 hc m4 (dH c m)
    unfold iU at q1 ⊢
    rw[aE m (fun i=>[nL c,.pt 0 0,I (dH c i:Nat),I (i:Nat)]) (fun _=>iO x)]
    ·dsimp only at q1;rw[q1];exact q2
    ·rw[s0]; (sym=>(simp[Za,Y9,YX,Xb,Xd,Xr,Xv,Xx,W3,WB,WE,WH,WI,WK,WL,WM,WO,WQ,WR,WS,WT,WY,WZ,Vf,VO,VR,VS,VZ,Ua,Uc,Ud,Uf,Uk,Ux,U3,U4,U5,U6,T5,TK];all_goals tactic=>exact rfl))
    ·exact fun i hi=>aDa ok hc (by omega) fun j hj=>m2 j (by omega)
    ·dsimp only at q1;rw[q1];rfl
abbrev tP (L:List (Nat×Nat)):List (AV×AV):=L.map fun p=>(.nilifc,.agg [I p.1,I p.2])
abbrev chO (L:List (Nat×Nat)):Option XB:=some (.blk true (.map true ((.agg [.agg []],.fp [] 16 0)::tP L)))
abbrev gS (L:List (Nat×Nat)):XH:=[some (.loop 77 0 [.pt 1 0] .ready),some (.blk false (.cells true [.ch 2])),chO L]
theorem aLy (L:List (Nat×Nat)):aEC 3 (gS L):=by
 refine⟨fun _=>rfl,fun _ _=>rfl,fun _=>rfl,?_,?_⟩
 ·intro a e h0 h1
  (sym=>(simp[Xd,Xh,Xx,XI,WE,WI,WK,WM,WO,WP,WQ,WR,WS,WY,WZ,Vb,Vc,Ve,Vf,Vg,Vh,VR,VS,VZ,Ua,Ub,Uc,Ud,Ue,Uf,Ux,U2,U3,U4,U5,U6,T5,Rh,Rj,h0,h1];all_goals tactic=>exact rfl))
 ·intro a
  (sym=>(simp[Za,Xa,Xd,Xu,Xx,XM,Wh,WE,WI,WK,WM,WO,WP,WQ,WR,WS,WY,WZ,Vb,Vc,Ve,Vf,Vg,Vh,Vv,VC,VD,VE,VZ,Ua,Ub,Uc,Ud,Ue,Uf,Ux,U2,U3,U4,U5,U6,U9,UD,Sw,Rh,Rj];all_goals tactic=>exact rfl))
theorem yS (v:Nat) (L:List (Nat×Nat)) (hl:L.length<16):Yd (gS L) (gS (L++[(v,0)])) v true:=by
 have b1:(L.length<16)=True:=eq_true hl
 have y:runYW aA (.fn (.yield 0) [] []) [I (v:Nat)] (gS L)=some (.bool true,gS (L++[(v,0)])):=by
  rw[iK (K:=77) (d:=x77) (site:=0) (vs:=[.pt 1 0]) rfl rfl (by rfl) rfl]
  (sym=>(simp[Za,Zb,Zc,Zd,Ze,Zf,Zh,Zl,Zm,Zv,Z0,ZG,ZK,Y9,YT,YY,Xd,Xi,Xk,Xs,Xx,Wq,W3,W4,W5,W6,W7,W9,WA,WC,WE,WI,WK,WM,WO,WP,WQ,WR,WS,WY,WZ,Vb,Vc,Ve,Vf,Vg,Vh,VB,VE,VQ,VZ,Ua,Ub,Uc,Ud,Ue,Uf,Ug,Uh,Ui,Um,Uu,Ux,U2,U3,U4,U5,U6,U7,U8,UF,UG,UH,UI,UQ,UR,Tf,Tg,Tk,Ty,T2,T6,T7,TG,Sa,Sb,Sc,Sd,Sm,Sn,Sp,Sq,SO,SV,SW,Rh,Rj,b1];all_goals tactic=>exact rfl))
 intro a
 (sym=>(simp[Zd,Ze,Y9,YX,Xd,Xh,Xr,Xs,Xx,XI,W3,W6,W9,WA,WC,WE,WF,WG,WH,WJ,WK,WL,WM,WN,WP,WQ,WU,WV,WW,WY,WZ,Vb,Vc,Vf,Vg,Vh,Vi,Vj,Vk,Vl,VZ,Ua,Ub,Uc,Ud,Ug,Uh,Uk,Ux,U2,U3,U4,U5,U6,TG,Sl,Rh,Rj,y];all_goals tactic=>exact rfl))
theorem aLr {D:Nat→Option XFn} {K k:Nat} {rd:Option Nat} {L:List Nat} {a:XCode} {e:aH} {h:XH}:execW D K k rd (.loop L a) e h=oO (execW D K k rd a (aR L (aAi k L e h)) (nM k L e h)) (execW D K k rd (.loop L a)):=iB
section
variable {x:Vn} (ok:x.Ok) {ill cl:Nat} {L:List (Nat×Nat)} {sn n:Int}
abbrev h77 (x:Vn) (L:List (Nat×Nat)) (n:Int):XH:=[chO L,some (.blk true (.cells true x.c)),some (.blk false (.cells true [.ch 0])),some (.blk true (.cells true [I n]))]
include ok in
theorem aFo (hill:ill<2^x.F) {i:Nat} (hi:i<x.bs.length) :
 aV 1 [1,4,7,8,10,11,30,31,36,37,38] (execW aA 77 1 none (match aCF with | .loop _ a=>a|c=>c) (aR [1,4,7,8,10,11,30,31,36,37,38] [I cl,.pt 1 0,.pt 2 0,I (bF x ill i:Nat),.pt 3 0,I ill,I sn,I n,rB (x.bs.map bI),I x.bs.length,I (i:Nat)]) (h77 x L n)) =
  some ([I cl,.pt 1 0,.pt 2 0,I (bF x ill (i+1):Nat),.pt 3 0,I ill,I sn,I n,rB (x.bs.map bI),I x.bs.length,I (i+1:Nat)],h77 x L n):=by
 obtain⟨b,hx⟩:=bG hi
 have hb:=ok.b b (List.mem_of_getElem? hx)
 have hF:=ok.F16
 have hp:=aT hF
 have a1:=cU hi
 have a2:=eK hi (by have:=ok.nb;omega)
 have l0:=aBw ok hill i
 have up:bF x ill (i+1)=brd ill (bF x ill i) b:=iH hx ill
 rw[up]
 generalize bF x ill i=o at *
 have e1:=oH (a:=ill) (j:=b.1) (by omega) (by omega)
 have e2:=oH (a:=ill) (j:=b.2) (by omega) (by omega)
 have s1:=w62 (j:=b.1) (by omega)
 have s2:=w62 (j:=b.2) (by omega)
 have p1:(2:Nat)^b.1≤2^16:=Nat.pow_le_pow_right (by omega) (by omega)
 have p2:(2:Nat)^b.2≤2^16:=Nat.pow_le_pow_right (by omega) (by omega)
 have o1:=cH bR (a:=o) (b:=2^b.2) (by omega) (by omega)
 have o1':=oQ (a:=o) (i:=b.2) (n:=x.F) (by omega) hb.2.1
 have o2:=cH bR (a:=o|||2^b.2) (b:=2^b.1) (by omega) (by omega)
 have o3:=cH bR (a:=o) (b:=2^b.1) (by omega) (by omega)
 unfold brd orB
 generalize 2^b.1=q1 at *
 generalize 2^b.2=q2 at *
 cases h1:ill.testBit b.1<;>cases h2:ill.testBit b.2
 all_goals
  rw[h1]at e1
  rw[h2]at e2
  unfold aCF aJf
  dsimp only
  (sym=>(simp[Za,Zb,Zc,Zd,Ze,Zf,Zg,Zh,Zj,Zl,Zm,Zv,Zw,Z3,Z9,ZA,ZB,ZG,ZK,ZL,ZO,ZP,ZT,ZU,Yg,Yh,Yj,Yk,Yn,Ys,Yw,Yx,Yy,Yz,Y0,Y8,YA,YD,YO,YU,YX,YZ,Xb,Xd,Xi,Xr,Xs,Xt,Xv,Xx,XJ,We,Ws,W3,W4,W5,W6,W7,W8,W9,WA,WC,WE,WF,WH,WI,WK,WL,WM,WN,WO,WP,WQ,WR,WS,WT,WU,WV,WY,WZ,Vb,Ve,Vf,Vg,Vi,Vj,Vk,Vv,Vx,Vy,Vz,VQ,VR,VS,VT,VU,VV,VY,VZ,Ua,Ub,Uc,Ud,Ue,Uf,Ug,Uh,Ui,Uj,Uk,Um,Uu,Ux,Uy,Uz,U2,U3,U4,U5,U6,U7,U8,UF,Tf,Tg,Th,Ti,Tj,Tk,Tl,Tm,Tt,Tu,Tw,Tx,Ty,Tz,T0,T2,T4,T5,T6,T7,Sw,SD,SE,SG,SI,SJ,SK,Rh,Rj,a1,a2,hx,e1,e2,s1,s2,o1,o2,o3,aLr];all_goals tactic=>exact rfl))
end
theorem aIN {k cl:Nat} (hk:k<16) (hc:cl<65536):fS (2^k) cl=if cl.testBit k then 0 else 2^k:=by
 apply Nat.eq_of_testBit_eq
 intro i
 rw[bO (by omega),Nat.testBit_two_pow]
 by_cases hi:k=i
 ·subst hi
  cases h:cl.testBit k
  ·simp[Nat.testBit_two_pow];omega
  ·simp
 ·cases h:cl.testBit k
  ·simp[Nat.testBit_two_pow,hi]
  ·simp[hi]
section
variable {x:Vn} (ok:x.Ok) {ill cl:Nat} {L:List (Nat×Nat)} {sn n:Int}
include ok in
theorem aFn {o0:Nat} (ho:o0<2^x.F) (hcl:cl<2^x.F) {i:Nat} (hi:i<x.ps.length) :
 aV 1 [1,4,7,8,10,11,30,31,63,64,65] (execW aA 77 1 none (match xN with | .loop _ a=>a|c=>c) (aR [1,4,7,8,10,11,30,31,63,64,65] [I cl,.pt 1 0,.pt 2 0,I (pF x cl n o0 i:Nat),.pt 3 0,I ill,I sn,I n,rP (x.ps.map pI),I x.ps.length,I (i:Nat)]) (h77 x L n)) =
  some ([I cl,.pt 1 0,.pt 2 0,I (pF x cl n o0 (i+1):Nat),.pt 3 0,I ill,I sn,I n,rP (x.ps.map pI),I x.ps.length,I (i+1:Nat)],h77 x L n):=by
 obtain⟨p,hx⟩:=bG hi
 have hb:=ok.p p (List.mem_of_getElem? hx)
 have hF:=ok.F16
 have hp:=aT hF
 have a1:=cU hi
 have a2:=eK hi (by have:=ok.np;omega)
 have l0:=aGa (cl:=cl) (n:=n) ok ho i
 have up:pF x cl n o0 (i+1)=plt cl n (pF x cl n o0 i) p:=iH hx o0
 rw[up]
 generalize pF x cl n o0 i=o at *
 have e1:=oH (a:=o) (j:=p.2.1) (by omega) (by omega)
 have s1:=w62 (j:=p.2.2) (by omega)
 have p1:(2:Nat)^p.2.2≤2^16:=Nat.pow_le_pow_right (by omega) (by omega)
 have d0:=aIN (k:=p.2.2) (cl:=cl) (by omega) (by omega)
 have d1:=gJ bR (a:=2^p.2.2) (b:=cl) (by omega) (by omega)
 rw[d0]at d1
 have o1:=cH bR (a:=o) (b:=2^p.2.2) (by omega) (by omega)
 have o2:=cH bR (a:=o) (b:=0) (by omega) (by omega)
 rw[Nat.or_zero]at o2
 have o2:bW .or .i64 (o:Int) 0=(o:Int):=o2
 unfold plt orB
 generalize 2^p.2.2=q1 at *
 by_cases hn:(p.1:Int)=n
 ·have c1:((p.1:Int)=n)=True:=eq_true hn
  have g1:decide ((p.1:Int)=n)=true:=decide_eq_true hn
  rw[g1]
  cases h1:o.testBit p.2.1
  ·rw[h1]at e1
   unfold xN
   dsimp only
   (sym=>(simp[Za,Zb,Zc,Zd,Ze,Zf,Zg,Zh,Zj,Zl,Zm,Zp,Zq,Zv,Zw,Zy,Z3,Z8,ZA,ZG,ZK,ZL,ZO,ZP,ZT,ZU,ZV,Ya,Yg,Yh,Yj,Yq,Ys,Yw,Yx,YX,Xb,Xd,Xi,Xr,Xs,Xv,Xx,Ws,W3,W4,W5,W6,W7,W8,W9,WA,WC,WE,WF,WH,WI,WK,WL,WM,WN,WO,WP,WQ,WR,WS,WT,WU,WV,WY,WZ,Vb,Ve,Vf,Vg,Vi,Vj,Vk,Vv,Vx,Vy,V0,V1,V3,VQ,VR,VS,VT,VU,VV,VY,VZ,Ua,Ub,Uc,Ud,Ue,Uf,Ug,Uh,Ui,Uj,Uk,Um,Un,Uo,Uu,Ux,Uy,U2,U3,U4,U5,U6,U7,U8,UF,Tf,Tg,Th,Ti,Tj,Tk,Tl,Tm,Tt,Tu,Tw,Ty,Tz,T2,T5,T6,T7,SD,SE,SF,SI,SJ,SK,Rh,Rj,a1,a2,hx,e1,c1];all_goals tactic=>exact rfl))
  ·rw[h1]at e1
   cases h2:cl.testBit p.2.2
   all_goals
    rw[h2]at d1
    unfold xN
    dsimp only
    (sym=>(simp[Za,Zb,Zc,Zd,Ze,Zf,Zg,Zh,Zj,Zl,Zm,Zp,Zq,Zv,Zw,Zy,Z3,Z8,ZA,ZG,ZK,ZL,ZO,ZP,ZT,ZU,ZV,Ya,Yg,Yh,Yj,Yn,Yq,Ys,Yw,Yx,Y9,YX,Xb,Xd,Xi,Xr,Xs,Xv,Xx,Ws,W3,W4,W5,W6,W7,W8,W9,WA,WC,WE,WF,WH,WI,WK,WL,WM,WN,WO,WP,WQ,WR,WS,WT,WU,WV,WY,WZ,Vb,Ve,Vf,Vg,Vi,Vj,Vk,Vv,Vx,Vy,V0,V1,V3,VQ,VR,VS,VT,VU,VY,VZ,Ua,Ub,Uc,Ud,Ue,Uf,Ug,Uh,Ui,Uj,Uk,Um,Uo,Uq,Ur,Uu,Ux,Uy,U2,U3,U4,U5,U6,U7,U8,UF,Tf,Tg,Th,Ti,Tj,Tk,Tl,Tm,Tt,Tu,Tw,Ty,Tz,T2,T5,T6,T7,SC,SD,SE,SF,SI,SJ,SK,Rh,Rj,a1,a2,hx,e1,c1,s1,d1,o1,o2];all_goals tactic=>exact rfl))
 ·have c1:((p.1:Int)=n)=False:=eq_false hn
  have g1:decide ((p.1:Int)=n)=false:=decide_eq_false hn
  rw[g1]
  unfold xN
  dsimp only
  (sym=>(simp[Za,Zb,Zc,Zd,Ze,Zf,Zg,Zh,Zj,Zl,Zm,Zp,Zs,Zv,Zw,Zy,Z3,Z8,ZA,ZG,ZK,ZL,ZW,Ya,Yg,Yh,Yj,Yq,Ys,Yw,Yx,YX,Xb,Xd,Xi,Xr,Xv,Xx,Ws,W3,W4,W5,W6,W7,W8,W9,WA,WC,WE,WF,WH,WI,WK,WL,WM,WO,WQ,WR,WS,WT,WY,WZ,Vb,Ve,Vf,Vg,Vv,Vx,Vy,V0,V1,V3,VQ,VR,VS,VT,VU,VV,VY,VZ,Ua,Ub,Uc,Ud,Ue,Uf,Ug,Uh,Ui,Uj,Uk,Um,Un,Uu,Ux,Uy,Uz,U3,U4,U5,U6,U7,U8,UF,Tf,Tg,Th,Ti,Tj,Tk,Tl,Tm,Tt,Tu,Tw,Ty,Tz,T2,T5,T6,T7,SD,SE,SF,SI,SJ,SK,Rh,Rj,a1,a2,hx,c1];all_goals tactic=>exact rfl))
end
abbrev gT (n:Nat) (L:List (Nat×Nat)):XH:=[some (.loop 77 1 [.pt 1 0,.pt 3 0] .ready),some (.blk false (.cells true [.ch 2])),chO L,some (.blk true (.cells true [I n]))]
theorem aLx (n:Nat) (L:List (Nat×Nat)):aEC 4 (gT n L):=by
 refine⟨fun _=>rfl,fun _ _=>rfl,fun _=>rfl,?_,?_⟩
 ·intro a e h0 h1
  (sym=>(simp[Xd,Xh,Xx,XI,WE,WI,WK,WM,WO,WP,WQ,WR,WS,WY,WZ,Vb,Vc,Ve,Vf,Vg,Vh,VR,VS,VZ,Ua,Ub,Uc,Ud,Ue,Uf,Ux,U2,U3,U4,U5,U6,T5,Rh,Rj,h0,h1];all_goals tactic=>exact rfl))
 ·intro a
  (sym=>(simp[Za,Xa,Xd,Xu,Xx,XM,Wh,WE,WI,WK,WM,WO,WP,WQ,WR,WS,WY,WZ,Vb,Vc,Ve,Vf,Vg,Vh,Vv,VC,VD,VE,VZ,Ua,Ub,Uc,Ud,Ue,Uf,Ux,U2,U3,U4,U5,U6,U9,UD,Sw,Rh,Rj];all_goals tactic=>exact rfl))
theorem yT (v n:Nat) (L:List (Nat×Nat)) (hl:L.length<16) (hn:n≤1000):Yd (gT n L) (gT n (L++[(v,n+1)])) v true:=by
 have b1:(L.length<16)=True:=eq_true hl
 have a2:IntKind.i64.wrap ((n:Int)+1)=(n:Int)+1:=aD (by omega) (by omega)
 have y:runYW aA (.fn (.yield 0) [] []) [I (v:Nat)] (gT n L)=some (.bool true,gT n (L++[(v,n+1)])):=by
  rw[iK (K:=77) (d:=x77) (site:=1) (vs:=[.pt 1 0,.pt 3 0]) rfl rfl (by rfl) rfl]
  (sym=>(simp[Za,Zb,Zc,Zd,Ze,Zf,Zh,Zl,Zm,Zv,Z0,Z3,ZG,ZK,Yj,YT,YY,Xd,Xi,Xk,Xs,Xx,Wq,W3,W4,W5,W6,W7,W9,WA,WC,WE,WI,WK,WM,WO,WP,WQ,WR,WS,WY,WZ,Vb,Vc,Ve,Vf,Vg,Vh,VB,VE,VQ,VZ,Ua,Ub,Uc,Ud,Ue,Uf,Ug,Uh,Ui,Um,Uu,Ux,U2,U3,U4,U5,U6,U7,U8,UF,UG,UH,UI,UQ,UR,Tf,Tg,Tk,Tt,Ty,T2,T6,T7,TG,Sa,Sb,Sc,Sd,Sm,Sn,Sp,Sq,SO,SV,SW,Rh,Rj,b1,a2];all_goals tactic=>exact rfl))
 intro a
 (sym=>(simp[Zd,Ze,YX,Xd,Xh,Xr,Xs,Xx,XI,W3,W6,W9,WA,WC,WE,WF,WG,WH,WJ,WK,WL,WM,WN,WP,WQ,WU,WV,WW,WY,WZ,Vb,Vc,Vf,Vg,Vh,Vi,Vj,Vk,Vl,VZ,Ua,Ub,Uc,Ud,Ug,Uh,Uk,Ux,U2,U3,U4,U5,U6,TG,Sl,Rh,Rj,y];all_goals tactic=>exact rfl))
theorem sO {p q:Nat→Bool} (h:∀ k,p k=true→q k=false):∀ l:List Nat,(l.filter fun k=>p k||q k).length=(l.filter p).length+(l.filter q).length
 | []=>rfl
 | k::l=>by
   have ih:=sO h l
   simp only[List.filter_cons]
   cases hp:p k
   ·cases hq:q k
    ·simpa using ih
    ·simp only[Bool.false_or,if_true,Bool.false_eq_true,if_false,List.length_cons];omega
   ·have hq:=h k hp
    rw[hq]
    simp only[Bool.true_or,if_true,Bool.false_eq_true,if_false,List.length_cons];omega
def kJ (x:Vn) (cl:Nat):Nat→List (Nat×Nat)
 | 0=>(el (bC x cl 0)).map fun k=>(k,0)
 | n+1=>kJ x cl n++(el (fS (bC x cl (n+1)) (bC x cl n))).map fun k=>(k,n+1)
theorem uD (s k i:Nat) (c:Bool):(orB s c k).testBit i=(s.testBit i||(c&&decide (k=i))):=by
 unfold orB
 cases c
 ·simp
 ·rw[if_pos rfl,dL];simp
theorem wE {α:Type} {f:Nat→α→Nat} (hf:∀ o x i,o.testBit i=true→(f o x).testBit i=true):∀ (l:List α) (o i:Nat),o.testBit i=true→(l.foldl f o).testBit i=true
 | [],_,_,h=>h
 | x::l,o,i,h=>wE hf l (f o x) i (hf o x i h)
theorem aIV {ill:Nat} (o:Nat) (b:Nat×Nat) (i:Nat) (h:o.testBit i=true):(brd ill o b).testBit i=true:=by
 unfold brd
 rw[uD,uD,h];simp
theorem aIg {cl:Nat} {n:Int} (o:Nat) (p:Nat×Nat×Nat) (i:Nat) (h:o.testBit i=true):(plt cl n o p).testBit i=true:=by
 unfold plt
 rw[uD,h];simp
theorem wD {x:Vn} (ok:x.Ok) {cl:Nat} (hcl:cl<2^x.F):∀ n i,(bC x cl n).testBit i=true→(bC x cl (n+1)).testBit i=true:=by
 have hp:=aT ok.F16
 have dj:∀ n i,(bC x cl n).testBit i=true→cl.testBit i=false:=by
  intro n
  induction n with
  | zero =>
    intro i hi
    unfold bC at hi
    rw[bO (by omega)]at hi
    simp only[Bool.and_eq_true,Bool.not_eq_true']at hi
    exact hi.2.2
  | succ n ih =>
    intro i hi
    rw[bC,tQ]at hi
    have main:∀ (l:List (Nat×Nat×Nat)) (o:Nat),(∀ i,o.testBit i=true→cl.testBit i=false)→∀ i,(l.foldl (plt cl (n:Int)) o).testBit i=true→cl.testBit i=false:=by
     intro l
     induction l with
     | nil=>exact fun o h=>h
     | cons p l ihl =>
       intro o h
       refine ihl (plt cl n o p) fun i hi=>?_
       unfold plt at hi
       rw[uD,Bool.or_eq_true]at hi
       rcases hi with hi|hi
       ·exact h i hi
       ·simp only[Bool.and_eq_true,Bool.not_eq_true',decide_eq_true_eq]at hi
        rw[←hi.2];exact hi.1.2.2
    refine main x.ps _ (fun i hi=>?_) i hi
    rw[bO (by omega)]at hi
    simp only[Bool.and_eq_true,Bool.not_eq_true']at hi
    exact hi.2.2
 intro n i hi
 rw[bC,tQ]
 refine wE aIg _ _ _ ?_
 have hlt:=sX (dV ok cl n) (i:=i)
 have hi64:i<64:=by
  by_cases h:i<64
  ·exact h
  ·rw[hlt (by have:=ok.F16;omega)]at hi;simp at hi
 rw[bO (by omega),dj n i hi]
 have:(bor x (bC x cl n)).testBit i=true:=wE aIV _ _ _ hi
 simp[this,hi64]
theorem aDv {x:Vn} (ok:x.Ok) {cl:Nat} (hcl:cl<2^x.F):∀ n,(kJ x cl n).length=(el (bC x cl n)).length
 | 0=>by simp[kJ]
 | n+1=>by
   have hp:=aT ok.F16
   have hl:=dV ok cl n
   rw[kJ,List.length_append,List.length_map,aDv ok hcl n]
   have e:el (bC x cl (n+1))=(List.range 16).filter fun k=>(bC x cl n).testBit k||(fS (bC x cl (n+1)) (bC x cl n)).testBit k:=by
    unfold el
    refine List.filter_congr fun k hk=>?_
    rw[List.mem_range]at hk
    rw[bO (by omega)]
    cases h:(bC x cl n).testBit k
    ·cases (bC x cl (n+1)).testBit k<;>simp;omega
    ·rw[wD ok hcl n k h];rfl
   rw[e,sO]
   ·rfl
   ·intro k hk
    rw[bO (by omega),hk];simp
theorem aKh {x:Vn} (ok:x.Ok) {cl:Nat} (hcl:cl<2^x.F) (n:Nat):(kJ x cl n).length≤16:=by
 rw[aDv ok hcl];exact wK _
theorem aLD {a n:Nat} {L:List (Nat×Nat)} (ha:a<65536) (hn:n≤1000) (hl:L.length+(el a).length≤16) :
 runW aA 86 [.fn (.yield 0) [] [],.pt 4 0] (gT n L++[cI a])=some (.tup [],gT n (L++(el a).map fun k=>(k,n+1))++[cI 0]):=by
 have e:=rC (n:=4) (G:=fun i=>gT n (L++((el a).take i).map fun k=>(k,n+1))) ha (fun i _=>aLx n _) (by
  intro i v hv
  have h1:=yT v n (L++((el a).take i).map fun k=>(k,n+1)) (by have:=fP hv;simp;omega) hn
  have e1:(L++((el a).take i).map fun k=>(k,n+1))++[(v,n+1)]=L++((el a).take (i+1)).map fun k=>(k,n+1):=by
   rw[List.take_add_one,hv];simp
  rw[e1]at h1
  exact h1)
 rw[List.take_length]at e
 simpa using e
theorem aLE {a:Nat} (ha:a<65536):runW aA 86 [.fn (.yield 0) [] [],.pt 3 0] (gS []++[cI a])=some (.tup [],gS ((el a).map fun k=>(k,0))++[cI 0]):=by
 have hl:=wK a
 have e:=rC (n:=3) (G:=fun i=>gS (((el a).take i).map fun k=>(k,0))) ha (fun i _=>aLy _) (by
  intro i v hv
  have h1:=yS v (((el a).take i).map fun k=>(k,0)) (by have:=fP hv;simp;omega)
  have e1:(((el a).take i).map fun k=>(k,0))++[(v,0)]=((el a).take (i+1)).map fun k=>(k,0):=by
   rw[List.take_add_one,hv];simp
  rw[e1]at h1
  exact h1)
 rw[List.take_length]at e
 simpa using e
abbrev g77 (x:Vn) (L:List (Nat×Nat)):XH:=[chO L,some (.blk true (.cells true x.c)),some (.blk false (.cells true [.ch 0]))]
theorem aHI {x:Vn} (ok:x.Ok) {cl:Nat} (hcl:cl<2^x.F) {sn:Int} {n:Nat} (hn:n≤1000) (hs:(n:Int)<sn) :
 aV 1 [1,4,7,8,30,31] (execW aA 77 1 none (match aCE with | .loop _ a=>a|c=>c) (aR [1,4,7,8,30,31] [I cl,.pt 1 0,.pt 2 0,I (bC x cl n:Nat),I sn,I (n:Nat)]) (g77 x (kJ x cl n))) =
  some ([I cl,.pt 1 0,.pt 2 0,I (bC x cl (n+1):Nat),I sn,I (n+1:Nat)],g77 x (kJ x cl (n+1))):=by
 have hp:=aT ok.F16
 have hi:=dV ok cl n
 have hi2:=dV ok cl (n+1)
 have c1:((n:Int)<sn)=True:=eq_true hs
 have a2:IntKind.i64.wrap ((n:Int)+1)=(n:Int)+1:=aD (by omega) (by omega)
 have lb:=aBw ok hi x.bs.length
 have eb:bF x (bC x cl n) x.bs.length=bor x (bC x cl n):=by unfold bF bor;rw[List.take_length]
 rw[eb]at lb
 have d1:=gJ bR (a:=bor x (bC x cl n)) (b:=cl) (by omega) (by omega)
 have dl:=iD (bor x (bC x cl n)) cl
 have ep:pF x cl (n:Int) (fS (bor x (bC x cl n)) cl) x.ps.length=bC x cl (n+1):=by unfold pF;rw[List.take_length];rfl
 have z:=Te (n:=(x.bs.length:Int))
 have z2:=Te (n:=(x.ps.length:Int))
 have d2:=gJ bR (a:=bC x cl (n+1)) (b:=bC x cl n) (by omega) (by omega)
 have dl2:=iD (bC x cl (n+1)) (bC x cl n)
 have w8:=w80 (a:=fS (bC x cl (n+1)) (bC x cl n))
 have e86:=aLD (a:=fS (bC x cl (n+1)) (bC x cl n)) (n:=n) (L:=kJ x cl n) (by omega) hn (by
  have:=aKh ok hcl (n+1)
  rw[kJ,List.length_append,List.length_map]at this
  exact this)
 rw[show kJ x cl n++(el (fS (bC x cl (n+1)) (bC x cl n))).map (fun k=>(k,n+1))=kJ x cl (n+1) from rfl]at e86
 have e86:runW aA 86 [.fn (.yield 0) [] [],.pt 4 0] [some (.loop 77 1 [.pt 1 0,.pt 3 0] .ready),some (.blk false (.cells true [.ch 2])),chO (kJ x cl n),some (.blk true (.cells true [I n])),cI (fS (bC x cl (n+1)) (bC x cl n))] =
  some (.tup [],[some (.loop 77 1 [.pt 1 0,.pt 3 0] .ready),some (.blk false (.cells true [.ch 2])),chO (kJ x cl (n+1)),some (.blk true (.cells true [I n])),some (.blk true (.cells true [.int .i64 0]))]):=e86
 have rb:=fun i hh=>aFn (L:=kJ x cl n) (ill:=bC x cl n) (sn:=sn) (n:=(n:Int)) ok (o0:=fS (bor x (bC x cl n)) cl) (by omega) hcl (i:=i) hh
 have ra:=fun i hh=>aFo (L:=kJ x cl n) (cl:=cl) (sn:=sn) (n:=(n:Int)) ok hi (i:=i) hh
 unfold aCE
 dsimp only
 sym =>
  simp[Za,Zb,Zc,Zf,Zh,Zl,Zm,Zv,Zw,Z3,Z8,ZF,ZG,ZK,ZL,Ya,Yc,Ys,Xi,Wq,W3,W4,W5,W6,W7,W9,WA,WC,VQ,VT,VU,Ub,Uc,Ud,Ug,Uh,Ui,Um,Uu,Uy,U7,U8,UF,Tf,Tg,Tk,Tl,Tm,Tt,Tu,Tw,Ty,Tz,T6,T7,c1]
  tactic =>
   unfold aCF
   rw[aE x.bs.length (fun i=>[I cl,.pt 1 0,.pt 2 0,I (bF x (bC x cl n) i:Nat),.pt 3 0,I (bC x cl n:Nat),I sn,I (n:Nat),rB (x.bs.map bI),I x.bs.length,I (i:Nat)]) (fun _=>h77 x (kJ x cl n) n)]
   ·rw[eb]
    sym =>
     simp[Za,Zb,Zf,Zh,Zl,Zm,Zv,Z3,Z8,ZF,ZG,Ya,Yc,Ys,W3,W4,W5,WC,VQ,VT,VV,Ui,Uz,Te,Tf,Tg,Tk,Tt,Tu,Tx,Ty,Tz,T0,T4,T6,T7,SC,z,d1]
     tactic =>
      unfold xN
      rw[aE x.ps.length (fun i=>[I cl,.pt 1 0,.pt 2 0,I (pF x cl (n:Int) (fS (bor x (bC x cl n)) cl) i:Nat),.pt 3 0,I (bC x cl n:Nat),I sn,I (n:Nat),rP (x.ps.map pI),I x.ps.length,I (i:Nat)]) (fun _=>h77 x (kJ x cl n) n)]
      ·rw[ep]
       generalize fS (bC x cl (n+1)) (bC x cl n)=df at *
       generalize bC x cl (n+1)=q1 at *
       generalize kJ x cl (n+1)=L2 at *
       generalize bC x cl n=q0 at *
       generalize kJ x cl n=L1 at *
       (sym=>(simp[Za,Zb,Zf,Zh,Zl,Zm,Zv,Z3,ZO,ZP,ZT,ZU,Yj,Ys,YX,Xd,Xh,Xr,Xu,Xx,X0,XI,W3,W6,W9,WA,WC,WE,WF,WG,WH,WI,WJ,WK,WL,WM,WN,WO,WP,WQ,WR,WS,WT,WU,WV,WW,WY,WZ,Vb,Vc,Ve,Vf,Vg,Vh,Vi,Vj,Vk,Vl,VQ,VR,VS,VT,VV,VZ,Ua,Ub,Uc,Ud,Ue,Uf,Ug,Uh,Uk,Um,Ux,Uz,U2,U3,U4,U5,U6,Te,Tt,Tu,Tx,Ty,Tz,T0,T2,T4,T5,T6,T7,Sa,Sb,Se,Sf,Sg,Si,Sj,Sk,SC,Rh,Rj,z2,d2,w8,e86,a2];all_goals tactic=>exact rfl))
      ·(sym=>(simp[Za,Y9,YX,Xb,Xd,Xr,Xv,Xx,W3,WE,WF,WH,WI,WK,WL,WM,WO,WQ,WR,WS,WT,WY,WZ,Vb,Ve,Vf,Vg,VQ,VR,VS,VZ,Ua,Ub,Uc,Ud,Ue,Uf,Uk,Ux,U3,U4,U5,U6,T5,Rh,Rj];all_goals tactic=>exact rfl))
      ·exact rb
      ·rw[ep]
       generalize bC x cl (n+1)=q1 at *
       (sym=>(simp[Za,Zb,Zf,Zh,Zl,Zm,Z3,Ys,VQ,VT,VV,VW,Uz,Te,Tt,Tu,Tx,Tz,T0,T6,z2];all_goals tactic=>exact rfl))
   ·(sym=>(simp[Za,Y9,YX,Xb,Xd,Xr,Xv,Xx,W3,WE,WF,WH,WI,WK,WL,WM,WO,WQ,WR,WS,WT,WY,WZ,Vb,Ve,Vf,Vg,VQ,VR,VS,VZ,Ua,Ub,Uc,Ud,Ue,Uf,Uk,Ux,U3,U4,U5,U6,T5,Rh,Rj];all_goals tactic=>exact rfl))
   ·exact ra
   ·(sym=>(simp[Za,Zb,Zf,Zh,Zl,Zm,Z3,Ys,VQ,VT,VV,VW,Uz,Te,Tt,Tu,Tx,Tz,T0,T6,z];all_goals tactic=>exact rfl))
theorem aHi {run:fK} {runY:gZ} {l:List DOper} {e:aH} {h:XH}:eI run runY l e h=xo none run runY l e h:=rfl
abbrev chC (L:List (Nat×Nat)):Option XB:=some (.blk true (.map true ((.agg [.agg []],.fp [] 16 1)::tP L)))
theorem w77 {x:Vn} (ok:x.Ok) {cl:Nat} (hcl:cl<2^x.F) {sn:Nat} (hs:sn≤1000):runW aA 77 [.agg x.c,I cl,I sn,.ch 0] [chO []]=some (.tup [],[chC (kJ x cl sn)]):=by
 have hp:=aT ok.F16
 have hi:=dV ok cl 0
 have hk:=ok.s
 have d1:=gJ bR (a:=x.sick) (b:=cl) (by omega) (by omega)
 rw[show fS x.sick cl=bC x cl 0 from rfl]at d1
 have w8:=w80 (a:=bC x cl 0)
 have e86:runW aA 86 [.fn (.yield 0) [] [],.pt 3 0] [some (.loop 77 0 [.pt 1 0] .ready),some (.blk false (.cells true [.ch 2])),some (.blk true (.map true [(.agg [.agg []],.fp [] 16 0)])),cI (bC x cl 0)] =
  some (.tup [],[some (.loop 77 0 [.pt 1 0] .ready),some (.blk false (.cells true [.ch 2])),chO (kJ x cl 0),some (.blk true (.cells true [.int .i64 0]))]):=aLE (a:=bC x cl 0) (by omega)
 have z:=Te (n:=(sn:Int))
 rw[r77 (by simp)]
 unfold x77
 dsimp only
 rw[aHi]
 have rd:=fun i (hh:i<sn)=>aHI (x:=x) ok hcl (sn:=(sn:Int)) (n:=i) (by omega) (by omega)
 generalize hf0:kJ x cl 0=L0 at e86
 generalize hi0:bC x cl 0=q0 at e86 w8 d1
 sym =>
  simp[Za,Zb,Zf,Zh,Zl,Zm,Zo,Zv,Zz,Z3,Z8,ZG,ZO,ZP,ZT,ZU,Ya,YX,Xd,Xh,Xi,Xk,Xl,Xr,Xu,Xx,X0,XI,We,Wg,Wi,Ws,W3,W4,W5,W6,W9,WA,WB,WC,WE,WF,WG,WH,WJ,WK,WL,WM,WN,WP,WQ,WU,WV,WW,WY,WZ,Vb,Vc,Vf,Vg,Vh,Vi,Vj,Vk,Vl,VO,VY,VZ,Ua,Ub,Uc,Ud,Ug,Uh,Uk,Um,Ux,U2,U3,U4,U5,U6,U7,U8,UD,UE,US,UT,Tf,Tg,Tk,Tn,Tt,Tu,Ty,Tz,T2,T6,T7,Sa,Sb,Se,Sf,Sg,Si,Sj,Sk,SC,Rd,Re,Rh,Ri,Rj,Rl,Rm,d1,w8,e86]
  tactic =>
   unfold aCE
   rw[aE sn (fun i=>[I cl,.pt 1 0,.pt 2 0,I (bC x cl i:Nat),I sn,I (i:Nat)]) (fun i=>g77 x (kJ x cl i))]
   ·generalize bC x cl sn=q at *
    generalize kJ x cl sn=L at *
    (sym=>(simp[Za,Zb,Zf,Zh,Zl,Zm,Z3,Ys,Xa,Xu,XM,Wh,W3,W6,WK,WO,WQ,WR,WS,WY,WZ,Ve,Vf,Vv,VA,VC,VD,VE,VF,VH,VJ,VQ,VT,VV,VZ,Ua,Ud,Ue,Uf,Uz,U3,U4,U5,U9,UD,Te,Tt,Tu,Tx,Tz,T0,T4,T6,Sw,Rb,Rc,Rf,Rg,z];all_goals tactic=>exact rfl))
   ·rw[hf0,hi0]; (sym=>(simp[Za,Y9,YX,Xd,Xr,Xx,W3,WB,WE,WF,WH,WI,WK,WL,WM,WO,WQ,WR,WS,WT,WY,WZ,Vb,Ve,Vf,Vg,VO,VR,VS,VZ,Ua,Ub,Uc,Ud,Ue,Uf,Uk,Ux,U3,U4,U5,U6,T5,Rh,Rj];all_goals tactic=>exact rfl))
   ·exact rd
   ·generalize bC x cl sn=q at *
    generalize kJ x cl sn=L at *
    (sym=>(simp[Za,Zb,Zf,Zh,Zl,Zm,Z3,Ys,VQ,VT,VV,VW,Uz,Te,Tt,Tu,Tx,Tz,T0,T6,z];all_goals tactic=>exact rfl))
abbrev gI (x:Vn) (cl sn out:Nat) (c:Option XB):XH:=[some (.loop 46 0 [.pt 1 0] .ready),some (.blk true (.cells true [I out])),some (.blk true (.cells true x.c)),some (.blk true (.cells true [I cl])),some (.blk true (.cells true [I sn])),c]
theorem y46 {out v n:Nat} (ho:out<65536) (hv:v<16):runYW aA (.fn (.yield 0) [] []) [.agg [I (v:Nat),I (n:Nat)]] [some (.loop 46 0 [.pt 1 0] .ready),some (.blk true (.cells true [I out]))]=some (.bool true,[some (.loop 46 0 [.pt 1 0] .ready),some (.blk true (.cells true [I (out|||2^v:Nat)]))]):=by
 have w1:=w62 (j:=v) (by omega)
 have hp:2^v<65536:=Nat.pow_lt_pow_of_lt (a:=2) (n:=v) (m:=16) (by omega) hv
 have b1:=cH bR (a:=out) (b:=2^v) (by omega) (Nat.lt_trans hp (by omega))
 rw[iK (K:=46) (d:=x46) (site:=0) (vs:=[.pt 1 0]) rfl rfl (by rfl) rfl]
 (sym=>(simp[Za,Zb,Zc,Ze,Zf,Zg,Zh,Zk,Zl,Zm,Zw,Z3,Z8,ZH,ZJ,ZK,ZL,ZM,ZN,ZQ,ZR,ZT,ZU,Ya,Yn,YX,YY,Xd,Xi,Xr,Xs,Xx,Wq,Ws,Wz,W3,W4,W5,W6,W7,W9,WA,WC,WE,WI,WK,WM,WN,WO,WP,WQ,WR,WS,WU,WV,WY,WZ,Vc,Ve,Vf,Vh,Vi,Vj,Vk,Vm,Vo,Vp,Vq,Vv,Vx,Vy,V0,V1,V3,VB,VE,VQ,VZ,Ua,Ub,Uc,Ud,Ue,Uf,Ug,Uh,Um,Ur,Us,Ut,Uu,Ux,U0,U1,U2,U3,U4,U5,U6,U7,U8,UF,UQ,UR,Tf,Tg,Tk,Tl,Tm,Tt,Ty,T2,T6,T7,Sa,Sb,Sc,Sd,Sm,Sn,Sp,Sq,Sv,SD,SE,SF,SI,SJ,SK,w1,b1];all_goals tactic=>exact rfl))
theorem aHJ {x:Vn} {cl sn out:Nat} {p:Nat×Nat} {L:List (Nat×Nat)} (ho:out<65536) (hv:p.1<16) :
 aV 5 [0,13] (execW aA 76 5 none (match uU with | .loop _ a=>a|c=>c) (aR [0,13] [.fn (.yield 0) [] [],.ch 5]) (gI x cl sn out (chC (p::L))))=some ([.fn (.yield 0) [] [],.ch 5],gI x cl sn (out|||2^p.1) (chC L)):=by
 have y:=y46 (n:=p.2) ho hv
 unfold uU
 dsimp only
 have e1:chC (p::L)=some (.blk true (.map true ((.agg [.agg []],.fp [] 16 1)::(.nilifc,.agg [I p.1,I p.2])::tP L))):=rfl
 rw[e1,show chC L=some (.blk true (.map true ((.agg [.agg []],.fp [] 16 1)::tP L))) from rfl]
 generalize tP L=sl
 (sym=>(simp[Za,Zb,Zc,Zf,Zg,Zh,Zj,Zl,Zm,Zv,Zw,Z5,ZE,ZG,ZK,ZL,ZO,ZP,ZX,Yi,YX,YZ,Xd,Xh,Xi,Xr,Xs,Xt,Xx,XI,Ws,W3,W4,W5,W6,W7,W8,W9,WA,WC,WE,WF,WG,WH,WI,WJ,WK,WL,WM,WN,WO,WP,WQ,WR,WS,WT,WU,WV,WW,WY,WZ,Vc,Ve,Vf,Vh,Vi,Vj,Vk,Vl,Vv,Vx,Vy,V0,V1,V3,VQ,VR,VS,VT,VU,VV,VZ,Ua,Ub,Uc,Ud,Ue,Uf,Ug,Uh,Uk,Um,Uq,Uu,Ux,U2,U3,U4,U5,U6,U7,U8,UF,Tf,Tg,Tj,Tl,Tm,Tu,Tw,Ty,Tz,T2,T5,T6,Sl,SD,SE,SF,SI,SJ,SK,SP,SX,SY,Ra,Rh,Rj,y];all_goals tactic=>exact rfl))
def orL (L:List (Nat×Nat)):Nat:=L.foldl (fun o p=>o|||2^p.1) 0
theorem aJI {L:List (Nat×Nat)} (h:∀ p∈L,p.1<16) (i:Nat):orL (L.take i)<65536:=by
 have:∀ (M:List (Nat×Nat)) (o:Nat),o<65536→(∀ p∈M,p.1<16)→M.foldl (fun o p=>o|||2^p.1) o<65536:=by
  intro M
  induction M with
  | nil=>intro o ho _;exact ho
  | cons p M ih =>
    intro o ho hm
    have h2:2^p.1<65536:=Nat.pow_lt_pow_of_lt (a:=2) (n:=p.1) (m:=16) (by omega) (hm p List.mem_cons_self)
    exact ih _ (Nat.or_lt_two_pow (n:=16) ho h2) (fun q hq=>hm q (List.mem_cons_of_mem _ hq))
 exact this _ 0 (by omega) (fun p hp=>h p (List.mem_of_mem_take hp))
theorem aGb {L:List (Nat×Nat)} {i:Nat} {p:Nat×Nat} (h:L[i]?=some p):orL (L.take (i+1))=orL (L.take i)|||2^p.1:=by
 rw[orL,List.take_add_one,h,List.foldl_append];rfl
theorem aMb {x:Vn} (ok:x.Ok) {cl sn:Nat} (hcl:cl<2^x.F) (hs:sn≤1000) (hm:∀ p∈kJ x cl sn,p.1<16) :
 runW aA 76 [.fn (.yield 0) [] [],.pt 2 0,.pt 3 0,.pt 4 0] [some (.loop 46 0 [.pt 1 0] .ready),cI 0,some (.blk true (.cells true x.c)),some (.blk true (.cells true [I cl])),some (.blk true (.cells true [I sn]))] =
  some (.tup [],[some (.loop 46 0 [.pt 1 0] .ready),cI (orL (kJ x cl sn)),some (.blk true (.cells true x.c)),some (.blk true (.cells true [I cl])),some (.blk true (.cells true [I sn]))]):=by
 have w:=w77 ok hcl hs
 generalize hL:kJ x cl sn=L at *
 have rd:=fun(i:Nat) (hi:i<L.length)=>aHJ (x:=x) (cl:=cl) (sn:=sn) (L:=L.drop (i+1)) (p:=L[i]) (aJI hm i) (hm _ (List.getElem_mem hi))
 have e0:orL (L.take 0)=0:=rfl
 have e1:orL (L.take L.length)=orL L:=by rw[List.take_length]
 rw[r76 (by simp)];unfold x76;dsimp only
 have w:runW aA 77 [.agg x.c,I cl,I sn,.ch 0] [some (.blk true (.map true [(.agg [.agg []],.fp [] 16 0)]))]=some (.tup [],[some (.blk true (.map true ((.agg [.agg []],.fp [] 16 1)::tP L)))]):=w
 generalize hs0:tP L=sl at *
 sym =>
  simp[Za,Zb,Zf,Zg,Zh,Zj,Zl,Zm,Zv,ZG,ZO,ZP,ZT,ZU,Y9,YX,YZ,Xb,Xr,Xt,Xu,Xv,Wl,Wp,W3,W4,W5,W6,W7,W8,W9,WA,WB,WC,WE,WG,WH,WK,WL,WM,WN,WP,WQ,WU,WV,WW,WY,WZ,Vf,Vi,Vj,Vk,Vl,Vv,Vx,Vy,Vz,V0,V1,V3,VO,VY,VZ,Ua,Ub,Uc,Ud,Ug,Uh,Ux,U2,U3,U4,U5,U6,UD,UE,Tf,Tg,Tj,Tk,Tu,Ty,Tz,T6,T7,Sw,SD,SE,SF,SG,SI,SJ,SK,SQ,Rh,Rj,Rk,Rl,w]
  tactic =>
   unfold uU
   rw[aE L.length (fun _=>[.fn (.yield 0) [] [],.ch 5]) (fun i=>gI x cl sn (orL (L.take i)) (chC (L.drop i)))]
   ·rw[e1,show chC (L.drop L.length)=some (.blk true (.map true [(.agg [.agg []],.fp [] 16 1)])) from by rw[List.drop_length];rfl];generalize orL L=q; (sym=>(simp[Za,Zb,Zf,Zh,Zl,Zm,ZE,ZO,Yi,Xa,Xd,Xu,Xx,XM,Wh,W3,W6,WC,WE,WI,WK,WM,WO,WQ,WR,WS,WY,WZ,Vc,Ve,Vf,Vh,Vv,V8,VA,VC,VD,VE,VF,VH,VJ,VQ,VT,VV,VZ,Ua,Uc,Ud,Ue,Uf,Ux,U3,U4,U5,U6,U9,UD,Tu,Tx,Tz,T0,T4,T6,Sw,SP,SX,SZ,Ra];all_goals tactic=>exact rfl))
   ·rw[e0,show chC (L.drop 0)=some (.blk true (.map true ((.agg [.agg []],.fp [] 16 1)::sl))) from by rw[←hs0];rfl]; (sym=>(simp[Za,Y9,Xd,Xh,Xx,XI,W3,WB,WE,WF,WH,WI,WK,WL,WM,WO,WQ,WR,WS,WT,WY,WZ,Vc,Ve,Vf,Vh,VO,VR,VS,VZ,Ua,Ub,Uc,Ud,Ue,Uf,Uk,Ux,U3,U4,U5,U6,T5,SE,SG,Rh,Rj];all_goals tactic=>exact rfl))
   ·intro i hi
    have h:=rd i hi
    rw[←aGb (List.getElem?_eq_getElem hi),List.getElem_cons_drop]at h
    exact h
   ·rw[e1,show chC (L.drop L.length)=some (.blk true (.map true [(.agg [.agg []],.fp [] 16 1)])) from by rw[List.drop_length];rfl];generalize orL L=q; (sym=>(simp[Za,Zb,Zf,Zh,Zl,Zm,ZE,ZO,Yi,W3,W6,WC,VQ,VT,VV,VW,Tu,Tx,Tz,T0,T6,SP,SX,SZ,Ra];all_goals tactic=>exact rfl))
abbrev nev:Int:=1125899906842624
theorem w50:∀ F,F<16→runW aA 50 [.sl 0 0 1 1,I ((F+1:Nat):Int)] [some (.blk true (.cells true [I nev]))]=some (.sl 1 0 1 (F+1),[some (.blk true (.cells true [I nev])),some (.blk true (.cells true ((List.replicate (F+1) nev).map I)))])
 | 0,_=>aU.2 ⟨400,by kernel_rfl⟩
 | 1,_=>aU.2 ⟨400,by kernel_rfl⟩
 | 2,_=>aU.2 ⟨400,by kernel_rfl⟩
 | 3,_=>aU.2 ⟨400,by kernel_rfl⟩
 | 4,_=>aU.2 ⟨400,by kernel_rfl⟩
 | 5,_=>aU.2 ⟨400,by kernel_rfl⟩
 | 6,_=>aU.2 ⟨400,by kernel_rfl⟩
 | 7,_=>aU.2 ⟨400,by kernel_rfl⟩
 | 8,_=>aU.2 ⟨400,by kernel_rfl⟩
 | 9,_=>aU.2 ⟨400,by kernel_rfl⟩
 | 10,_=>aU.2 ⟨400,by kernel_rfl⟩
 | 11,_=>aU.2 ⟨400,by kernel_rfl⟩
 | 12,_=>aU.2 ⟨400,by kernel_rfl⟩
 | 13,_=>aU.2 ⟨400,by kernel_rfl⟩
 | 14,_=>aU.2 ⟨400,by kernel_rfl⟩
 | 15,_=>aU.2 ⟨400,by kernel_rfl⟩
 | _+16,h=>absurd h (by omega)

abbrev gW (x:Vn) (cl sn:Nat) (l:List Int) (c:Option XB):XH:=[some (.loop 20 0 [.pt 1 0] .ready),some (.blk false (.cells true [.sl 2 0 1 l.length])),some (.blk true (.cells true (l.map I))),some (.blk true (.cells true x.c)),some (.blk true (.cells true [I cl])),some (.blk true (.cells true [I sn])),c]
theorem y20 {l:List Int} {v n:Nat} (hv:v<l.length) (hl:l.length≤16):runYW aA (.fn (.yield 0) [] []) [.agg [I (v:Nat),I (n:Nat)]] [some (.loop 20 0 [.pt 1 0] .ready),some (.blk false (.cells true [.sl 2 0 1 l.length])),some (.blk true (.cells true (l.map I)))]=some (.bool true,[some (.loop 20 0 [.pt 1 0] .ready),some (.blk false (.cells true [.sl 2 0 1 l.length])),some (.blk true (.cells true ((l.set v n).map I)))]):=by
 have e0:((0:Int)≤(v:Int))=True:=eq_true (by omega)
 have e1:((v:Int)<((l.length:Nat):Int))=True:=eq_true (by omega)
 have e6:(v+1≤l.length)=True:=eq_true (by omega)
 rw[←aFd hv]
 generalize hk:l.length=k at *
 rw[iK (K:=20) (d:=x20) (site:=0) (vs:=[.pt 1 0]) rfl rfl (by rfl) rfl]
 (sym=>(simp[Za,Zb,Zc,Zf,Zh,Zl,Zm,Zw,Z8,ZA,ZG,ZK,ZL,Ya,Yf,Yw,Yx,YY,Xc,Xd,Xi,Xs,Xw,Xx,Wq,Ws,W3,W4,W5,W6,W7,W9,WA,WC,WE,WI,WK,WM,WO,WQ,WR,WS,WY,WZ,Vb,Vc,Ve,Vf,Vg,Vh,VB,VE,VQ,VZ,Ua,Ub,Uc,Ud,Ue,Uf,Ug,Uh,Ui,Um,Uu,Ux,U3,U4,U5,U6,U7,U8,UF,UQ,UR,Tf,Tg,Tk,Tl,Tm,Ty,T2,T6,TI,TJ,TN,Sa,Sb,Sc,Sd,Sm,Sn,Sp,Sq,e0,e1,e6,hk];all_goals tactic=>exact rfl))
theorem aFp {x:Vn} {cl sn k:Nat} {l:List Int} {p:Nat×Nat} {L:List (Nat×Nat)} (hl:l.length=k) (hk:k≤16) (hv:p.1<k) :
 aV 6 [0,13] (execW aA 76 6 none (match uU with | .loop _ a=>a|c=>c) (aR [0,13] [.fn (.yield 0) [] [],.ch 6]) (gW x cl sn l (chC (p::L))))=some ([.fn (.yield 0) [] [],.ch 6],gW x cl sn (l.set p.1 p.2) (chC L)):=by
 have y:=y20 (n:=p.2) (l:=l) (v:=p.1) (by omega) (by omega)
 rw[gW,gW,List.length_set,hl]at *
 unfold uU
 dsimp only
 have e1:chC (p::L)=some (.blk true (.map true ((.agg [.agg []],.fp [] 16 1)::(.nilifc,.agg [I p.1,I p.2])::tP L))):=rfl
 rw[e1,show chC L=some (.blk true (.map true ((.agg [.agg []],.fp [] 16 1)::tP L))) from rfl]
 generalize tP L=sl
 generalize l.set p.1 (p.2:Int)=l2 at *
 (sym=>(simp[Za,Zb,Zc,Zf,Zg,Zh,Zj,Zl,Zm,Zv,Zw,Z5,ZE,ZG,ZK,ZL,ZO,ZP,ZX,Yi,YX,YZ,Xc,Xd,Xh,Xi,Xr,Xs,Xt,Xw,Xx,XI,Ws,W3,W4,W5,W6,W7,W8,W9,WA,WC,WE,WF,WG,WH,WI,WJ,WK,WL,WM,WN,WO,WP,WQ,WR,WS,WT,WU,WV,WW,WY,WZ,Vb,Vc,Ve,Vf,Vg,Vh,Vi,Vj,Vk,Vl,Vv,Vx,Vy,V0,V1,V3,VQ,VR,VS,VT,VU,VV,VZ,Ua,Ub,Uc,Ud,Ue,Uf,Ug,Uh,Uk,Um,Uq,Uu,Ux,U2,U3,U4,U5,U6,U7,U8,UF,Tf,Tg,Tj,Tl,Tm,Tu,Tw,Ty,Tz,T2,T5,T6,Sl,SD,SE,SF,SI,SJ,SK,SP,SX,SY,Ra,Rh,Rj,y];all_goals tactic=>exact rfl))
def whL (F:Nat) (L:List (Nat×Nat)):List Int:=L.foldl (fun o p=>o.set p.1 (p.2:Int)) (List.replicate F nev)
theorem tV {F:Nat} {L:List (Nat×Nat)}:(whL F L).length=F:=by
 have:∀ (M:List (Nat×Nat)) (o:List Int),(M.foldl (fun o p=>o.set p.1 (p.2:Int)) o).length=o.length:=by
  intro M
  induction M with
  | nil=>intro o;rfl
  | cons p M ih=>intro o;rw[List.foldl_cons,ih,List.length_set]
 rw[whL,this,List.length_replicate]
theorem aEI {F:Nat} {L:List (Nat×Nat)} {i:Nat} {p:Nat×Nat} (h:L[i]?=some p):whL F (L.take (i+1))=(whL F (L.take i)).set p.1 (p.2:Int):=by
 rw[whL,List.take_add_one,h,List.foldl_append];rfl
theorem aMa {x:Vn} (ok:x.Ok) {cl sn:Nat} (hcl:cl<2^x.F) (hs:sn≤1000) (hm:∀ p∈kJ x cl sn,p.1<x.F) :
 runW aA 76 [.fn (.yield 0) [] [],.pt 3 0,.pt 4 0,.pt 5 0] [some (.loop 20 0 [.pt 1 0] .ready),some (.blk false (.cells true [.sl 2 0 1 x.F])),some (.blk true (.cells true ((List.replicate x.F nev).map I))),some (.blk true (.cells true x.c)),some (.blk true (.cells true [I cl])),some (.blk true (.cells true [I sn]))] =
  some (.tup [],[some (.loop 20 0 [.pt 1 0] .ready),some (.blk false (.cells true [.sl 2 0 1 x.F])),some (.blk true (.cells true ((whL x.F (kJ x cl sn)).map I))),some (.blk true (.cells true x.c)),some (.blk true (.cells true [I cl])),some (.blk true (.cells true [I sn]))]):=by
 have w:=w77 ok hcl hs
 have hF:=ok.F16
 generalize hL:kJ x cl sn=L at *
 have rd:=fun(i:Nat) (hi:i<L.length)=>aFp (x:=x) (cl:=cl) (sn:=sn) (L:=L.drop (i+1)) (p:=L[i]) (tV (F:=x.F) (L:=L.take i)) hF (hm _ (List.getElem_mem hi))
 have z:(whL x.F (L.take 0))=List.replicate x.F nev:=rfl
 generalize hr:(List.replicate x.F nev)=rp at *
 have zl:rp.length=x.F:=by rw[←hr,List.length_replicate]
 have zw:(whL x.F L).length=x.F:=tV
 rw[r76 (by simp)];unfold x76;dsimp only
 have w:runW aA 77 [.agg x.c,I cl,I sn,.ch 0] [some (.blk true (.map true [(.agg [.agg []],.fp [] 16 0)]))]=some (.tup [],[some (.blk true (.map true ((.agg [.agg []],.fp [] 16 1)::tP L)))]):=w
 generalize hs0:tP L=sl at *
 generalize hwl:whL x.F L=wl at *
 sym =>
  simp[Za,Zb,Zf,Zg,Zh,Zj,Zl,Zm,Zv,ZG,ZO,ZP,ZT,ZU,YX,YZ,Xb,Xr,Xt,Xu,Xv,Wl,Wp,W3,W4,W5,W6,W7,W8,W9,WA,WB,WC,WE,WG,WH,WK,WL,WM,WN,WP,WQ,WU,WV,WW,WY,WZ,Vf,Vi,Vj,Vk,Vl,Vv,Vx,Vy,Vz,V0,V1,V3,VO,VY,VZ,Ua,Ub,Uc,Ud,Ug,Uh,Ux,U2,U3,U4,U5,U6,UD,UE,Tf,Tg,Tj,Tk,Tu,Ty,Tz,T6,T7,Sw,SD,SE,SF,SG,SI,SJ,SK,SQ,Rh,Rj,Rk,Rl,w]
  tactic =>
   unfold uU
   rw[aE L.length (fun _=>[.fn (.yield 0) [] [],.ch 6]) (fun i=>gW x cl sn (whL x.F (L.take i)) (chC (L.drop i)))]
   ·rw[show whL x.F (L.take L.length)=wl from by rw[List.take_length];exact hwl,show chC (L.drop L.length)=some (.blk true (.map true [(.agg [.agg []],.fp [] 16 1)])) from by rw[List.drop_length];rfl,gW,zw]; (sym=>(simp[Za,Zb,Zf,Zh,Zl,Zm,ZE,ZO,Yi,Xa,Xc,Xd,Xu,Xw,Xx,XM,Wh,W3,W6,WC,WE,WI,WK,WM,WO,WQ,WR,WS,WY,WZ,Vb,Vc,Ve,Vf,Vg,Vh,Vv,V8,VA,VC,VD,VE,VF,VH,VJ,VQ,VT,VV,VZ,Ua,Ub,Uc,Ud,Ue,Uf,Ux,U3,U4,U5,U6,U9,UD,Tu,Tx,Tz,T0,T4,T6,Sw,SP,SX,SZ,Ra];all_goals tactic=>exact rfl))
   ·rw[z,show chC (L.drop 0)=some (.blk true (.map true ((.agg [.agg []],.fp [] 16 1)::sl))) from by rw[←hs0];rfl,gW,zl]; (sym=>(simp[Za,Xc,Xd,Xh,Xw,Xx,XI,W3,WB,WE,WF,WH,WI,WK,WL,WM,WO,WQ,WR,WS,WT,WY,WZ,Vb,Vc,Ve,Vf,Vg,Vh,VO,VR,VS,VZ,Ua,Ub,Uc,Ud,Ue,Uf,Uk,Ux,U3,U4,U5,U6,T5,SE,SG,Rh,Rj];all_goals tactic=>exact rfl))
   ·intro i hi
    have h:=rd i hi
    rw[←aEI (List.getElem?_eq_getElem hi),List.getElem_cons_drop]at h
    exact h
   ·rw[show whL x.F (L.take L.length)=wl from by rw[List.take_length];exact hwl,show chC (L.drop L.length)=some (.blk true (.map true [(.agg [.agg []],.fp [] 16 1)])) from by rw[List.drop_length];rfl,gW,zw]; (sym=>(simp[Za,Zb,Zf,Zh,Zl,Zm,ZE,ZO,Yi,W3,W6,WC,VQ,VT,VV,VW,Tu,Tx,Tz,T0,T6,SP,SX,SZ,Ra];all_goals tactic=>exact rfl))
end Go.Proofs.YtiabjdfdkiijmaaDoor
namespace Go.Proofs.YtiabjdfdkiijmaaDoor
open Go Go.DL

theorem aEh {x:Vn} (ok:x.Ok) {cl:Nat} (hcl:cl<2^x.F) {i:Nat} {m n:Nat} (h:m≤n) (hi:(bC x cl m).testBit i=true):(bC x cl n).testBit i=true:=by
 induction n with
 | zero=>rw[show m=0 by omega]at hi;exact hi
 | succ n ih =>
   by_cases e:m=n+1
   ·rw[←e];exact hi
   ·exact wD ok hcl n i (ih (by omega))
theorem eH {a F i:Nat} (h:a<2^F) (hi:a.testBit i=true):i<F:=by
 by_cases e:i<F
 ·exact e
 ·rw[sX h (by omega)]at hi;simp at hi
theorem aGE {x:Vn} (ok:x.Ok) {cl:Nat}:∀ n,∀ p∈kJ x cl n,p.1<x.F
 | 0=>by
   intro p hp
   simp only[kJ,List.mem_map,iC]at hp
   obtain⟨k,hk,rfl⟩:=hp
   exact eH (dV ok cl 0) hk.2
 | n+1=>by
   intro p hp
   rw[kJ,List.mem_append]at hp
   rcases hp with hp|hp
   ·exact aGE ok n p hp
   ·simp only[List.mem_map,iC]at hp
    obtain⟨k,hk,rfl⟩:=hp
    exact eH (sQ (dV ok cl (n+1))) hk.2
theorem aIj (L:List (Nat×Nat)) (i:Nat):(orL L).testBit i=L.any (·.1=i):=by
 have:∀ (M:List (Nat×Nat)) (o:Nat),(M.foldl (fun o p=>o|||2^p.1) o).testBit i=(o.testBit i||M.any (·.1=i)):=by
  intro M
  induction M with
  | nil=>intro o;simp
  | cons p M ih=>intro o;rw[List.foldl_cons,ih,dL,List.any_cons,Bool.or_assoc]
 rw[orL,this];simp
theorem aIi {x:Vn} (ok:x.Ok) {cl:Nat} (hcl:cl<2^x.F):∀ n,orL (kJ x cl n)=bC x cl n:=by
 have hF:=ok.F16
 have hp:=aT hF
 intro n
 apply Nat.eq_of_testBit_eq
 intro i
 rw[aIj]
 induction n with
 | zero =>
   rw[kJ,List.any_map,Bool.eq_iff_iff]
   simp only[List.any_eq_true,iC,Function.comp,decide_eq_true_eq]
   constructor
   ·rintro ⟨k,hk,rfl⟩;exact hk.2
   ·intro h;exact⟨i,⟨by have:=eH (dV ok cl 0) h;omega,h⟩,rfl⟩
 | succ n ih =>
   have hl:=dV ok cl n
   rw[kJ,List.any_append,ih,List.any_map,Bool.eq_iff_iff,Bool.or_eq_true]
   simp only[List.any_eq_true,iC,Function.comp,decide_eq_true_eq]
   constructor
   ·rintro (h|⟨k,hk,rfl⟩)
    ·exact wD ok hcl n i h
    ·rw[bO (by omega)]at hk
     simp only[Bool.and_eq_true]at hk
     exact hk.2.1
   ·intro h
    by_cases h1:(bC x cl n).testBit i=true
    ·exact .inl h1
    ·have:=eH (dV ok cl (n+1)) h
     refine .inr ⟨i,⟨by omega,?_⟩,rfl⟩
     rw[bO (by omega),h]
     simp only[Bool.not_eq_true]at h1
     simp[h1];omega
def whO (x:Vn) (cl n f:Nat):Int:=match (List.range (n+1)).find? (fun m=>(bC x cl m).testBit f)with
 | some m=>(m:Int)
 | none=>nev
theorem zK {c:Int} (f:Nat):∀ (ks:List Nat) (l:List Int),((ks.map fun k=>(k,c)).foldl (fun o p=>o.set p.1 p.2) l)[f]?=if f∈ks∧f<l.length then some c else l[f]?
 | [],l=>by simp
 | k::ks,l=>by
   rw[List.map_cons,List.foldl_cons,zK f ks,List.length_set,List.getElem?_set]
   by_cases h1:f∈ks
   ·by_cases h2:f<l.length
    ·simp[h1,h2]
    ·have:l[f]?=none:=List.getElem?_eq_none (by omega)
     simp only[h1,h2,and_false,if_false,List.mem_cons,or_true,this]
     split
     ·next h=>rw[if_neg (by omega)]
     ·rfl
   ·by_cases hk:k=f
    ·subst hk
     simp only[h1,false_and,if_false,if_true,List.mem_cons,true_or,true_and]
     split
     ·rfl
     ·rw[List.getElem?_eq_none (by omega)]
    ·have:¬f∈k::ks:=by simp[h1];omega
     simp[h1,hk];intro h;omega
theorem aEH {x:Vn} (ok:x.Ok) {cl:Nat} (hcl:cl<2^x.F) (n f:Nat):whO x cl (n+1) f=if (bC x cl (n+1)).testBit f && !(bC x cl n).testBit f then ((n+1:Nat):Int) else whO x cl n f:=by
 unfold whO
 rw[List.range_succ,List.find?_append]
 by_cases h1:(bC x cl n).testBit f=true
 ·rw[h1]
  have:∃ m,(List.range (n+1)).find? (fun m=>(bC x cl m).testBit f)=some m:=by
   cases h:(List.range (n+1)).find? (fun m=>(bC x cl m).testBit f)with
   | some m=>exact⟨m,rfl⟩
   | none =>
     rw[List.find?_eq_none]at h
     exact absurd h1 (h n (List.mem_range.2 (by omega)))
  obtain⟨m,hm⟩:=this
  rw[hm];simp
 ·have:(List.range (n+1)).find? (fun m=>(bC x cl m).testBit f)=none:=by
   rw[List.find?_eq_none]
   intro m hm h
   rw[List.mem_range]at hm
   exact h1 (aEh ok hcl (by omega) h)
  rw[this]
  simp only[Bool.not_eq_true]at h1
  rw[h1,List.find?_singleton]
  cases (bC x cl (n+1)).testBit f<;>simp
theorem aHj {x:Vn} (ok:x.Ok) {cl:Nat} (hcl:cl<2^x.F):∀ n,whL x.F (kJ x cl n)=(List.range x.F).map (whO x cl n):=by
 have hF:=ok.F16
 have hp:=aT hF
 intro n
 apply List.ext_getElem?
 intro f
 rw[List.getElem?_map]
 by_cases hf:f<x.F
 ·rw[List.getElem?_range hf]
  show _=some (whO x cl n f)
  induction n with
  | zero =>
    rw[whL,kJ]
    have:=zK (c:=0) f (el (bC x cl 0)) (List.replicate x.F nev)
    rw[List.foldl_map]at this ⊢
    rw[show (fun(o:List Int) (k:Nat)=>o.set (k,0).1 ((k,0).2:Nat))=(fun(o:List Int) (k:Nat)=>o.set (k,(0:Int)).1 (k,(0:Int)).2) from rfl,this]
    rw[List.length_replicate,List.getElem?_replicate]
    simp only[iC]
    unfold whO
    rw[List.range_succ,List.range_zero,List.nil_append,List.find?_singleton]
    cases (bC x cl 0).testBit f
    ·simp[hf]
    ·have:f<16:=by omega
     simp[hf,this]
  | succ n ih =>
    have hl:=dV ok cl n
    rw[aEH ok hcl]
    have:=zK (c:=((n+1:Nat):Int)) f (el (fS (bC x cl (n+1)) (bC x cl n))) (whL x.F (kJ x cl n))
    rw[whL,kJ,List.foldl_append]
    rw[List.foldl_map]at this ⊢
    rw[show (fun(o:List Int) (k:Nat)=>o.set (k,n+1).1 ((k,n+1).2:Nat))=(fun(o:List Int) (k:Nat)=>o.set (k,((n+1:Nat):Int)).1 (k,((n+1:Nat):Int)).2) from rfl]
    rw[show List.foldl (fun(o:List Int) (p:Nat×Nat)=>o.set p.1 (p.2:Int)) (List.replicate x.F nev) (kJ x cl n)=whL x.F (kJ x cl n) from rfl,this,ih,tV]
    simp only[iC,bO (show bC x cl n<2^64 by omega)]
    have h16:f<16:=by omega
    have h64:f<64:=by omega
    simp only[h16,h64,hf,true_and,and_true,decide_true,Bool.true_and]
    split<;>rfl
 ·rw[List.getElem?_eq_none (by rw[tV];omega),List.getElem?_eq_none (by rw[List.length_range];omega)];rfl
end Go.Proofs.YtiabjdfdkiijmaaDoor
namespace Go.Proofs.YtiabjdfdkiijmaaDoor
open Go Go.DL
set_option maxRecDepth 100000
set_option maxHeartbeats 4000000
theorem w51 (x:Vn) (cl sn:Nat):runW aA 51 [.agg x.c,I cl,I sn] []=some (.fn (.func 76) [] [.pt 0 0,.pt 1 0,.pt 2 0],[some (.blk true (.cells true x.c)),some (.blk true (.cells true [I cl])),some (.blk true (.cells true [I sn]))]):=by
 rw[r51 (by simp)];unfold x51;dsimp only
 (sym=>(simp[Za,Zb,Zf,Zh,Zl,Zo,Zv,Zx,Zz,Xd,Xg,Xi,Xk,Xl,Xx,X0,XV,We,Wg,Wi,Wo,Wq,Ws,W3,WB,WE,WF,WH,WI,WK,WL,WM,WO,WQ,WR,WS,WT,WY,WZ,Vf,Vv,V9,VA,VC,VD,VE,VF,VG,VJ,VK,VL,VM,VO,VY,VZ,Ua,Ub,Uc,Ud,Uf,Ug,Uh,Uk,Um,Ux,U3,U4,U5,U6,U7,U8,UD,UE,US,UT,Tn,Tu,Tv,Tz,T6,T7,TK,Sw];all_goals tactic=>exact rfl))
theorem w46 {x:Vn} (ok:x.Ok) {cl sn:Nat} (hcl:cl<2^x.F) (hs:sn≤1000):runW aA 46 [.agg x.c,I cl,I sn] []=some (nL (dA (el (bC x cl sn))),[]):=by
 have hF:=ok.F16
 have e1:=w51 x cl sn
 have e2:=aMb ok hcl hs (fun p hp=>by have:=aGE ok sn p hp;omega)
 rw[aIi ok hcl]at e2
 have e3:=w63 (aJi ok (dV ok cl sn))
 generalize dA (el (bC x cl sn))=os at *
 generalize bC x cl sn=q at *
 have e2:runW aA 76 [.fn (.yield 0) [] [],.pt 2 0,.pt 3 0,.pt 4 0] [some (.loop 46 0 [.pt 1 0] .ready),some (.blk true (.cells true [.int .i64 0])),some (.blk true (.cells true x.c)),some (.blk true (.cells true [I cl])),some (.blk true (.cells true [I sn]))] =
  some (.tup [],[some (.loop 46 0 [.pt 1 0] .ready),cI q,some (.blk true (.cells true x.c)),some (.blk true (.cells true [I cl])),some (.blk true (.cells true [I sn]))]):=e2
 rw[r46 (by simp)];unfold x46;dsimp only
 (sym=>(simp[Za,Zb,Zf,Zg,Zh,Zj,Zl,Zm,Zo,Zv,Zw,Zz,ZG,ZO,ZP,ZT,ZU,YX,YZ,Xb,Xd,Xh,Xi,Xk,Xl,Xr,Xt,Xu,Xv,Xx,X0,XI,XJ,XN,We,Wg,Wi,Ws,W3,W4,W5,W6,W7,W8,W9,WA,WB,WC,WE,WF,WG,WH,WJ,WK,WL,WM,WN,WO,WP,WQ,WR,WS,WU,WV,WW,WY,WZ,Vc,Vf,Vh,Vi,Vj,Vk,Vl,Vv,Vx,Vy,Vz,V0,V1,V3,V9,VA,VC,VD,VE,VF,VG,VJ,VK,VL,VM,VO,VY,VZ,Ua,Ub,Uc,Ud,Uf,Ug,Uh,Uk,Um,Ux,U2,U3,U4,U5,U6,U7,U8,UD,UE,US,UT,Tf,Tg,Tj,Tk,Tn,Tu,Tv,Ty,Tz,T2,T6,T7,Sa,Sb,Se,Sf,Sg,Si,Sj,Sk,Sw,SD,SE,SF,SG,SI,SJ,SK,e1,e2,e3];all_goals tactic=>exact rfl))
def aCQ (x:Vn):List Int:=(List.range x.F).map (whO x 0 117)
theorem w20 (v:Va) (hb:v.bs.length<1000000000) (hp:v.ps.length<1000000000) :
 (vE v≠0∧runW aA 20 [.agg v.c] []=some (.tup [.fs [],I (vE v)],[]))∨(vE v=0∧∃ (x:Vn),x.Ok∧v=x.v∧runW aA 20 [.agg v.c] []=some (.tup [nL (aCQ x),I 0],[])):=by
 have e0:=w23 v hb hp
 by_cases hv:vE v=0
 ·right
  refine⟨hv,?_⟩
  rw[hv]at e0
  obtain⟨x,ok,rfl⟩:=aJu hv
  refine⟨x,ok,rfl,?_⟩
  have e0:runW aA 23 [.agg x.c] []=some (I 0,[]):=e0
  have h0:0<2^x.F:=Nat.two_pow_pos _
  have e1:runW aA 51 [.agg x.c,I 0,I 117] []=some (.fn (.func 76) [] [.pt 0 0,.pt 1 0,.pt 2 0],[some (.blk true (.cells true x.c)),some (.blk true (.cells true [I 0])),some (.blk true (.cells true [I 117]))]):=w51 x 0 117
  have e2:=aMa ok h0 (sn:=117) (by omega) (fun p hp=>aGE ok 117 p hp)
  have e5:=w50 (x.F-1) (by have:=ok.F16;omega)
  rw[show x.F-1+1=x.F by have:=ok.F1;omega]at e5
  rw[aHj ok h0]at e2
  show runW aA 20 [.agg x.c] []=_
  rw[show nL (aCQ x)=nL ((List.range x.F).map (whO x 0 117)) from rfl]
  have hz:((List.range x.F).map (whO x 0 117)).length=x.F:=by simp
  generalize (List.range x.F).map (whO x 0 117)=os at *
  generalize hr:List.replicate x.F nev=rp at *
  have e2:runW aA 76 [.fn (.yield 0) [] [],.pt 3 0,.pt 4 0,.pt 5 0] [some (.loop 20 0 [.pt 1 0] .ready),some (.blk false (.cells true [.sl 2 0 1 x.F])),some (.blk true (.cells true (rp.map I))),some (.blk true (.cells true x.c)),some (.blk true (.cells true [I 0])),some (.blk true (.cells true [I 117]))] =
   some (.tup [],[some (.loop 20 0 [.pt 1 0] .ready),some (.blk false (.cells true [.sl 2 0 1 x.F])),some (.blk true (.cells true (os.map I))),some (.blk true (.cells true x.c)),some (.blk true (.cells true [I 0])),some (.blk true (.cells true [I 117]))]):=e2
  have z1:(x.F≤os.length)=True:=eq_true (by omega)
  have z2:dC (os.map I) 0 1 x.F=os.map fun v=>[I v]:=by rw[←hz];exact TO
  rw[r20 (by simp)];unfold x20;dsimp only
  (sym=>(simp[Za,Zb,Zc,Zd,Ze,Zf,Zg,Zh,Zj,Zl,Zm,Zo,Zv,Zw,Zz,Z1,Z3,Z8,ZG,ZK,ZL,ZO,ZP,ZT,ZU,Ya,Yr,YX,YZ,Xa,Xb,Xc,Xd,Xh,Xi,Xk,Xl,Xm,Xo,Xr,Xt,Xu,Xv,Xw,Xx,X0,XI,XJ,XM,XO,XX,XZ,Wb,We,Wg,Wh,Wi,Wq,Ws,Wu,W3,W4,W5,W6,W7,W8,W9,WA,WB,WC,WE,WF,WG,WH,WJ,WK,WL,WM,WN,WO,WP,WQ,WR,WS,WU,WV,WW,WY,WZ,Vb,Vc,Vf,Vg,Vh,Vi,Vj,Vk,Vl,Vs,Vt,Vu,Vv,Vw,Vx,Vy,V0,V1,V3,V4,V5,V6,V7,V9,VA,VC,VD,VE,VF,VI,VJ,VK,VL,VM,VO,VT,VV,VY,VZ,Ua,Ub,Uc,Ud,Uf,Ug,Uh,Ui,Uk,Um,Uo,Uq,Uu,Ux,Uy,U0,U1,U2,U3,U4,U5,U6,U7,U8,U9,UA,UB,UC,UD,UE,UF,UG,UH,UI,US,UT,UU,UV,UW,UX,Tf,Tg,Tj,Tk,Tl,Tm,Tn,Tt,Tu,Tv,Tw,Ty,Tz,T2,T6,T7,TI,TJ,TP,Sa,Sb,Se,Sf,Sg,Si,Sj,Sk,Sw,Sx,Sy,SD,SE,SF,SI,SJ,SK,e0,e1,e2,e5,z1,z2];all_goals tactic=>exact rfl))
 ·left
  refine⟨hv,?_⟩
  have n0:=vW hv
  generalize vE v=er at *
  rw[r20 (by simp)];unfold x20;dsimp only
  (sym=>(simp[Za,Zb,Zf,Zg,Zh,Zj,Zl,Zm,Zo,Zv,Zz,Z3,ZG,ZO,ZP,ZT,ZU,Yr,YX,YZ,Xa,Xb,Xi,Xk,Xl,Xr,Xt,Xu,Xv,XJ,XM,XQ,We,Wg,Wh,Wi,Wm,Ws,W3,W4,W5,W7,W8,W9,WA,WB,WK,WN,WO,WP,WQ,WR,WS,WU,WV,Vi,Vj,Vk,Vv,Vx,Vy,V0,V1,V3,V9,VA,VC,VD,VE,VF,VI,VJ,VK,VL,VM,VO,VT,VU,VY,VZ,Ua,Uc,Ud,Uf,Ug,Uh,Um,Ur,Uz,U2,U3,U4,U5,U6,U7,U8,U9,UA,UD,UE,US,UT,Tf,Tg,Tj,Tn,Tt,Tu,Tv,Tz,T1,T6,T7,Sw,SD,SE,SF,SI,SJ,SK,e0,n0];all_goals tactic=>exact rfl))
abbrev gO (x:Vn):List Int→XH
 | []=>[some (.blk true (.cells true x.c))]
 | a::r=>[some (.blk true (.cells true x.c)),some (.blk true (.cells true (I a::r.map I)))]
theorem uM {x:Vn} {c:List Int} (h:iZ x c=0):dH c c.length<2^x.F:=tY _ (fun j hj=>gH h j hj) (Nat.le_refl _)
theorem aHP {x:Vn} (ok:x.Ok) {cl:Nat} (hcl:cl<2^x.F) {s:Int} {i:Nat} (hi:(i:Int)<s) (hs:s≤100) :
 aV 0 [2,3,8,10,11] (execW aA 26 0 none (match aCO with | .loop _ a=>a|c=>c) (aR [2,3,8,10,11] [I s,.pt 0 0,I cl,I (bC x cl i:Nat),I (i:Nat)]) (iO x))=some ([I s,.pt 0 0,I cl,I (bC x cl (i+1):Nat),I (i+1:Nat)],iO x):=by
 have e:runW aA 48 [.agg x.c,I (bC x cl i:Nat),I cl,I (i:Nat)] []=some (I (tQ x (bC x cl i) cl (i:Int):Nat),[]):=w48 (n:=(i:Int)) ok (dV ok cl i) hcl
 have a1:((i:Int)<s)=True:=eq_true hi
 have a2:IntKind.i64.wrap ((i:Int)+1)=(i:Int)+1:=aD (by omega) (by omega)
 rw[show bC x cl (i+1)=tQ x (bC x cl i) cl (i:Int) from rfl]
 generalize tQ x (bC x cl i) cl (i:Int)=r at *
 generalize bC x cl i=q at *
 unfold aCO
 dsimp only
 (sym=>(simp[Za,Zb,Zf,Zg,Zh,Zj,Zl,Zm,Zv,Z3,ZG,ZO,ZP,ZT,ZU,Yj,Ys,YX,YZ,Xb,Xd,Xr,Xt,Xv,Xx,W3,W4,W5,W7,W8,W9,WA,WE,WH,WI,WK,WL,WM,WN,WO,WP,WQ,WR,WS,WT,WU,WV,WY,WZ,Vf,Vi,Vj,Vk,Vv,Vx,Vy,V0,V1,V3,VQ,VR,VS,VT,VU,VZ,Ua,Uc,Ud,Uf,Ug,Uh,Uk,Ux,Uy,U2,U3,U4,U5,U6,Tf,Tg,Tj,Tt,Tu,Tw,Ty,Tz,T2,T5,T6,T7,TK,SD,SE,SF,SI,SJ,SK,e,a1,a2];all_goals tactic=>exact rfl))
section
variable {x:Vn} (ok:x.Ok) {c:List Int} (hc:c.length<1000000000)
include ok hc
theorem aMk (h23:runW aA 23 [.agg x.c] []=some (I 0,[])) (h0:iZ x c=0) {n:Nat} (hn:n≤100) :
 runW aA 25 [.agg x.c,nL c,I n] []=some (.tup [nL (dA (el (bC x (dH c c.length) n))),I 0],[]):=by
 have e0:=aHn ok hc h23
 have hl:=uM h0
 rw[if_pos h0]at e0
 have e1:=w45 0 n 100
 rw[iP.2 ⟨by omega,by omega⟩]at e1
 have e3:=w46 ok hl (sn:=n) (by omega)
 generalize dA (el (bC x (dH c c.length) n))=os at *
 generalize dH c c.length=q at *
 rw[r25 (by simp)];unfold x25;dsimp only
 (sym=>(simp[Za,Zb,Zf,Zg,Zh,Zj,Zl,Zm,Zo,Zv,Zz,Z3,Z5,ZE,ZG,ZO,ZP,ZT,ZU,ZX,Yi,Yr,YX,YZ,Xa,Xb,Xi,Xk,Xl,Xr,Xs,Xt,Xu,Xv,XJ,XM,XN,We,Wg,Wh,Wi,Ws,W3,W4,W5,W7,W8,W9,WA,WB,WC,WK,WN,WO,WP,WQ,WR,WS,WU,WV,Vi,Vj,Vk,Vv,Vx,Vy,Vz,V0,V1,V3,V9,VA,VC,VD,VE,VF,VI,VJ,VK,VL,VM,VO,VT,VV,VY,VZ,Ua,Uc,Ud,Uf,Ug,Uh,Um,Uq,Uy,U2,U3,U4,U5,U6,U7,U8,U9,UA,UD,UE,US,UT,Tf,Tg,Tj,Tn,Tt,Tu,Tv,Tw,Ty,Tz,T2,T6,T7,Sw,SD,SE,SF,SG,SI,SJ,SK,e0,e1,e3];all_goals tactic=>exact rfl))
theorem aMh (h24:runW aA 24 [.agg x.c] []=some (I 0,[])) (h0:iZ x c=0) {n:Nat} (hn:n≤100) :
 runW aA 26 [.agg x.c,nL c,I n] []=some (.tup [nL (dA (el (bC x (dH c c.length) n))),I 0],[]):=by
 have e0:=aHm ok hc h24
 have hl:=uM h0
 have hp:=aT ok.F16
 have hk:=ok.s
 rw[if_pos h0]at e0
 have e1:=w47 0 n 100
 rw[iP.2 ⟨by omega,by omega⟩]at e1
 generalize dH c c.length=cl at *
 have rd:=fun i (hi:i<n)=>aHP ok hl (s:=(n:Int)) (i:=i) (by omega) (by omega)
 have el:=w49 (aJi ok (dV ok cl n))
 have z:=Te (n:=(n:Int))
 have d1:=gJ bR (a:=x.sick) (b:=cl) (by omega) (by omega)
 rw[show fS x.sick cl=bC x cl 0 from rfl]at d1
 generalize dA (Go.Proofs.YtiabjdfdkiijmaaDoor.el (bC x cl n))=os at *
 generalize hi0:bC x cl 0=q0 at d1
 rw[r26 (by simp)];unfold x26;dsimp only
 sym =>
  simp[Za,Zb,Zf,Zg,Zh,Zj,Zl,Zm,Zo,Zp,Zq,Zv,Zy,Zz,Z3,Z5,Z8,ZE,ZG,ZO,ZP,ZT,ZU,ZV,ZX,Ya,Yi,Yq,Yr,YX,YZ,Xb,Xi,Xk,Xl,Xr,Xs,Xt,Xu,Xv,XN,We,Wg,Wi,Ws,W3,W4,W5,W7,W8,W9,WA,WB,WC,WK,WN,WP,WU,WV,Vi,Vj,Vk,Vv,Vx,Vy,Vz,V0,V1,V3,VO,VT,VV,VY,VZ,Ua,Uc,Ud,Ug,Uh,Um,Uq,Uy,U2,U3,U4,U5,U6,U7,U8,UD,UE,US,UT,Tf,Tg,Tj,Tk,Tn,Tt,Tu,Tw,Ty,Tz,T6,T7,Sw,SC,SD,SE,SF,SG,SI,SJ,SK,e0,e1,d1]
  tactic =>
   unfold aCO
   rw[aE n (fun i=>[I n,.pt 0 0,I cl,I (bC x cl i:Nat),I (i:Nat)]) (fun _=>iO x)]
   ·generalize bC x cl n=q at *
    (sym=>(simp[Za,Zb,Zf,Zh,Zl,Zm,Zv,Z3,ZO,ZP,ZT,ZU,Ys,YX,Xa,Xb,Xr,Xu,Xv,XJ,XM,XN,We,Wh,Wi,WA,WK,WN,WO,WP,WQ,WR,WS,WU,WV,Vi,Vj,Vk,Vv,V9,VA,VC,VD,VE,VF,VI,VJ,VK,VL,VM,VQ,VT,VV,VZ,Ua,Uc,Ud,Uf,Ug,Uh,Uz,U2,U3,U4,U5,U6,U9,UA,UD,UE,Te,Tt,Tu,Tv,Tx,Tz,T0,T4,T6,T7,Sw,z,el];all_goals tactic=>exact rfl))
   ·rw[hi0]; (sym=>(simp[Za,Y9,YX,Xd,Xr,Xx,W3,WB,WE,WH,WI,WK,WL,WM,WO,WQ,WR,WS,WT,WY,WZ,Vf,VO,VR,VS,VZ,Ua,Uc,Ud,Uf,Uk,Ux,U3,U4,U5,U6,T5,TK,SE,SG];all_goals tactic=>exact rfl))
   ·exact rd
   ·generalize bC x cl n=q at *
    (sym=>(simp[Za,Zb,Zf,Zh,Zl,Zm,Zv,Z3,Ys,VQ,VT,VV,VW,Uz,Te,Tt,Tu,Tx,Tz,T0,T6,z];all_goals tactic=>exact rfl))
theorem aMm (h23:runW aA 23 [.agg x.c] []=some (I 0,[])) (h0:iZ x c≠0) (s:Int):runW aA 25 [.agg x.c,nL c,I s] []=some (.tup [.fs [],I (iZ x c)],[]):=by
 have e0:=aHn ok hc h23
 rw[if_neg h0]at e0
 have n0:=vW h0
 generalize iZ x c=er at *
 rw[r25 (by simp)];unfold x25;dsimp only
 (sym=>(simp[Za,Zb,Zf,Zg,Zh,Zj,Zl,Zm,Zo,Zv,Zz,Z3,ZE,ZG,ZO,ZP,ZT,ZU,Yi,Yr,YX,YZ,Xa,Xb,Xi,Xk,Xl,Xr,Xt,Xu,Xv,XJ,XM,XN,XQ,We,Wg,Wh,Wi,Wm,Ws,W3,W4,W5,W7,W8,W9,WA,WB,WC,WK,WN,WO,WP,WQ,WR,WS,WU,WV,Vi,Vj,Vk,Vv,Vx,Vy,Vz,V0,V1,V3,V9,VA,VC,VD,VE,VF,VI,VJ,VK,VL,VM,VO,VT,VU,VY,VZ,Ua,Uc,Ud,Uf,Ug,Uh,Um,Ur,Uz,U2,U3,U4,U5,U6,U7,U8,U9,UA,UD,UE,US,UT,Tf,Tg,Tj,Tn,Tt,Tu,Tv,Ty,Tz,T1,T3,T6,T7,Sw,SD,SE,SF,SG,SI,SJ,SK,e0,n0];all_goals tactic=>exact rfl))
theorem aMj (h24:runW aA 24 [.agg x.c] []=some (I 0,[])) (h0:iZ x c≠0) (s:Int):runW aA 26 [.agg x.c,nL c,I s] []=some (.tup [.fs [],I (iZ x c)],[]):=by
 have e0:=aHm ok hc h24
 rw[if_neg h0]at e0
 have n0:=vW h0
 generalize iZ x c=er at *
 rw[r26 (by simp)];unfold x26;dsimp only
 (sym=>(simp[Za,Zb,Zf,Zg,Zh,Zj,Zl,Zm,Zo,Zp,Zs,Zv,Zy,Zz,Z3,ZE,ZG,ZO,ZP,ZT,ZU,ZW,Yi,Yq,Yr,YX,YZ,Xa,Xb,Xi,Xk,Xl,Xr,Xt,Xu,Xv,XJ,XM,XN,XQ,We,Wg,Wh,Wi,Wm,Ws,W3,W4,W5,W7,W8,W9,WA,WB,WC,WK,WN,WO,WP,WQ,WR,WS,WU,WV,Vi,Vj,Vk,Vv,Vx,Vy,Vz,V0,V1,V3,V9,VA,VC,VD,VE,VF,VI,VJ,VK,VL,VM,VO,VT,VU,VV,VY,VZ,Ua,Uc,Ud,Uf,Ug,Uh,Um,Ur,Uz,U2,U3,U4,U5,U6,U7,U8,U9,UA,UD,UE,US,UT,Tf,Tg,Tj,Tn,Tt,Tu,Tv,Tw,Tz,T1,T6,T7,Sw,SD,SE,SF,SG,SI,SJ,SK,e0,n0];all_goals tactic=>exact rfl))
theorem aMl (h23:runW aA 23 [.agg x.c] []=some (I 0,[])) (h0:iZ x c=0) {s:Int} (hs:btw 0 s 100=false):runW aA 25 [.agg x.c,nL c,I s] []=some (.tup [.fs [],I 2],[]):=by
 have e0:=aHn ok hc h23
 rw[if_pos h0]at e0
 have e1:=w45 0 s 100
 rw[hs]at e1
 generalize dH c c.length=q at *
 rw[r25 (by simp)];unfold x25;dsimp only
 (sym=>(simp[Za,Zb,Zf,Zg,Zh,Zj,Zl,Zm,Zo,Zv,Zz,Z3,Z5,ZE,ZG,ZO,ZP,ZT,ZU,ZX,Yi,Yr,YX,YZ,Xa,Xb,Xi,Xk,Xl,Xr,Xs,Xt,Xu,Xv,XJ,XM,XN,XQ,We,Wg,Wh,Wi,Wm,Ws,W3,W4,W5,W7,W8,W9,WA,WB,WC,WK,WN,WO,WP,WQ,WR,WS,WU,WV,Vi,Vj,Vk,Vv,Vx,Vy,Vz,V0,V1,V3,V9,VA,VC,VD,VE,VF,VI,VJ,VK,VL,VM,VO,VT,VU,VV,VY,VZ,Ua,Uc,Ud,Uf,Ug,Uh,Um,Uq,Ur,Uy,U2,U3,U4,U5,U6,U7,U8,U9,UA,UD,UE,US,UT,Tf,Tg,Tj,Tn,Tt,Tu,Tv,Ty,Tz,T1,T3,T6,T7,Sw,SD,SE,SF,SG,SI,SJ,SK,e0,e1];all_goals tactic=>exact rfl))
theorem aMi (h24:runW aA 24 [.agg x.c] []=some (I 0,[])) (h0:iZ x c=0) {s:Int} (hs:btw 0 s 100=false):runW aA 26 [.agg x.c,nL c,I s] []=some (.tup [.fs [],I 2],[]):=by
 have e0:=aHm ok hc h24
 rw[if_pos h0]at e0
 have e1:=w47 0 s 100
 rw[hs]at e1
 generalize dH c c.length=q at *
 rw[r26 (by simp)];unfold x26;dsimp only
 (sym=>(simp[Za,Zb,Zf,Zg,Zh,Zj,Zl,Zm,Zo,Zp,Zq,Zv,Zy,Zz,Z3,Z5,ZE,ZG,ZO,ZP,ZT,ZU,ZV,ZX,Yi,Yq,Yr,YX,YZ,Xa,Xb,Xi,Xk,Xl,Xr,Xs,Xt,Xu,Xv,XJ,XM,XN,XQ,We,Wg,Wh,Wi,Wm,Ws,W3,W4,W5,W7,W8,W9,WA,WB,WC,WK,WN,WO,WP,WQ,WR,WS,WU,WV,Vi,Vj,Vk,Vv,Vx,Vy,Vz,V0,V1,V3,V9,VA,VC,VD,VE,VF,VI,VJ,VK,VL,VM,VO,VT,VU,VY,VZ,Ua,Uc,Ud,Uf,Ug,Uh,Um,Ur,Uy,Uz,U2,U3,U4,U5,U6,U7,U8,U9,UA,UD,UE,US,UT,Tf,Tg,Tj,Tn,Tt,Tu,Tv,Tz,T1,T6,T7,Sw,SD,SE,SF,SG,SI,SJ,SK,e0,e1];all_goals tactic=>exact rfl))
end
theorem aJt (v:Va) (hb:v.bs.length<1000000000) (hp:v.ps.length<1000000000) {c:List Int} (hc:c.length<1000000000) (s:Int) :
 (∃ e:Int,e≠0∧runW aA 25 [.agg v.c,nL c,I s] []=some (.tup [.fs [],I e],[])∧runW aA 26 [.agg v.c,nL c,I s] []=some (.tup [.fs [],I e],[])) ∨
 (∃ (x:Vn) (n:Nat),x.Ok∧v=x.v∧s=(n:Int)∧n≤100∧iZ x c=0∧runW aA 25 [.agg v.c,nL c,I s] []=some (.tup [nL (dA (el (bC x (dH c c.length) n))),I 0],[])∧runW aA 26 [.agg v.c,nL c,I s] []=some (.tup [nL (dA (el (bC x (dH c c.length) n))),I 0],[])):=by
 have a:=w23 v hb hp
 have b:=w24 v hb hp
 by_cases hv:vE v=0
 ·rw[hv]at a b
  obtain⟨x,ok,rfl⟩:=aJu hv
  have a:runW aA 23 [.agg x.c] []=some (I 0,[]):=a
  have b:runW aA 24 [.agg x.c] []=some (I 0,[]):=b
  by_cases h0:iZ x c=0
  ·cases h2:btw 0 s 100
   ·exact .inl ⟨2,by decide,aMl ok hc a h0 h2,aMi ok hc b h0 h2⟩
   ·have hs:=iP.1 h2
    obtain⟨n,rfl⟩:∃ n:Nat,s=n:=⟨s.toNat,by omega⟩
    exact .inr ⟨x,n,ok,rfl,rfl,by omega,h0,aMk ok hc a h0 (by omega),aMh ok hc b h0 (by omega)⟩
  ·exact .inl ⟨iZ x c,h0,aMm ok hc a h0 s,aMj ok hc b h0 s⟩
 ·left
  have e1:=aLb (c:=c) hb hp hv
  have e2:=aLa (c:=c) hb hp hv
  have n0:=vW hv
  refine⟨vE v,hv,?_,?_⟩
  ·generalize vE v=er at *
   rw[r25 (by simp)];unfold x25;dsimp only
   (sym=>(simp[Za,Zb,Zf,Zg,Zh,Zj,Zl,Zm,Zo,Zv,Zz,Z3,ZE,ZG,ZO,ZP,ZT,ZU,Yi,Yr,YX,YZ,Xa,Xb,Xi,Xk,Xl,Xr,Xt,Xu,Xv,XJ,XM,XN,XQ,We,Wg,Wh,Wi,Wm,Ws,W3,W4,W5,W7,W8,W9,WA,WB,WC,WK,WN,WO,WP,WQ,WR,WS,WU,WV,Vi,Vj,Vk,Vv,Vx,Vy,Vz,V0,V1,V3,V9,VA,VC,VD,VE,VF,VI,VJ,VK,VL,VM,VO,VT,VU,VY,VZ,Ua,Uc,Ud,Uf,Ug,Uh,Um,Ur,Uz,U2,U3,U4,U5,U6,U7,U8,U9,UA,UD,UE,US,UT,Tf,Tg,Tj,Tn,Tt,Tu,Tv,Ty,Tz,T1,T3,T6,T7,Sw,SD,SE,SF,SG,SI,SJ,SK,e1,n0];all_goals tactic=>exact rfl))
  ·generalize vE v=er at *
   rw[r26 (by simp)];unfold x26;dsimp only
   (sym=>(simp[Za,Zb,Zf,Zg,Zh,Zj,Zl,Zm,Zo,Zp,Zs,Zv,Zy,Zz,Z3,ZE,ZG,ZO,ZP,ZT,ZU,ZW,Yi,Yq,Yr,YX,YZ,Xa,Xb,Xi,Xk,Xl,Xr,Xt,Xu,Xv,XJ,XM,XN,XQ,We,Wg,Wh,Wi,Wm,Ws,W3,W4,W5,W7,W8,W9,WA,WB,WC,WK,WN,WO,WP,WQ,WR,WS,WU,WV,Vi,Vj,Vk,Vv,Vx,Vy,Vz,V0,V1,V3,V9,VA,VC,VD,VE,VF,VI,VJ,VK,VL,VM,VO,VT,VU,VV,VY,VZ,Ua,Uc,Ud,Uf,Ug,Uh,Um,Ur,Uz,U2,U3,U4,U5,U6,U7,U8,U9,UA,UD,UE,US,UT,Tf,Tg,Tj,Tn,Tt,Tu,Tv,Tw,Tz,T1,T6,T7,Sw,SD,SE,SF,SG,SI,SJ,SK,e2,n0];all_goals tactic=>exact rfl))
def eJ (x:Vn) (st:Nat→Nat):List AV:=x.c++(List.range 16).map fun k=>I (st k)
theorem dU (x:Vn) (st:Nat→Nat):(eJ x st).length=22:=by simp[eJ]
theorem hX {x:Vn} {st:Nat→Nat} {k:Nat} (h:k<16):(eJ x st)[6+k]?=some (I (st k)):=by
 rw[eJ,List.getElem?_append_right (by simp),show 6+k-x.c.length=k by simp,List.getElem?_map,List.getElem?_range h];rfl
theorem jI {l:List AV} {o:Nat} {v:AV} (h:o<l.length):bS l o [v]=l.set o v:=by
 rw[List.set_eq_take_append_cons_drop,if_pos h,bS];simp
def tN (st:Nat→Nat) (k v:Nat):Nat→Nat:=fun j=>if j=k then v else st j
theorem uH {x:Vn} {st:Nat→Nat} {k v:Nat} (h:k<16):bS (eJ x st) (6+k) [I v]=eJ x (tN st k v):=by
 rw[jI (by rw[dU];omega)]
 apply List.ext_getElem?
 intro j
 rw[List.getElem?_set,dU]
 by_cases hj:6+k=j
 ·subst hj
  rw[if_pos rfl,if_pos (by omega),hX h,tN,if_pos rfl]
 ·rw[if_neg hj]
  by_cases h6:j<6
  ·rw[eJ,eJ,List.getElem?_append_left (by simpa using h6),List.getElem?_append_left (by simpa using h6)]
  ·by_cases h22:j<22
   ·obtain⟨i,rfl⟩:∃ i,j=6+i:=⟨j-6,by omega⟩
    rw[hX (by omega),hX (by omega),tN,if_neg (by omega)]
   ·rw[List.getElem?_eq_none (by rw[dU];omega),List.getElem?_eq_none (by rw[dU];omega)]
def addS (st:Nat→Nat) (a b:Nat):Nat→Nat:=tN st a (st a|||2^b)
def stB (x:Vn) (i:Nat):Nat→Nat:=(x.bs.take i).foldl (fun st b=>addS (addS st b.1 b.2) b.2 b.1) fun _=>0
def stP (x:Vn) (i:Nat):Nat→Nat:=(x.ps.take i).foldl (fun st p=>addS st p.2.1 p.2.2) (stB x x.bs.length)
def cL (x:Vn):Nat→Nat:=stP x x.ps.length
theorem aAm {n:Nat} {st:Nat→Nat} {a b:Nat} (h:∀ k,st k<2^n) (hb:b<n):∀ k,addS st a b k<2^n:=by
 intro k
 unfold addS tN
 split
 ·exact oQ (h a) hb
 ·exact h k
theorem aET {x:Vn} (ok:x.Ok):∀ i k,stB x i k<2^x.F:=by
 intro i
 have:∀ (l:List (Nat×Nat)) (st:Nat→Nat),(∀ b∈l,b.1<x.F∧b.2<x.F)→(∀ k,st k<2^x.F)→∀ k,(l.foldl (fun st b=>addS (addS st b.1 b.2) b.2 b.1) st) k<2^x.F:=by
  intro l
  induction l with
  | nil=>intro st _ h;exact h
  | cons b l ih =>
    intro st hl h
    have hb:=hl b List.mem_cons_self
    exact ih _ (fun c hc=>hl c (List.mem_cons_of_mem _ hc)) (aAm (aAm h hb.2) hb.1)
 exact this _ _ (fun b hb=>by have:=ok.b b (List.mem_of_mem_take hb);exact⟨this.1,this.2.1⟩) (fun _=>Nat.two_pow_pos _)
theorem eB {x:Vn} (ok:x.Ok):∀ i k,stP x i k<2^x.F:=by
 intro i
 have:∀ (l:List (Nat×Nat×Nat)) (st:Nat→Nat),(∀ b∈l,b.2.2<x.F)→(∀ k,st k<2^x.F)→∀ k,(l.foldl (fun st p=>addS st p.2.1 p.2.2) st) k<2^x.F:=by
  intro l
  induction l with
  | nil=>intro st _ h;exact h
  | cons b l ih =>
    intro st hl h
    exact ih _ (fun c hc=>hl c (List.mem_cons_of_mem _ hc)) (aAm h (hl b List.mem_cons_self))
 exact this _ _ (fun b hb=>(ok.p b (List.mem_of_mem_take hb)).2.2.1) (aET ok _)
abbrev gL (x:Vn) (st:Nat→Nat):XH:=[some (.blk true (.cells true x.c)),some (.blk true (.cells true (eJ x st)))]
theorem aFv {x:Vn} (ok:x.Ok) {i:Nat} (hi:i<x.bs.length) :
 aV 0 [1,5,19,20,21] (execW aA 56 0 none (match aCL with | .loop _ a=>a|c=>c) (aR [1,5,19,20,21] [.pt 0 0,.pt 1 0,rB (x.bs.map bI),I x.bs.length,I (i:Nat)]) (gL x (stB x i)))=some ([.pt 0 0,.pt 1 0,rB (x.bs.map bI),I x.bs.length,I (i+1:Nat)],gL x (stB x (i+1))):=by
 obtain⟨b,hx⟩:=bG hi
 have hb:=ok.b b (List.mem_of_getElem? hx)
 have hF:=ok.F16
 have hp:=aT hF
 have a1:=cU hi
 have a2:=eK hi (by have:=ok.nb;omega)
 have l0:=aET ok i
 have up:stB x (i+1)=addS (addS (stB x i) b.1 b.2) b.2 b.1:=iH hx _
 rw[up]
 generalize stB x i=st at *
 have e1:=w62 (j:=b.1) (by omega)
 have e2:=w62 (j:=b.2) (by omega)
 have n1:((0:Int)≤b.1)=True:=eq_true (by omega)
 have n2:((0:Int)≤b.2)=True:=eq_true (by omega)
 have m1:((b.1:Int)<16)=True:=eq_true (by omega)
 have m2:((b.2:Int)<16)=True:=eq_true (by omega)
 have p1:(2:Nat)^b.1≤2^16:=Nat.pow_le_pow_right (by omega) (by omega)
 have p2:(2:Nat)^b.2≤2^16:=Nat.pow_le_pow_right (by omega) (by omega)
 have k1:=l0 b.1
 have k2:=l0 b.2
 have o1:=cH bR (a:=st b.1) (b:=2^b.2) (by omega) (by omega)
 have q1:=hX (x:=x) (st:=st) (k:=b.1) (by omega)
 have s1:=uH (x:=x) (st:=st) (k:=b.1) (v:=st b.1|||2^b.2) (by omega)
 have q2:=hX (x:=x) (st:=addS st b.1 b.2) (k:=b.2) (by omega)
 have r2:addS st b.1 b.2 b.2=st b.2:=by unfold addS tN;rw[if_neg (fun h=>hb.2.2 h.symm)]
 have o2:=cH bR (a:=st b.2) (b:=2^b.1) (by omega) (by omega)
 have s2:=uH (x:=x) (st:=addS st b.1 b.2) (k:=b.2) (v:=st b.2|||2^b.1) (by omega)
 rw[show tN st b.1 (st b.1|||2^b.2)=addS st b.1 b.2 from rfl]at s1
 rw[show tN (addS st b.1 b.2) b.2 (st b.2|||2^b.1)=addS (addS st b.1 b.2) b.2 b.1 by rw[addS.eq_def (addS st b.1 b.2),r2]]at s2
 rw[r2]at q2
 have z1:=dU x st
 have z2:=dU x (addS st b.1 b.2)
 have t1:(6+b.1+1≤22)=True:=eq_true (by omega)
 have t2:(6+b.2+1≤22)=True:=eq_true (by omega)
 generalize addS (addS st b.1 b.2) b.2 b.1=st2 at *
 generalize addS st b.1 b.2=st1 at *
 unfold aCL
 dsimp only
 (sym=>(simp[Za,Zb,Zc,Zd,Ze,Zf,Zh,Zi,Zl,Zm,Zv,Zw,Z2,Z3,Z8,Z9,ZA,ZG,ZH,ZJ,ZK,ZL,ZM,ZN,ZQ,ZR,ZT,ZU,Ya,Yg,Yh,Yj,Yn,Ys,Yw,Yx,Y8,YA,YD,YO,YV,YX,Xb,Xd,Xi,Xr,Xv,Xx,Wq,Ws,Wz,W3,W4,W5,W6,W7,W8,W9,WA,WC,WE,WF,WH,WI,WK,WL,WM,WN,WO,WP,WQ,WR,WS,WT,WU,WV,WY,WZ,Vf,Vi,Vj,Vk,Vm,Vo,Vp,Vq,VQ,VR,VS,VT,VU,VZ,Ua,Ub,Uc,Ud,Uf,Ug,Uh,Ui,Uj,Uk,Um,Ur,Us,Ut,Uu,Ux,Uy,U0,U1,U2,U3,U4,U5,U6,U7,U8,UF,Tf,Tg,Th,Ti,Tj,Tk,Tl,Tm,Tt,Tu,Tw,Ty,Tz,T2,T5,T6,T7,TI,TK,Sv,S8,a1,a2,hx,e1,e2,n1,n2,m1,m2,o1,o2,q1,q2,s1,s2,z1,z2,t1,t2];all_goals tactic=>exact rfl))
abbrev gL1 (x:Vn) (st:Nat→Nat):XH:=[some (.blk true (.cells true (eJ x st)))]
theorem aFu {x:Vn} (ok:x.Ok) {i:Nat} (hi:i<x.ps.length) :
 aV 0 [5,55,56,57] (execW aA 56 0 none (match aCK with | .loop _ a=>a|c=>c) (aR [5,55,56,57] [.pt 0 0,rP (x.ps.map pI),I x.ps.length,I (i:Nat)]) (gL1 x (stP x i)))=some ([.pt 0 0,rP (x.ps.map pI),I x.ps.length,I (i+1:Nat)],gL1 x (stP x (i+1))):=by
 obtain⟨b,hx⟩:=bG hi
 have hb:=ok.p b (List.mem_of_getElem? hx)
 have hF:=ok.F16
 have hp:=aT hF
 have a1:=cU hi
 have a2:=eK hi (by have:=ok.np;omega)
 have l0:=eB ok i
 have up:stP x (i+1)=addS (stP x i) b.2.1 b.2.2:=iH hx _
 rw[up]
 generalize stP x i=st at *
 have e2:=w62 (j:=b.2.2) (by omega)
 have n1:((0:Int)≤b.2.1)=True:=eq_true (by omega)
 have m1:((b.2.1:Int)<16)=True:=eq_true (by omega)
 have p2:(2:Nat)^b.2.2≤2^16:=Nat.pow_le_pow_right (by omega) (by omega)
 have k1:=l0 b.2.1
 have o1:=cH bR (a:=st b.2.1) (b:=2^b.2.2) (by omega) (by omega)
 have q1:=hX (x:=x) (st:=st) (k:=b.2.1) (by omega)
 have s1:=uH (x:=x) (st:=st) (k:=b.2.1) (v:=st b.2.1|||2^b.2.2) (by omega)
 rw[show tN st b.2.1 (st b.2.1|||2^b.2.2)=addS st b.2.1 b.2.2 from rfl]at s1
 have z1:=dU x st
 have t1:(6+b.2.1+1≤22)=True:=eq_true (by omega)
 generalize addS st b.2.1 b.2.2=st1 at *
 unfold aCK
 dsimp only
 (sym=>(simp[Za,Zb,Zc,Zd,Ze,Zf,Zg,Zh,Zk,Zl,Zm,Zv,Zw,Z2,Z3,Z8,Z9,ZA,ZG,ZH,ZJ,ZK,ZL,ZM,ZN,ZQ,ZR,ZT,ZU,Ya,Yg,Yh,Yj,Yn,Ys,Yw,Yx,YO,YV,YX,Xb,Xd,Xi,Xr,Xv,Xx,Wq,Ws,Wz,W3,W4,W5,W6,W7,W8,W9,WA,WC,WE,WH,WI,WK,WL,WM,WN,WO,WP,WQ,WR,WS,WT,WU,WV,WY,WZ,Vf,Vi,Vj,Vk,Vm,Vo,Vp,Vq,Vv,Vx,Vy,V0,V1,V3,VQ,VR,VS,VT,VU,VZ,Ua,Ub,Uc,Ud,Uf,Ug,Uh,Ui,Uj,Uk,Um,Ur,Us,Ut,Uu,Ux,Uy,U0,U1,U2,U3,U4,U5,U6,U7,U8,UF,Tf,Tg,Th,Ti,Tj,Tk,Tl,Tm,Tt,Tu,Tw,Ty,Tz,T2,T5,T6,T7,TI,TK,Sv,S8,SD,SE,SF,SI,SJ,SK,a1,a2,hx,e2,n1,m1,o1,q1,s1,z1,t1];all_goals tactic=>exact rfl))
theorem aLs (x:Vn):eJ x (fun _=>0)=[I x.F,rB (x.bs.map bI),rP (x.ps.map pI),I x.sick,I x.nur,I x.fix,I 0,I 0,I 0,I 0,I 0,I 0,I 0,I 0,I 0,I 0,I 0,I 0,I 0,I 0,I 0,I 0]:=rfl
theorem w56 {x:Vn} (ok:x.Ok) (h23:runW aA 23 [.agg x.c] []=some (I 0,[])) :
 runW aA 56 [.agg x.c] []=some (.tup [.pt 0 0,I 0],[some (.blk true (.cells true (eJ x (cL x))))]):=by
 have rd:=fun i (hi:i<x.bs.length)=>aFv ok hi
 have rd2:=fun i (hi:i<x.ps.length)=>aFu ok hi
 have z:=Te (n:=(x.bs.length:Int))
 have zp:=Te (n:=(x.ps.length:Int))
 have n1:(x.bs.map bI).length=x.bs.length:=List.length_map ..
 have n2:(x.ps.map pI).length=x.ps.length:=List.length_map ..
 rw[r56 (by simp)];unfold x56;dsimp only
 sym =>
  simp[Za,Zb,Zd,Ze,Zf,Zg,Zh,Zj,Zl,Zm,Zo,Zv,Zz,Z0,Z3,Z8,ZF,ZG,ZO,ZP,ZT,ZU,Ya,Yc,Yr,YT,YX,YZ,Xb,Xi,Xk,Xl,Xr,Xt,Xv,We,Wg,Wi,Ws,W3,W4,W5,W7,W8,W9,WA,WB,WC,WK,WN,WP,WU,WV,Vi,Vj,Vk,Vv,Vx,Vy,V0,V1,V3,VO,VT,VV,VY,VZ,Ua,Ub,Uc,Ud,Ug,Uh,Ui,Um,Uq,Uu,Uy,U2,U3,U4,U5,U6,U7,U8,UD,UE,UF,UG,UH,UI,US,UT,Tf,Tg,Tj,Tk,Tn,Tt,Tu,Tw,Ty,Tz,T6,T7,SD,SE,SF,SI,SJ,SK,h23]
  tactic =>
   unfold aCL
   rw[aE x.bs.length (fun i=>[.pt 0 0,.pt 1 0,rB (x.bs.map bI),I x.bs.length,I (i:Nat)]) (fun i=>gL x (stB x i))]
   ·rw[show stB x x.bs.length=stP x 0 from rfl]
    generalize hst:stP x 0=st
    sym =>
     simp[Za,Zb,Zf,Zh,Zl,Zm,Zv,Z3,Z8,ZF,ZG,Ya,Yc,Ys,W3,W4,W5,WC,VQ,VT,VV,Ui,Uz,Te,Tf,Tg,Tk,Tt,Tu,Tx,Ty,Tz,T0,T4,T6,T7,z,zp]
     tactic =>
      unfold aCK
      rw[aE x.ps.length (fun i=>[.pt 0 0,rP (x.ps.map pI),I x.ps.length,I (i:Nat)]) (fun i=>gL1 x (stP x i))]
      ·rw[show stP x x.ps.length=cL x from rfl]
       generalize cL x=st2
       (sym=>(simp[Za,Zb,Zf,Zh,Zl,Zm,Zv,Z3,Ys,YX,Xa,Xd,Xr,Xu,Xx,XJ,XM,XP,We,Wh,Wl,W3,WE,WH,WI,WK,WL,WM,WO,WQ,WR,WS,WT,WY,WZ,Vf,Vv,V9,VA,VC,VD,VE,VF,VI,VJ,VK,VL,VM,VQ,VT,VV,Ua,Uc,Ud,Uf,Uk,Ux,Uz,U3,U4,U5,U6,U9,UA,UD,UE,Te,Tt,Tu,Tv,Tx,Tz,T0,T4,T6,T7,TK,Sw,zp];all_goals tactic=>exact rfl))
      ·rw[hst]
       (sym=>(simp[Za,Y9,YX,Xb,Xd,Xr,Xv,Xx,W3,WE,WH,WI,WK,WL,WM,WO,WQ,WR,WS,WT,WY,WZ,Vf,VQ,VR,VS,VZ,Ua,Uc,Ud,Uf,Uk,Ux,U3,U4,U5,U6,T5,TK,zp];all_goals tactic=>exact rfl))
      ·exact rd2
      ·rw[show stP x x.ps.length=cL x from rfl]
       generalize cL x=st2
       (sym=>(simp[Za,Zb,Zf,Zh,Zl,Zm,Z3,Ys,VQ,VT,VV,VW,Uz,Te,Tt,Tu,Tx,Tz,T0,T6,zp];all_goals tactic=>exact rfl))
   ·rw[show stB x 0=(fun _=>0) from rfl,gL,aLs]
    (sym=>(simp[Za,Y9,YX,Xb,Xd,Xr,Xv,Xx,W3,WE,WF,WH,WI,WK,WL,WM,WO,WQ,WR,WS,WT,WY,WZ,Vf,VR,VS,VZ,Ua,Ub,Uc,Ud,Uf,Uk,Ux,U3,U4,U5,U6,T5,TK,z];all_goals tactic=>exact rfl))
   ·exact rd
   ·generalize stB x x.bs.length=st
    (sym=>(simp[Za,Zb,Zf,Zh,Zl,Zm,Z3,Ys,VQ,VT,VV,VW,Uz,Te,Tt,Tu,Tx,Tz,T0,T6,z];all_goals tactic=>exact rfl))
end Go.Proofs.YtiabjdfdkiijmaaDoor
namespace Go.Proofs.YtiabjdfdkiijmaaDoor
open Go Go.DL

def bP (a:Nat):Nat:=(el a).length
theorem nZ {p q:Nat→Bool}:∀ l:List Nat,(∀ k∈l,p k=true→q k=true)→(l.filter p).length≤(l.filter q).length
 | [],_=>Nat.le_refl _
 | k::l,h=>by
   have ih:=nZ l (fun j hj=>h j (List.mem_cons_of_mem _ hj))
   have hk:=h k List.mem_cons_self
   simp only[List.filter_cons]
   cases hp:p k
   ·cases hq:q k
    ·simpa using ih
    ·simp only[Bool.false_eq_true,if_false,if_true,List.length_cons];omega
   ·rw[hk hp];simpa using ih
theorem sP {p q:Nat→Bool} {i:Nat} (hp:p i=false) (hq:q i=true):∀ l:List Nat,i∈l→(∀ k∈l,p k=true→q k=true)→(l.filter p).length<(l.filter q).length
 | [],hi,_=>by simp at hi
 | k::l,hi,h=>by
   simp only[List.filter_cons]
   by_cases hk:k=i
   ·subst hk
    have:=nZ l (fun j hj=>h j (List.mem_cons_of_mem _ hj))
    rw[hp,hq]
    simp only[Bool.false_eq_true,if_false,if_true,List.length_cons];omega
   ·have ih:=sP hp hq l (by rcases List.mem_cons.1 hi with rfl|h;exact absurd rfl hk;exact h) (fun j hj=>h j (List.mem_cons_of_mem _ hj))
    have hk:=h k List.mem_cons_self
    cases hp:p k
    ·cases hq:q k
     ·simpa using ih
     ·simp only[Bool.false_eq_true,if_false,if_true,List.length_cons];omega
    ·rw[hk hp];simpa using ih
def sub (a b:Nat):Prop:=∀ i,a.testBit i=true→b.testBit i=true
theorem cO (a:Nat):sub a a:=fun _ h=>h
theorem kS {a b c:Nat} (h:sub a b) (g:sub b c):sub a c:=fun i hi=>g i (h i hi)
theorem aJy (a k:Nat):sub a (a|||2^k):=fun i hi=>by rw[dL,hi];rfl
theorem iX {a b:Nat} (h:sub a b) (g:sub b a):a=b:=by
 apply Nat.eq_of_testBit_eq
 intro i
 rw[Bool.eq_iff_iff]
 exact⟨h i,g i⟩
theorem rI {a b:Nat} (h:sub a b):bP a≤bP b:=nZ _ fun k _ hk=>h k hk
theorem aDC {a b i:Nat} (h:sub a b) (hi:i<16) (ha:a.testBit i=false) (hb:b.testBit i=true):bP a<bP b:=sP ha hb _ (List.mem_range.2 hi) fun k _ hk=>h k hk
theorem mD (a:Nat):bP a≤16:=wK a
theorem gQ {a i:Nat} (ha:a<65536) (hi:a.testBit i=true):i<16:=eH (F:=16) ha hi
theorem aAh {a b:Nat} (h:sub a b) (hb:b<65536) (hc:bP b≤bP a):a=b:=by
 refine iX h fun i hi=>?_
 cases ha:a.testBit i
 ·have:=aDC h (gQ hb hi) ha hi
  omega
 ·rfl
theorem aHa {a F:Nat} (ha:a<2^F) (hF:F≤16):bP a≤F:=by
 have e:el a=(List.range F).filter (a.testBit ·):=by
  unfold el
  rw[show (16:Nat)=F+(16-F) by omega,List.range_add,List.filter_append]
  rw[(List.filter_eq_nil_iff (l:=List.map (F + ·) (List.range (16-F)))).2,List.append_nil]
  intro k hk
  rw[List.mem_map]at hk
  obtain⟨j,_,rfl⟩:=hk
  rw[sX ha (by omega)];simp
 rw[bP,e]
 have:=List.length_filter_le (fun k=>a.testBit k) (List.range F)
 simpa using this
theorem aCx:bP 0=0:=rfl
theorem aGY {a i:Nat} (hi:i<16) (h:a.testBit i=true):0<bP a:=by
 have:=aDC (a:=0) (b:=a) (fun _ h=>by simp at h) hi (by simp) h
 omega
theorem aAg {a b:Nat} (h:∀ i,a.testBit i=true→b.testBit i=false):bP (a|||b)=bP a+bP b:=by
 unfold bP el
 rw[←sO h]
 congr 2
 funext k
 rw[Nat.testBit_or]
theorem aBr {i:Nat} (hi:i<16):bP (2^i)=1:=by
 match i,hi with
 | 0,_=>rfl
 | 1,_=>rfl
 | 2,_=>rfl
 | 3,_=>rfl
 | 4,_=>rfl
 | 5,_=>rfl
 | 6,_=>rfl
 | 7,_=>rfl
 | 8,_=>rfl
 | 9,_=>rfl
 | 10,_=>rfl
 | 11,_=>rfl
 | 12,_=>rfl
 | 13,_=>rfl
 | 14,_=>rfl
 | 15,_=>rfl
 | _+16,h=>exact absurd h (by omega)
theorem qM (i j:Nat):(2^i).testBit j=decide (i=j):=by rw[Nat.testBit_two_pow]
theorem mC {a i:Nat} (hi:i<16) (ha:a.testBit i=false):bP (a|||2^i)=bP a+1:=by
 rw[aAg,aBr hi]
 intro j hj
 rw[qM]
 have:i≠j:=fun h=>by rw[h,hj]at ha;simp at ha
 simp[this]
inductive Rch (st:Nat→Nat) (s cl:Nat):Nat→Prop
 | base {f:Nat}:s.testBit f=true→cl.testBit f=false→Rch st s cl f
 | step {a b:Nat}:Rch st s cl a→(st a).testBit b=true→cl.testBit b=false→Rch st s cl b
theorem Rch.free {st:Nat→Nat} {s cl f:Nat} (h:Rch st s cl f):cl.testBit f=false:=by cases h<;>assumption
theorem Rch.lt {st:Nat→Nat} {s cl f F:Nat} (hs:s<2^F) (hst:∀ k,st k<2^F) (h:Rch st s cl f):f<F:=by
 cases h with
 | base h _=>exact eH hs h
 | step _ h _=>exact eH (hst _) h
def Clo (st:Nat→Nat) (cl m:Nat):Prop:=∀ a b,m.testBit a=true→(st a).testBit b=true→cl.testBit b=false→m.testBit b=true
theorem Rch.sub {st:Nat→Nat} {s cl m f:Nat} (h0:∀ i,s.testBit i=true→cl.testBit i=false→m.testBit i=true) (hc:Clo st cl m) (h:Rch st s cl f):m.testBit f=true:=by
 induction h with
 | base h g=>exact h0 _ h g
 | step _ h g ih=>exact hc _ _ ih h g
theorem Rch.mono {st st':Nat→Nat} {s s' cl cl' f:Nat} (h0:Go.Proofs.YtiabjdfdkiijmaaDoor.sub s s') (h1:∀ k,Go.Proofs.YtiabjdfdkiijmaaDoor.sub (st k) (st' k)) (h2:Go.Proofs.YtiabjdfdkiijmaaDoor.sub cl' cl) (h:Rch st s cl f):Rch st' s' cl' f:=by
 have g:∀ i,cl.testBit i=false→cl'.testBit i=false:=fun i hi=>by
  cases h:cl'.testBit i
  ·rfl
  ·rw[h2 i h]at hi;simp at hi
 induction h with
 | base h q=>exact .base (h0 _ h) (g _ q)
 | step _ h q ih=>exact .step ih (h1 _ _ h) (g _ q)
theorem aJk {F:Nat} {M:Nat→Nat} {P:Nat→Prop} (hF:F≤16) (hl:∀ k,M k<2^F) (hm:∀ k,sub (M k) (M (k+1))) (hp:∀ k,M (k+1)=M k→P (M k)) (hk:∀ k,P (M k)→P (M (k+1))) (hfull:P (2^F-1)):P (M F):=by
 have up:∀ k,P (M k)∨k≤bP (M k):=by
  intro k
  induction k with
  | zero=>exact .inr (Nat.zero_le _)
  | succ k ih =>
    rcases ih with ih|ih
    ·exact .inl (hk k ih)
    ·by_cases e:M (k+1)=M k
     ·exact .inl (hk k (hp k e))
     ·right
      have h16:M (k+1)<65536:=Nat.lt_of_lt_of_le (hl _) (aT hF)
      by_cases hc:bP (M (k+1))≤bP (M k)
      ·exact absurd (aAh (hm k) h16 hc).symm e
      ·omega
 rcases up F with h|h
 ·exact h
 ·have e:M F=2^F-1:=by
   refine aAh ?_ ?_ ?_
   ·intro i hi
    rw[Nat.testBit_two_pow_sub_one]
    simpa using eH (hl F) hi
   ·have:=aT hF
    have:=Nat.two_pow_pos F
    omega
   ·have:=aHa (a:=2^F-1) (F:=F) (by have:=Nat.two_pow_pos F;omega) hF
    omega
  rw[e];exact hfull
end Go.Proofs.YtiabjdfdkiijmaaDoor
namespace Go.Proofs.YtiabjdfdkiijmaaDoor
open Go Go.DL
set_option maxRecDepth 100000
set_option maxHeartbeats 4000000
theorem aFe {σ:Type} (n:Nat) (Inv:Nat→σ→Prop) (St:Nat→σ→σ→Prop) (s0:σ) (h0:Inv 0 s0) (hs:∀ i s,i<n→Inv i s→∃ s',Inv (i+1) s'∧St i s s'):∃ F:Nat→σ,F 0=s0∧(∀ i,i≤n→Inv i (F i))∧∀ i,i<n→St i (F i) (F (i+1)):=by
 induction n with
 | zero=>exact⟨fun _=>s0,rfl,fun i hi=>by obtain rfl:i=0:=(by omega);exact h0,fun i hi=>by omega⟩
 | succ n ih =>
   obtain⟨F,h1,h2,h3⟩:=ih fun i s hi=>hs i s (by omega)
   obtain⟨s',h4,h5⟩:=hs n (F n) (by omega) (h2 n (Nat.le_refl _))
   refine⟨fun i=>if i≤n then F i else s',(if_pos (Nat.zero_le n)).trans h1,fun i hi=>?_,fun i hi=>?_⟩
   ·dsimp only
    by_cases h:i≤n
    ·rw[if_pos h];exact h2 i h
    ·obtain rfl:i=n+1:=by omega
     rw[if_neg h];exact h4
   ·dsimp only
    by_cases h:i+1≤n
    ·rw[if_pos h,if_pos (by omega)];exact h3 i (by omega)
    ·obtain rfl:i=n:=by omega
     rw[if_neg h,if_pos (Nat.le_refl _)];exact h5
abbrev gV (M:Nat) (ci:Int) (l:List AV):XH:=[cI M,some (.blk true (.cells true [I ci])),some (.blk false (.cells true [.pt 3 0])),some (.blk true (.cells true l)),some (.blk false (.cells true [.fn (.func 84) [] [.pt 0 0,.pt 1 0,.pt 2 0,.pt 4 0]]))]
abbrev gX (K:Nat) (M:Nat) (ci:Int) (l:List AV):XH:=[some (.loop K 0 [.pt 1 0] .ready),some (.blk false (.cells true [.fn (.func 84) [] [.pt 2 0,.pt 3 0,.pt 4 0,.pt 1 0]])),cI M,some (.blk true (.cells true [I ci])),some (.blk false (.cells true [.pt 5 0])),some (.blk true (.cells true l))]
theorem aJj (K M:Nat) (ci:Int) (l:List AV):aEC 6 (gX K M ci l):=by
 refine⟨fun _=>rfl,fun _ _=>rfl,fun _=>rfl,?_,?_⟩
 ·intro a e h0 h1
  (sym=>(simp[Xd,Xg,Xh,Xx,X0,XI,WE,WI,WK,WM,WO,WP,WQ,WR,WS,WY,WZ,Vb,Vc,Ve,Vf,Vg,Vh,VR,VS,VZ,Ua,Ub,Uc,Ud,Ue,Uf,Ux,U2,U3,U4,U5,U6,T5,h0,h1];all_goals tactic=>exact rfl))
 ·intro a
  (sym=>(simp[Za,Xa,Xd,Xg,Xu,Xx,X0,XM,Wh,WE,WI,WK,WM,WO,WP,WQ,WR,WS,WY,WZ,Vb,Vc,Ve,Vf,Vg,Vh,Vv,VC,VD,VE,VZ,Ua,Ub,Uc,Ud,Ue,Uf,Ux,U2,U3,U4,U5,U6,U9,UD,Sw];all_goals tactic=>exact rfl))
structure aLM (st:Nat→Nat) (cl M M' f:Nat):Prop where
 sub:sub M M'
 lt:M'<65536
 has:cl.testBit f=true∨M'.testBit f=true
 new:∀ a,M'.testBit a=true→M.testBit a=false→Rch st (2^f) cl a∧∀ b,(st a).testBit b=true→cl.testBit b=false→M'.testBit b=true
def Clr (ci:Int) (cl:Nat):Prop:=∀ f:Nat,f<16→runW aA 60 [I ci,I f] []=some (.bool (cl.testBit f),[])
theorem aIT {cl:Nat} (h:cl<65536):Clr (cl:Int) cl:=fun f hf=>oH (by omega) (by omega)
def xB (l:List AV) (ci:Int) (M M' f:Nat):Prop:=runW aA 84 [I (f:Nat),.pt 0 0,.pt 1 0,.pt 2 0,.pt 4 0] (gV M ci l)=some (.tup [],gV M' ci l)
theorem aLO {l:List AV} {ci:Int} {M M' v:Nat} (h:xB l ci M M' v):Yd (gX 84 M ci l) (gX 84 M' ci l) v true:=by
 unfold xB at h
 have y:runYW aA (.fn (.yield 0) [] []) [I (v:Nat)] (gX 84 M ci l)=some (.bool true,gX 84 M' ci l):=by
  rw[iK (K:=84) (d:=x84) (site:=0) (vs:=[.pt 1 0]) rfl rfl (by rfl) rfl]
  (sym=>(simp[Za,Zb,Zf,Zg,Zh,Zj,Zl,Zm,Zv,ZG,ZO,ZP,ZT,ZU,YX,YY,Xd,Xg,Xr,Xs,Xu,Xx,X0,XJ,We,W3,W4,W5,W6,W9,WA,WC,WE,WF,WG,WH,WI,WJ,WK,WL,WM,WN,WO,WP,WQ,WR,WS,WU,WV,WW,WY,WZ,Vb,Vc,Ve,Vf,Vg,Vh,Vi,Vj,Vk,Vl,Vv,Vx,Vy,Vz,VB,VE,VQ,VZ,Ua,Ub,Uc,Ud,Ue,Uf,Ug,Uh,Uk,Uw,Ux,U2,U3,U4,U5,U6,UQ,UR,Tf,Tg,Tk,Ty,T2,T6,Sa,Sb,Sc,Sd,Sm,Sn,Sp,Sq,Sw,SD,SE,SG,SI,SJ,SK,h];all_goals tactic=>exact rfl))
 intro a
 (sym=>(simp[YX,Xd,Xg,Xh,Xr,Xs,Xx,X0,XI,W3,W6,W9,WA,WC,WE,WF,WG,WH,WJ,WK,WL,WM,WN,WP,WQ,WU,WV,WW,WY,WZ,Vb,Vc,Vf,Vg,Vh,Vi,Vj,Vk,Vl,VZ,Ua,Ub,Uc,Ud,Ug,Uh,Uk,Uw,Ux,U2,U3,U4,U5,U6,Sl,y];all_goals tactic=>exact rfl))
theorem aEL {st:Nat→Nat} {l:List AV} {ci:Int} {cl:Nat} {M0:Nat} (h0:M0<65536) (a:Nat) (hv:∀ M v,M<65536→sub M0 M→v∈el a→∃ M',aLM st cl M M' v∧xB l ci M M' v) :
 ∃ F:Nat→Nat,F 0=M0∧(∀ i v,(el a)[i]?=some v→xB l ci (F i) (F (i+1)) v)∧sub M0 (F (el a).length)∧F (el a).length<65536∧(∀ v∈el a,cl.testBit v=true∨(F (el a).length).testBit v=true) ∧
   (∀ b,(F (el a).length).testBit b=true→M0.testBit b=false→(∃ v∈el a,Rch st (2^v) cl b)∧∀ c,(st b).testBit c=true→cl.testBit c=false→(F (el a).length).testBit c=true):=by
 obtain⟨F,f0,f1,f2⟩:=aFe (el a).length
  (fun i M=>sub M0 M∧M<65536∧(∀ j v,j<i→(el a)[j]?=some v→cl.testBit v=true∨M.testBit v=true) ∧
   (∀ b,M.testBit b=true→M0.testBit b=false→(∃ v∈el a,Rch st (2^v) cl b)∧∀ c,(st b).testBit c=true→cl.testBit c=false→M.testBit c=true))
  (fun i M M'=>∀ v,(el a)[i]?=some v→xB l ci M M' v) M0
  ⟨cO _,h0,fun j v hj=>absurd hj (by omega),fun b h1 h2=>by rw[h1]at h2;simp at h2⟩
  (by
   rintro i M hi ⟨g1,g2,g3,g4⟩
   obtain⟨v,hx⟩:=bG hi
   have hm:=List.mem_of_getElem? hx
   obtain⟨M',p,k⟩:=hv M v g2 g1 hm
   refine⟨M',⟨kS g1 p.sub,p.lt,?_,?_⟩,fun w hw=>by rw[hx]at hw;rw[←Option.some.inj hw];exact k⟩
   ·intro j w hj hw
    by_cases e:j=i
    ·subst e
     rw[hx]at hw
     rw[←Option.some.inj hw];exact p.has
    ·rcases g3 j w (by omega) hw with h|h
     ·exact .inl h
     ·exact .inr (p.sub _ h)
   ·intro b h1 h2
    cases hb:M.testBit b
    ·have:=p.new b h1 hb
     exact⟨⟨v,hm,this.1⟩,this.2⟩
    ·obtain⟨q1,q2⟩:=g4 b hb h2
     exact⟨q1,fun c hc hd=>p.sub _ (q2 c hc hd)⟩)
 obtain⟨e1,e2,e3,e4⟩:=f1 _ (Nat.le_refl _)
 refine⟨F,f0,fun i v hx=>f2 i (fP hx) v hx,e1,e2,?_,e4⟩
 intro v hm
 obtain⟨j,hj⟩:=List.getElem?_of_mem hm
 exact e3 j v (fP hj) hj
end Go.Proofs.YtiabjdfdkiijmaaDoor
