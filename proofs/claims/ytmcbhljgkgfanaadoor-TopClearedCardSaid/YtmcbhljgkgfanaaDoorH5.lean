/- Parts of a proof, joined: GT K1 K2 K3 K4 K5 K6 K7 K8 K9 K11 K12 K13 K14 K15 K16 K18 K19 K20 K21 K22 K23 K24 K25 K26 K29 K30 K33 K34 K35 K36 K37 K38 K39 K40 K41 K44 K45 K46 K47 K48. No statement of the seed is proved here. -/
import Derived.KernelRfl
import Derived.Test.YtmcbhljgkgfanaaDoorH4
set_option linter.unusedSimpArgs false
set_option linter.unusedVariables false
set_option linter.unusedSectionVars false
namespace Go.Proofs.YtmcbhljgkgfanaaDoor
open Go Go.DL Go.Proofs.Tryd

def aA:Nat→Option XFn
 | 3=>some x3
 | 4=>some x4
 | 5=>some x5
 | 6=>some x6
 | 7=>some x7
 | 8=>some x8
 | 9=>some x9
 | 10=>some x10
 | 11=>some x11
 | 12=>some x12
 | 13=>some x13
 | 14=>some x14
 | 15=>some x15
 | 16=>some x16
 | 17=>some x17
 | 18=>some x18
 | 19=>some x19
 | 20=>some x20
 | 21=>some x21
 | 22=>some x22
 | 23=>some x23
 | 24=>some x24
 | 25=>some x25
 | 26=>some x26
 | 27=>some x27
 | 28=>some x28
 | 29=>some x29
 | 30=>some x30
 | 31=>some x31
 | 32=>some x32
 | 33=>some x33
 | 34=>some x34
 | 35=>some x35
 | 36=>some x36
 | 37=>some x37
 | 38=>some x38
 | 39=>some x39
 | 40=>some x40
 | 41=>some x41
 | 42=>some x42
 | 43=>some x43
 | 44=>some x44
 | 45=>some x45
 | 46=>some x46
 | 47=>some x47
 | 48=>some x48
 | 49=>some x49
 | 50=>some x50
 | 51=>some x51
 | 52=>some x52
 | 53=>some x53
 | 54=>some x54
 | 55=>some x55
 | 56=>some x56
 | 57=>some x57
 | 58=>some x58
 | 59=>some x59
 | _=>none
theorem aGs:XOk prog aA:=by
 refine⟨rfl,fun k d h=>?_,fun k d h=>?_,fun k d h=>?_⟩
 ·unfold aA at h
  split at h
  ·simp only[oSI]at h;subst h;exact is3
  ·simp only[oSI]at h;subst h;exact is4
  ·simp only[oSI]at h;subst h;exact is5
  ·simp only[oSI]at h;subst h;exact is6
  ·simp only[oSI]at h;subst h;exact is7
  ·simp only[oSI]at h;subst h;exact is8
  ·simp only[oSI]at h;subst h;exact is9
  ·simp only[oSI]at h;subst h;exact aQg
  ·simp only[oSI]at h;subst h;exact aQf
  ·simp only[oSI]at h;subst h;exact aQe
  ·simp only[oSI]at h;subst h;exact aQd
  ·simp only[oSI]at h;subst h;exact aQc
  ·simp only[oSI]at h;subst h;exact aQb
  ·simp only[oSI]at h;subst h;exact aQa
  ·simp only[oSI]at h;subst h;exact aPZ
  ·simp only[oSI]at h;subst h;exact aPY
  ·simp only[oSI]at h;subst h;exact aPX
  ·simp only[oSI]at h;subst h;exact aPW
  ·simp only[oSI]at h;subst h;exact aPV
  ·simp only[oSI]at h;subst h;exact aPU
  ·simp only[oSI]at h;subst h;exact aPT
  ·simp only[oSI]at h;subst h;exact aPS
  ·simp only[oSI]at h;subst h;exact aPR
  ·simp only[oSI]at h;subst h;exact aPQ
  ·simp only[oSI]at h;subst h;exact aPP
  ·simp only[oSI]at h;subst h;exact aPO
  ·simp only[oSI]at h;subst h;exact aPN
  ·simp only[oSI]at h;subst h;exact aPM
  ·simp only[oSI]at h;subst h;exact aPL
  ·simp only[oSI]at h;subst h;exact aPK
  ·simp only[oSI]at h;subst h;exact aPJ
  ·simp only[oSI]at h;subst h;exact aPI
  ·simp only[oSI]at h;subst h;exact aPH
  ·simp only[oSI]at h;subst h;exact aPG
  ·simp only[oSI]at h;subst h;exact aPF
  ·simp only[oSI]at h;subst h;exact aPE
  ·simp only[oSI]at h;subst h;exact aPD
  ·simp only[oSI]at h;subst h;exact aPC
  ·simp only[oSI]at h;subst h;exact aPB
  ·simp only[oSI]at h;subst h;exact aPA
  ·simp only[oSI]at h;subst h;exact aPz
  ·simp only[oSI]at h;subst h;exact aPy
  ·simp only[oSI]at h;subst h;exact aPx
  ·simp only[oSI]at h;subst h;exact aPw
  ·simp only[oSI]at h;subst h;exact aPv
  ·simp only[oSI]at h;subst h;exact aPu
  ·simp only[oSI]at h;subst h;exact aPt
  ·simp only[oSI]at h;subst h;exact aPs
  ·simp only[oSI]at h;subst h;exact aPr
  ·simp only[oSI]at h;subst h;exact aPq
  ·simp only[oSI]at h;subst h;exact aPp
  ·simp only[oSI]at h;subst h;exact aPo
  ·simp only[oSI]at h;subst h;exact aPn
  ·simp only[oSI]at h;subst h;exact aPm
  ·simp only[oSI]at h;subst h;exact aPl
  ·simp only[oSI]at h;subst h;exact aPk
  ·simp only[oSI]at h;subst h;exact aPj
  ·cases h
 ·unfold aA at h
  split at h
  ·simp only[oSI]at h;subst h;exact ok3
  ·simp only[oSI]at h;subst h;exact ok4
  ·simp only[oSI]at h;subst h;exact ok5
  ·simp only[oSI]at h;subst h;exact ok6
  ·simp only[oSI]at h;subst h;exact ok7
  ·simp only[oSI]at h;subst h;exact ok8
  ·simp only[oSI]at h;subst h;exact ok9
  ·simp only[oSI]at h;subst h;exact aPg
  ·simp only[oSI]at h;subst h;exact aPf
  ·simp only[oSI]at h;subst h;exact aPe
  ·simp only[oSI]at h;subst h;exact aPd
  ·simp only[oSI]at h;subst h;exact aPc
  ·simp only[oSI]at h;subst h;exact aPb
  ·simp only[oSI]at h;subst h;exact aPa
  ·simp only[oSI]at h;subst h;exact aOZ
  ·simp only[oSI]at h;subst h;exact aOY
  ·simp only[oSI]at h;subst h;exact aOX
  ·simp only[oSI]at h;subst h;exact aOW
  ·simp only[oSI]at h;subst h;exact aOV
  ·simp only[oSI]at h;subst h;exact aOU
  ·simp only[oSI]at h;subst h;exact aOT
  ·simp only[oSI]at h;subst h;exact aOS
  ·simp only[oSI]at h;subst h;exact aOR
  ·simp only[oSI]at h;subst h;exact aOQ
  ·simp only[oSI]at h;subst h;exact aOP
  ·simp only[oSI]at h;subst h;exact aOO
  ·simp only[oSI]at h;subst h;exact aON
  ·simp only[oSI]at h;subst h;exact aOM
  ·simp only[oSI]at h;subst h;exact aOL
  ·simp only[oSI]at h;subst h;exact aOK
  ·simp only[oSI]at h;subst h;exact aOJ
  ·simp only[oSI]at h;subst h;exact aOI
  ·simp only[oSI]at h;subst h;exact aOH
  ·simp only[oSI]at h;subst h;exact aOG
  ·simp only[oSI]at h;subst h;exact aOF
  ·simp only[oSI]at h;subst h;exact aOE
  ·simp only[oSI]at h;subst h;exact aOD
  ·simp only[oSI]at h;subst h;exact aOC
  ·simp only[oSI]at h;subst h;exact aOB
  ·simp only[oSI]at h;subst h;exact aOA
  ·simp only[oSI]at h;subst h;exact aOz
  ·simp only[oSI]at h;subst h;exact aOy
  ·simp only[oSI]at h;subst h;exact aOx
  ·simp only[oSI]at h;subst h;exact aOw
  ·simp only[oSI]at h;subst h;exact aOv
  ·simp only[oSI]at h;subst h;exact aOu
  ·simp only[oSI]at h;subst h;exact aOt
  ·simp only[oSI]at h;subst h;exact aOs
  ·simp only[oSI]at h;subst h;exact aOr
  ·simp only[oSI]at h;subst h;exact aOq
  ·simp only[oSI]at h;subst h;exact aOp
  ·simp only[oSI]at h;subst h;exact aOo
  ·simp only[oSI]at h;subst h;exact aOn
  ·simp only[oSI]at h;subst h;exact aOm
  ·simp only[oSI]at h;subst h;exact aOl
  ·simp only[oSI]at h;subst h;exact aOk
  ·simp only[oSI]at h;subst h;exact aOj
  ·cases h
 ·unfold aA at h
  split at h
  ·simp only[oSI]at h;subst h;exact st3
  ·simp only[oSI]at h;subst h;exact st4
  ·simp only[oSI]at h;subst h;exact st5
  ·simp only[oSI]at h;subst h;exact st6
  ·simp only[oSI]at h;subst h;exact st7
  ·simp only[oSI]at h;subst h;exact st8
  ·simp only[oSI]at h;subst h;exact st9
  ·simp only[oSI]at h;subst h;exact aNQ
  ·simp only[oSI]at h;subst h;exact aNP
  ·simp only[oSI]at h;subst h;exact aNO
  ·simp only[oSI]at h;subst h;exact aNN
  ·simp only[oSI]at h;subst h;exact aNM
  ·simp only[oSI]at h;subst h;exact aNL
  ·simp only[oSI]at h;subst h;exact aNK
  ·simp only[oSI]at h;subst h;exact aNJ
  ·simp only[oSI]at h;subst h;exact aNI
  ·simp only[oSI]at h;subst h;exact aNH
  ·simp only[oSI]at h;subst h;exact aNG
  ·simp only[oSI]at h;subst h;exact aNF
  ·simp only[oSI]at h;subst h;exact aNE
  ·simp only[oSI]at h;subst h;exact aND
  ·simp only[oSI]at h;subst h;exact aNC
  ·simp only[oSI]at h;subst h;exact aNB
  ·simp only[oSI]at h;subst h;exact aNA
  ·simp only[oSI]at h;subst h;exact aNz
  ·simp only[oSI]at h;subst h;exact aNy
  ·simp only[oSI]at h;subst h;exact aNx
  ·simp only[oSI]at h;subst h;exact aNw
  ·simp only[oSI]at h;subst h;exact aNv
  ·simp only[oSI]at h;subst h;exact aNu
  ·simp only[oSI]at h;subst h;exact aNt
  ·simp only[oSI]at h;subst h;exact aNs
  ·simp only[oSI]at h;subst h;exact aNr
  ·simp only[oSI]at h;subst h;exact aNq
  ·simp only[oSI]at h;subst h;exact aNp
  ·simp only[oSI]at h;subst h;exact aNo
  ·simp only[oSI]at h;subst h;exact aNn
  ·simp only[oSI]at h;subst h;exact aNm
  ·simp only[oSI]at h;subst h;exact aNl
  ·simp only[oSI]at h;subst h;exact aNk
  ·simp only[oSI]at h;subst h;exact aNj
  ·simp only[oSI]at h;subst h;exact aNi
  ·simp only[oSI]at h;subst h;exact aNh
  ·simp only[oSI]at h;subst h;exact aNg
  ·simp only[oSI]at h;subst h;exact aNf
  ·simp only[oSI]at h;subst h;exact aNe
  ·simp only[oSI]at h;subst h;exact aNd
  ·simp only[oSI]at h;subst h;exact aNc
  ·simp only[oSI]at h;subst h;exact aNb
  ·simp only[oSI]at h;subst h;exact aNa
  ·simp only[oSI]at h;subst h;exact aMZ
  ·simp only[oSI]at h;subst h;exact aMY
  ·simp only[oSI]at h;subst h;exact aMX
  ·simp only[oSI]at h;subst h;exact aMW
  ·simp only[oSI]at h;subst h;exact aMV
  ·simp only[oSI]at h;subst h;exact aMU
  ·simp only[oSI]at h;subst h;exact aMT
  ·cases h
theorem r3 {vs:List AV} {h:XH} (hl:vs.length≤330):runW aA 3 vs h=bL none x3.res x3.ownR h.length (execW aA 3 h.length none x3.body (aN (if x3.ownA then vs else dI vs)) h):=aX rfl hl h rfl
theorem r4 {vs:List AV} {h:XH} (hl:vs.length≤50):runW aA 4 vs h=bL none x4.res x4.ownR h.length (execW aA 4 h.length none x4.body (aN (if x4.ownA then vs else dI vs)) h):=aX rfl hl h rfl
theorem r5 {vs:List AV} {h:XH} (hl:vs.length≤50):runW aA 5 vs h=bL none x5.res x5.ownR h.length (execW aA 5 h.length none x5.body (aN (if x5.ownA then vs else dI vs)) h):=aX rfl hl h rfl
theorem r6 {vs:List AV} {h:XH} (hl:vs.length≤82):runW aA 6 vs h=bL none x6.res x6.ownR h.length (execW aA 6 h.length none x6.body (aN (if x6.ownA then vs else dI vs)) h):=aX rfl hl h rfl
theorem r7 {vs:List AV} {h:XH} (hl:vs.length≤41):runW aA 7 vs h=bL none x7.res x7.ownR h.length (execW aA 7 h.length none x7.body (aN (if x7.ownA then vs else dI vs)) h):=aX rfl hl h rfl
theorem r8 {vs:List AV} {h:XH} (hl:vs.length≤28):runW aA 8 vs h=bL none x8.res x8.ownR h.length (execW aA 8 h.length none x8.body (aN (if x8.ownA then vs else dI vs)) h):=aX rfl hl h rfl
theorem r9 {vs:List AV} {h:XH} (hl:vs.length≤22):runW aA 9 vs h=bL none x9.res x9.ownR h.length (execW aA 9 h.length none x9.body (aN (if x9.ownA then vs else dI vs)) h):=aX rfl hl h rfl
theorem r10 {vs:List AV} {h:XH} (hl:vs.length≤24):runW aA 10 vs h=bL none x10.res x10.ownR h.length (execW aA 10 h.length none x10.body (aN (if x10.ownA then vs else dI vs)) h):=aX rfl hl h rfl
theorem r11 {vs:List AV} {h:XH} (hl:vs.length≤10):runW aA 11 vs h=bL none x11.res x11.ownR h.length (execW aA 11 h.length none x11.body (aN (if x11.ownA then vs else dI vs)) h):=aX rfl hl h rfl
theorem r12 {vs:List AV} {h:XH} (hl:vs.length≤36):runW aA 12 vs h=bL none x12.res x12.ownR h.length (execW aA 12 h.length none x12.body (aN (if x12.ownA then vs else dI vs)) h):=aX rfl hl h rfl
theorem r13 {vs:List AV} {h:XH} (hl:vs.length≤5):runW aA 13 vs h=bL none x13.res x13.ownR h.length (execW aA 13 h.length none x13.body (aN (if x13.ownA then vs else dI vs)) h):=aX rfl hl h rfl
theorem r14 {vs:List AV} {h:XH} (hl:vs.length≤6):runW aA 14 vs h=bL none x14.res x14.ownR h.length (execW aA 14 h.length none x14.body (aN (if x14.ownA then vs else dI vs)) h):=aX rfl hl h rfl
theorem r15 {vs:List AV} {h:XH} (hl:vs.length≤27):runW aA 15 vs h=bL none x15.res x15.ownR h.length (execW aA 15 h.length none x15.body (aN (if x15.ownA then vs else dI vs)) h):=aX rfl hl h rfl
theorem r16 {vs:List AV} {h:XH} (hl:vs.length≤19):runW aA 16 vs h=bL none x16.res x16.ownR h.length (execW aA 16 h.length none x16.body (aN (if x16.ownA then vs else dI vs)) h):=aX rfl hl h rfl
theorem r17 {vs:List AV} {h:XH} (hl:vs.length≤5):runW aA 17 vs h=bL none x17.res x17.ownR h.length (execW aA 17 h.length none x17.body (aN (if x17.ownA then vs else dI vs)) h):=aX rfl hl h rfl
theorem r18 {vs:List AV} {h:XH} (hl:vs.length≤19):runW aA 18 vs h=bL none x18.res x18.ownR h.length (execW aA 18 h.length none x18.body (aN (if x18.ownA then vs else dI vs)) h):=aX rfl hl h rfl
theorem r19 {vs:List AV} {h:XH} (hl:vs.length≤45):runW aA 19 vs h=bL none x19.res x19.ownR h.length (execW aA 19 h.length none x19.body (aN (if x19.ownA then vs else dI vs)) h):=aX rfl hl h rfl
theorem r20 {vs:List AV} {h:XH} (hl:vs.length≤15):runW aA 20 vs h=bL none x20.res x20.ownR h.length (execW aA 20 h.length none x20.body (aN (if x20.ownA then vs else dI vs)) h):=aX rfl hl h rfl
theorem r21 {vs:List AV} {h:XH} (hl:vs.length≤21):runW aA 21 vs h=bL none x21.res x21.ownR h.length (execW aA 21 h.length none x21.body (aN (if x21.ownA then vs else dI vs)) h):=aX rfl hl h rfl
theorem r22 {vs:List AV} {h:XH} (hl:vs.length≤16):runW aA 22 vs h=bL none x22.res x22.ownR h.length (execW aA 22 h.length none x22.body (aN (if x22.ownA then vs else dI vs)) h):=aX rfl hl h rfl
theorem r23 {vs:List AV} {h:XH} (hl:vs.length≤30):runW aA 23 vs h=bL none x23.res x23.ownR h.length (execW aA 23 h.length none x23.body (aN (if x23.ownA then vs else dI vs)) h):=aX rfl hl h rfl
theorem r24 {vs:List AV} {h:XH} (hl:vs.length≤77):runW aA 24 vs h=bL none x24.res x24.ownR h.length (execW aA 24 h.length none x24.body (aN (if x24.ownA then vs else dI vs)) h):=aX rfl hl h rfl
theorem r25 {vs:List AV} {h:XH} (hl:vs.length≤15):runW aA 25 vs h=bL none x25.res x25.ownR h.length (execW aA 25 h.length none x25.body (aN (if x25.ownA then vs else dI vs)) h):=aX rfl hl h rfl
theorem r26 {vs:List AV} {h:XH} (hl:vs.length≤5):runW aA 26 vs h=bL none x26.res x26.ownR h.length (execW aA 26 h.length none x26.body (aN (if x26.ownA then vs else dI vs)) h):=aX rfl hl h rfl
theorem r27 {vs:List AV} {h:XH} (hl:vs.length≤4):runW aA 27 vs h=bL none x27.res x27.ownR h.length (execW aA 27 h.length none x27.body (aN (if x27.ownA then vs else dI vs)) h):=aX rfl hl h rfl
theorem r28 {vs:List AV} {h:XH} (hl:vs.length≤8):runW aA 28 vs h=bL none x28.res x28.ownR h.length (execW aA 28 h.length none x28.body (aN (if x28.ownA then vs else dI vs)) h):=aX rfl hl h rfl
theorem r29 {vs:List AV} {h:XH} (hl:vs.length≤83):runW aA 29 vs h=bL none x29.res x29.ownR h.length (execW aA 29 h.length none x29.body (aN (if x29.ownA then vs else dI vs)) h):=aX rfl hl h rfl
theorem r30 {vs:List AV} {h:XH} (hl:vs.length≤8):runW aA 30 vs h=bL none x30.res x30.ownR h.length (execW aA 30 h.length none x30.body (aN (if x30.ownA then vs else dI vs)) h):=aX rfl hl h rfl
theorem r31 {vs:List AV} {h:XH} (hl:vs.length≤5):runW aA 31 vs h=bL none x31.res x31.ownR h.length (execW aA 31 h.length none x31.body (aN (if x31.ownA then vs else dI vs)) h):=aX rfl hl h rfl
theorem r32 {vs:List AV} {h:XH} (hl:vs.length≤15):runW aA 32 vs h=bL none x32.res x32.ownR h.length (execW aA 32 h.length none x32.body (aN (if x32.ownA then vs else dI vs)) h):=aX rfl hl h rfl
theorem r33 {vs:List AV} {h:XH} (hl:vs.length≤36):runW aA 33 vs h=bL none x33.res x33.ownR h.length (execW aA 33 h.length none x33.body (aN (if x33.ownA then vs else dI vs)) h):=aX rfl hl h rfl
theorem r34 {vs:List AV} {h:XH} (hl:vs.length≤3):runW aA 34 vs h=bL none x34.res x34.ownR h.length (execW aA 34 h.length none x34.body (aN (if x34.ownA then vs else dI vs)) h):=aX rfl hl h rfl
theorem r35 {vs:List AV} {h:XH} (hl:vs.length≤20):runW aA 35 vs h=bL none x35.res x35.ownR h.length (execW aA 35 h.length none x35.body (aN (if x35.ownA then vs else dI vs)) h):=aX rfl hl h rfl
theorem r36 {vs:List AV} {h:XH} (hl:vs.length≤13):runW aA 36 vs h=bL none x36.res x36.ownR h.length (execW aA 36 h.length none x36.body (aN (if x36.ownA then vs else dI vs)) h):=aX rfl hl h rfl
theorem r37 {vs:List AV} {h:XH} (hl:vs.length≤15):runW aA 37 vs h=bL none x37.res x37.ownR h.length (execW aA 37 h.length none x37.body (aN (if x37.ownA then vs else dI vs)) h):=aX rfl hl h rfl
theorem r38 {vs:List AV} {h:XH} (hl:vs.length≤8):runW aA 38 vs h=bL none x38.res x38.ownR h.length (execW aA 38 h.length none x38.body (aN (if x38.ownA then vs else dI vs)) h):=aX rfl hl h rfl
theorem r39 {vs:List AV} {h:XH} (hl:vs.length≤66):runW aA 39 vs h=bL none x39.res x39.ownR h.length (execW aA 39 h.length none x39.body (aN (if x39.ownA then vs else dI vs)) h):=aX rfl hl h rfl
theorem r40 {vs:List AV} {h:XH} (hl:vs.length≤126):runW aA 40 vs h=bL none x40.res x40.ownR h.length (execW aA 40 h.length none x40.body (aN (if x40.ownA then vs else dI vs)) h):=aX rfl hl h rfl
theorem r41 {vs:List AV} {h:XH} (hl:vs.length≤26):runW aA 41 vs h=bL none x41.res x41.ownR h.length (execW aA 41 h.length none x41.body (aN (if x41.ownA then vs else dI vs)) h):=aX rfl hl h rfl
theorem r42 {vs:List AV} {h:XH} (hl:vs.length≤21):runW aA 42 vs h=bL none x42.res x42.ownR h.length (execW aA 42 h.length none x42.body (aN (if x42.ownA then vs else dI vs)) h):=aX rfl hl h rfl
theorem r43 {vs:List AV} {h:XH} (hl:vs.length≤98):runW aA 43 vs h=pZ 19 h.length (eM (runW aA) (runYW aA) [⟨0,(some 4),(.box (.t 0)),none⟩,⟨0,(some 7),(.box (.t 3)),none⟩,⟨0,(some 19),(.load false 1 (.t 7)),none⟩] (aN (if x43.ownA then vs else dI vs)) h) fun b e1 h1=>bL (some b) x43.res x43.ownR h.length (execW aA 43 h.length none x43.body e1 h1):=aFO rfl hl h rfl
theorem r44 {vs:List AV} {h:XH} (hl:vs.length≤51):runW aA 44 vs h=bL none x44.res x44.ownR h.length (execW aA 44 h.length none x44.body (aN (if x44.ownA then vs else dI vs)) h):=aX rfl hl h rfl
theorem r45 {vs:List AV} {h:XH} (hl:vs.length≤5):runW aA 45 vs h=bL none x45.res x45.ownR h.length (execW aA 45 h.length none x45.body (aN (if x45.ownA then vs else dI vs)) h):=aX rfl hl h rfl
theorem r46 {vs:List AV} {h:XH} (hl:vs.length≤8):runW aA 46 vs h=bL none x46.res x46.ownR h.length (execW aA 46 h.length none x46.body (aN (if x46.ownA then vs else dI vs)) h):=aX rfl hl h rfl
theorem r47 {vs:List AV} {h:XH} (hl:vs.length≤9):runW aA 47 vs h=bL none x47.res x47.ownR h.length (execW aA 47 h.length none x47.body (aN (if x47.ownA then vs else dI vs)) h):=aX rfl hl h rfl
theorem r48 {vs:List AV} {h:XH} (hl:vs.length≤30):runW aA 48 vs h=bL none x48.res x48.ownR h.length (execW aA 48 h.length none x48.body (aN (if x48.ownA then vs else dI vs)) h):=aX rfl hl h rfl
theorem r49 {vs:List AV} {h:XH} (hl:vs.length≤18):runW aA 49 vs h=bL none x49.res x49.ownR h.length (execW aA 49 h.length none x49.body (aN (if x49.ownA then vs else dI vs)) h):=aX rfl hl h rfl
theorem r50 {vs:List AV} {h:XH} (hl:vs.length≤4):runW aA 50 vs h=bL none x50.res x50.ownR h.length (execW aA 50 h.length none x50.body (aN (if x50.ownA then vs else dI vs)) h):=aX rfl hl h rfl
theorem r51 {vs:List AV} {h:XH} (hl:vs.length≤30):runW aA 51 vs h=bL none x51.res x51.ownR h.length (execW aA 51 h.length none x51.body (aN (if x51.ownA then vs else dI vs)) h):=aX rfl hl h rfl
theorem r53 {vs:List AV} {h:XH} (hl:vs.length≤14):runW aA 53 vs h=bL none x53.res x53.ownR h.length (execW aA 53 h.length none x53.body (aN (if x53.ownA then vs else dI vs)) h):=aX rfl hl h rfl
theorem r54 {vs:List AV} {h:XH} (hl:vs.length≤63):runW aA 54 vs h=bL none x54.res x54.ownR h.length (execW aA 54 h.length none x54.body (aN (if x54.ownA then vs else dI vs)) h):=aX rfl hl h rfl
theorem r55 {vs:List AV} {h:XH} (hl:vs.length≤16):runW aA 55 vs h=bL none x55.res x55.ownR h.length (execW aA 55 h.length none x55.body (aN (if x55.ownA then vs else dI vs)) h):=aX rfl hl h rfl
theorem r56 {vs:List AV} {h:XH} (hl:vs.length≤53):runW aA 56 vs h=bL none x56.res x56.ownR h.length (execW aA 56 h.length none x56.body (aN (if x56.ownA then vs else dI vs)) h):=aX rfl hl h rfl
end Go.Proofs.YtmcbhljgkgfanaaDoor
namespace Go.Proofs.YtmcbhljgkgfanaaDoor
open Go Go.DL
set_option maxRecDepth 100000
set_option maxHeartbeats 1000000
theorem ptf (p:Prop):p=True∨p=False:=by
 by_cases h:p
 ·exact .inl (eq_true h)
 ·exact .inr (eq_false h)
theorem bU {α:Type} {l:List α} {i:Nat} (h:i<l.length):∃ x,l[i]?=some x:=⟨_,List.getElem?_eq_getElem h⟩
theorem eJ {α:Type} {l:List α} {i:Nat} (h:i<l.length):((i:Int)<(l.length:Int))=True:=eq_true (by omega)
theorem eP {n i:Nat} (h:i<n) (hn:n≤9223372036854775807):IntKind.i64.wrap ((i:Int)+1)=(i:Int)+1:=aD (by omega) (by omega)
theorem dZ {α:Type} {l:List α} {i:Nat} {x:α} (h:l[i]?=some x):i<l.length:=(List.getElem?_eq_some_iff.1 h).1

def dF (f:Nat→Int):Nat→Int
 | 0=>0
 | n+1=>if dF f n=0 then f n else dF f n
theorem iP (f:Nat→Int):∀ n,∃ m,m≤n∧(∀ i,i<m→f i=0)∧((m=n∧dF f n=0)∨(m<n∧f m≠0∧dF f n=f m))
 | 0=>⟨0,Nat.le_refl _,fun i hi=>by omega,.inl ⟨rfl,rfl⟩⟩
 | n+1=>by
   obtain⟨m,h1,h2,h3⟩:=iP f n
   rcases h3 with ⟨rfl,h4⟩|⟨h4,h5,h6⟩
   ·by_cases hf:f m=0
    ·refine⟨m+1,Nat.le_refl _,fun i hi=>?_,.inl ⟨rfl,by rw[dF,if_pos h4,hf]⟩⟩
     by_cases hi2:i=m
     ·rw[hi2];exact hf
     ·exact h2 i (by omega)
    ·exact⟨m,by omega,h2,.inr ⟨by omega,hf,by rw[dF,if_pos h4]⟩⟩
   ·exact⟨m,by omega,h2,.inr ⟨by omega,h5,by rw[dF,if_neg (by rw[h6];exact h5),h6]⟩⟩
theorem fR {f:Nat→Int}:∀ {n},dF f n=0→∀ i,i<n→f i=0
 | 0,_,i,hi=>by omega
 | n+1,h,i,hi=>by
   rw[dF]at h
   by_cases h0:dF f n=0
   ·rw[if_pos h0]at h
    by_cases hin:i=n
    ·rw[hin];exact h
    ·exact fR h0 i (by omega)
   ·rw[if_neg h0]at h
    exact absurd h h0

theorem jS {res:List (Nat×Option (Bool×Nat))} {own:Bool} {k:Nat} {r:Option (DX×aL×XH)} {v:AV×XH} (h1:hZ r=true) (h2:bL none res own k r=some v):∃ e h,r=some (.ret,e,h)∧bL none res own k (some (.ret,e,h))=some v:=by
 match r with
 | none=>simp[hZ]at h1
 | some (.normal,e,h)=>simp[hZ]at h1
 | some (.exit _,e,h)=>simp[bL]at h2
 | some (.ret,e,h)=>exact⟨e,h,rfl,h2⟩
def big (k:IntKind):Prop:=k = .u64∨k = .i64
theorem aDZ:big .u64:=.inl rfl
theorem dK:big .i64:=.inr rfl
theorem lO {k:IntKind} (h:big k):k.bits=64:=by rcases h with rfl|rfl<;>rfl
theorem iF {k:IntKind} (h:big k) {a:Nat} (ha:a<2^63):k.wrap (a:Int)=(a:Int):=by
 rcases h with rfl|rfl
 ·simp[IntKind.wrap,IntKind.bits,IntKind.signed];omega
 ·simp[IntKind.wrap,IntKind.bits,IntKind.signed];omega
theorem fB {w:Nat} (a:Nat):BitVec.ofInt w (a:Int)=BitVec.ofNat w a:=by
 apply BitVec.eq_of_toNat_eq
 simp
theorem rO {k:IntKind} (h:big k) {a b:Nat} (ha:a<2^63) (hb:b<2^63):cD .and k (a:Int) (b:Int)=((a&&&b:Nat):Int):=by
 unfold cD
 dsimp only
 rw[fB,fB,lO h,BitVec.toNat_and,BitVec.toNat_ofNat,BitVec.toNat_ofNat,Nat.mod_eq_of_lt (by omega),Nat.mod_eq_of_lt (by omega)]
 exact iF h (Nat.lt_of_le_of_lt Nat.and_le_left ha)
theorem eL {k:IntKind} (h:big k) {a b:Nat} (ha:a<2^63) (hb:b<2^63):cD .or k (a:Int) (b:Int)=((a|||b:Nat):Int):=by
 unfold cD
 dsimp only
 rw[fB,fB,lO h,BitVec.toNat_or,BitVec.toNat_ofNat,BitVec.toNat_ofNat,Nat.mod_eq_of_lt (by omega),Nat.mod_eq_of_lt (by omega)]
 exact iF h (Nat.or_lt_two_pow ha hb)
def kY (a b:Nat):Nat:=a&&&(2^64-(b+1))
theorem jB (a b:Nat):kY a b≤a:=Nat.and_le_left
theorem lN {k:IntKind} (h:big k) {a b:Nat} (ha:a<2^63) (hb:b<2^63):cD .andNot k (a:Int) (b:Int)=((kY a b:Nat):Int):=by
 unfold cD
 dsimp only
 rw[fB,fB,lO h,BitVec.toNat_and,BitVec.toNat_not,BitVec.toNat_ofNat,BitVec.toNat_ofNat,Nat.mod_eq_of_lt (by omega),Nat.mod_eq_of_lt (by omega),show 2^64-1-b=2^64-(b+1) by omega]
 exact iF h (Nat.lt_of_le_of_lt (jB a b) ha)
theorem bX {a b:Nat} (hb:b<2^64) {i:Nat}:(kY a b).testBit i=(a.testBit i&&(decide (i<64) && !b.testBit i)):=by
 unfold kY
 rw[Nat.testBit_and,Nat.testBit_two_pow_sub_succ hb]
theorem xQ {a n:Nat} (h:a<2^n) {i:Nat} (hi:n≤i):a.testBit i=false:=Nat.testBit_lt_two_pow (Nat.lt_of_lt_of_le h (Nat.pow_le_pow_right (by omega) hi))
theorem aAj {k:IntKind} (h:big k) {i:Nat} (hi:i<63):k.wrap (1*2^min i k.bits)=((2^i:Nat):Int):=by
 rw[lO h,Nat.min_eq_left (by omega),Int.one_mul,show (2:Int)^i=((2^i:Nat):Int) by norm_cast]
 exact iF h (Nat.pow_lt_pow_right (by omega) hi)
theorem aId {k:IntKind} (h:big k) {a i:Nat} (hi:i<64):(a:Int).fdiv (2^min i k.bits)=((a>>>i:Nat):Int):=by
 rw[lO h,Nat.min_eq_left (by omega),show (2:Int)^i=((2^i:Nat):Int) by norm_cast,Int.fdiv_eq_ediv_of_nonneg _ (Int.natCast_nonneg _),Nat.shiftRight_eq_div_pow]
 exact(Int.natCast_ediv a (2^i)).symm
theorem aAH {k:IntKind} (h:big k) {a i:Nat} (ha:a<2^63) (hi:i<64):cD .and k ((a:Int).fdiv (2^min i k.bits)) 1=if a.testBit i then 1 else 0:=by
 have:a>>>i≤a:=Nat.shiftRight_le a i
 rw[aId h hi,show (1:Int)=((1:Nat):Int) from rfl,rO h (by omega) (by omega)]
 unfold Nat.testBit
 rw[Nat.and_comm,Nat.one_and_eq_mod_two]
 by_cases hb:(a>>>i)%2=0
 ·simp[hb]
 ·have:(a>>>i)%2=1:=by omega
  simp[this]
theorem aLc {k:IntKind} (h:big k) {a i:Nat} (ha:a<2^63) (hi:i<64):(cD .and k ((a:Int).fdiv (2^min i k.bits)) 1=1)=(a.testBit i=true):=by
 rw[aAH h ha hi]
 cases a.testBit i<;>simp
theorem zD {a i n:Nat} (ha:a<2^n) (hi:i<n):a|||2^i<2^n:=Nat.or_lt_two_pow ha (Nat.pow_lt_pow_right (by omega) hi)
theorem fJ (a i j:Nat):(a|||2^i).testBit j=(a.testBit j||decide (i=j)):=by
 rw[Nat.testBit_or,Nat.testBit_two_pow]


def btw (a b c:Int):Bool:=decide (a≤b)&&decide (b≤c)
theorem oA {a b c:Int}:btw a b c=true↔a≤b∧b≤c:=by simp[btw]
theorem w45 (a b c:Int):runW aA 20 [I a,I b,I c] []=some (.bool (btw a b c),[]):=by
 rw[r20 (by simp)];unfold x20;dsimp only
 rcases ptf (a≤b)with h|h
 ·(sym=>(simp[Za,Zb,Zf,Zh,Zl,Zm,Zp,Zq,Zu,Zx,Z2,ZW,Yu,YZ,Xt,XL,Wd,We,W8,WH,WL,WM,WO,WP,Vs,V6,V7,V9,VA,VB,VC,VD,VG,VH,VI,VJ,VL,VV,VX,Ua,Uc,Ue,Ui,Ux,U1,U2,U3,UC,UD,Tw,Tx,Ty,T2,T9,TA,S8,h,btw.eq_1];all_goals tactic=>exact rfl))
 ·(sym=>(simp[Za,Zb,Zf,Zh,Zl,Zm,Zp,Zs,Zu,Zx,Z2,ZX,Yu,YZ,Xt,XL,Wd,We,W8,WH,WL,WM,WO,WP,Vs,V6,V7,V9,VA,VB,VC,VD,VG,VH,VI,VJ,VL,VV,VX,Ua,Uc,Ue,Uk,Uy,U1,U2,U3,UC,UD,Tw,Tx,Ty,T2,T9,TA,S8,h,btw.eq_1];all_goals tactic=>exact rfl))
theorem w60 {a j:Nat} (ha:a<2^63) (hj:j<64):runW aA 11 [I a,I j] []=some (.bool (a.testBit j),[]):=by
 have e:=aLc dK (a:=a) (i:=j) ha hj
 have n0:((j:Int)<0)=False:=eq_false (by omega)
 rw[r11 (by simp)];unfold x11;dsimp only
 cases hb:a.testBit j
 ·rw[hb]at e
  have e:=e.trans (eq_false (by simp))
  (sym=>(simp[Za,Zb,Zf,Zh,Zl,Zm,Zu,Z2,Yn,Yq,Yr,Yy,YZ,Xt,XL,Wd,We,W8,WH,WL,WM,WO,WP,Vs,V6,V7,V9,VA,VB,VC,VD,VG,VH,VI,VJ,VL,VV,VX,Ua,Uc,Ue,Uy,U1,U2,U3,UC,UD,Tw,Tx,Ty,T2,T9,TA,S8,n0,e];all_goals tactic=>exact rfl))
 ·rw[hb]at e
  have e:=e.trans (eq_true rfl)
  (sym=>(simp[Za,Zb,Zf,Zh,Zl,Zm,Zu,Z2,Yn,Yq,Yr,Yy,YZ,Xt,XL,Wd,We,W8,WH,WL,WM,WO,WP,Vs,V6,V7,V9,VA,VB,VC,VD,VG,VH,VI,VJ,VL,VV,VX,Ua,Uc,Ue,Ux,U1,U2,U3,UC,UD,Tw,Tx,Ty,T2,T9,TA,S8,n0,e];all_goals tactic=>exact rfl))
theorem w62 {j:Nat} (hj:j<63):runW aA 13 [I j] []=some (I (2^j:Nat),[]):=by
 have e:=aAj dK hj
 have n0:((j:Int)<0)=False:=eq_false (by omega)
 rw[r13 (by simp)];unfold x13;dsimp only
 (sym=>(simp[Za,Zb,Zf,Zh,Zl,Zm,Zu,Z2,Yp,Yy,YY,Xs,XK,Wd,W8,WH,WL,WM,WO,WP,Vs,V6,V7,V9,VA,VB,VC,VD,VG,VH,VI,VJ,VL,VV,VX,Ua,Uc,Ue,U1,U2,U3,UC,UD,Tw,Tx,Ty,T2,T9,TA,S8,n0,e];all_goals tactic=>exact rfl))
abbrev nL (l:List Int):AV:=.fs (l.map fun n=>[I n])
end Go.Proofs.YtmcbhljgkgfanaaDoor
namespace Go.Proofs.YtmcbhljgkgfanaaDoor
open Go Go.DL
set_option maxRecDepth 100000
set_option maxHeartbeats 4000000

theorem aKs:∀ a:Nat,a≠0→∃ p m,a=2^p*(2*m+1):=by
 intro a
 induction a using Nat.strongRecOn with
 | _ a ih =>
   intro h0
   by_cases h:a%2=1
   ·exact⟨0,a/2,by omega⟩
   ·obtain⟨p,m,hm⟩:=ih (a/2) (by omega) (by omega)
    refine⟨p+1,m,?_⟩
    rw[Nat.pow_succ,Nat.mul_comm (2^p) 2,Nat.mul_assoc,←hm]
    omega
theorem aAc (m j:Nat):(2*m+1).testBit j=if j=0 then true else m.testBit (j-1):=by
 cases j with
 | zero=>simp[Nat.testBit]
 | succ j=>simp only[Nat.add_one_ne_zero,if_false,Nat.add_sub_cancel];rw[Nat.testBit_succ];congr 1;omega
theorem aAd (m j:Nat):(2*m).testBit j=if j=0 then false else m.testBit (j-1):=by
 cases j with
 | zero=>simp[Nat.testBit]
 | succ j=>simp only[Nat.add_one_ne_zero,if_false,Nat.add_sub_cancel];rw[Nat.testBit_succ];congr 1;omega
theorem lS (p x i:Nat):(2^p*x).testBit i=if i<p then false else x.testBit (i-p):=by
 have:=Nat.testBit_two_pow_mul_add x (b:=0) (i:=p) (Nat.two_pow_pos p) i
 rw[Nat.add_zero,Nat.zero_testBit]at this
 exact this
theorem aET (p m:Nat):2^p*(2*m+1)&&&(2^p*(2*m+1)-1)=2^p*(2*m):=by
 have h1:2^p*(2*m+1)-1=2^p*(2*m)+(2^p-1):=by
  have:=Nat.two_pow_pos p
  rw[Nat.mul_add,Nat.mul_one];omega
 apply Nat.eq_of_testBit_eq
 intro i
 rw[Nat.testBit_and,lS,h1,Nat.testBit_two_pow_mul_add _ (by have:=Nat.two_pow_pos p;omega),lS]
 by_cases hi:i<p
 ·simp[hi]
 ·simp only[hi,if_false,aAc,aAd]
  by_cases h0:i-p=0
  ·simp[h0]
  ·simp[h0]
theorem aIM (p m:Nat) (h:2^p*(2*m+1)<2^64):2^p*(2*m+1)&&&(2^64-2^p*(2*m+1))=2^p:=by
 have hp:p<64:=by
  by_cases hp:p<64
  ·exact hp
  ·have h1:2^64≤2^p:=Nat.pow_le_pow_right (by omega) (by omega)
   have h2:2^p*1≤2^p*(2*m+1):=Nat.mul_le_mul_left _ (by omega)
   omega
 have e64:(2:Nat)^64=2^p*(2*2^(63-p)):=by
  rw[←Nat.pow_succ',←Nat.pow_add];congr 1;omega
 have hm:m<2^(63-p):=by
  rw[e64]at h
  have:=Nat.lt_of_mul_lt_mul_left h
  omega
 have h1:2^64-2^p*(2*m+1)=2^p*(2*(2^(63-p)-(m+1))+1):=by
  rw[e64,←Nat.mul_sub];congr 1;omega
 rw[h1]
 apply Nat.eq_of_testBit_eq
 intro i
 rw[Nat.testBit_and,lS,lS,Nat.testBit_two_pow]
 by_cases hi:i<p
 ·simp[hi];omega
 ·simp only[hi,if_false,aAc]
  by_cases h0:i-p=0
  ·have:p=i:=by omega
   simp[h0,this]
  ·have:p≠i:=by omega
   simp only[h0,if_false,Nat.testBit_two_pow_sub_succ hm]
   cases m.testBit (i-p-1)<;>simp[this]

def el (a:Nat):List Nat:=(List.range 16).filter (a.testBit ·)
def qZ (a:Nat):Nat:=(el a).headD 0
theorem fK {a k:Nat}:k∈el a↔k<16∧a.testBit k=true:=by simp[el]
theorem aHj {a:Nat} (ha:a<65536) (h0:a≠0):∃ p m,p<16∧a=2^p*(2*m+1)∧el a=p::el (a&&&(a-1)):=by
 obtain⟨p,m,rfl⟩:=aKs a h0
 have hp:p<16:=by
  by_cases hp:p<16
  ·exact hp
  ·have h1:2^16≤2^p:=Nat.pow_le_pow_right (by omega) (by omega)
   have h2:2^p*1≤2^p*(2*m+1):=Nat.mul_le_mul_left _ (by omega)
   omega
 refine⟨p,m,hp,rfl,?_⟩
 rw[aET]
 unfold el
 have hr:List.range 16=List.range p++p::List.range' (p+1) (15-p):=by
  rw[List.range_eq_range',List.range_eq_range',show (16:Nat)=p+(1+(15-p)) by omega,←List.range'_append_1,←List.range'_append_1]
  simp
 rw[hr,List.filter_append,List.filter_append,List.filter_cons,List.filter_cons]
 have f1:∀ x:Nat,(List.range p).filter (fun i=>(2^p*x).testBit i)=[]:=fun x=>by
  rw[List.filter_eq_nil_iff]
  intro i hi
  rw[List.mem_range]at hi
  rw[lS,if_pos hi];simp
 have t1:(2^p*(2*m+1)).testBit p=true:=by rw[lS,if_neg (by omega),Nat.sub_self,aAc];rfl
 have t2:(2^p*(2*m)).testBit p=false:=by rw[lS,if_neg (by omega),Nat.sub_self,aAd];rfl
 rw[f1,f1]
 simp only[t1,t2,if_true,List.nil_append,Bool.false_eq_true,if_false]
 congr 1
 refine List.filter_congr fun i hi=>?_
 rw[List.mem_range'_1]at hi
 rw[lS,lS,if_neg (by omega),if_neg (by omega),aAc,aAd,if_neg (by omega),if_neg (by omega)]
theorem vB {a:Nat} (ha:a<65536) (h0:a≠0):el a=qZ a::el (a&&&(a-1)):=by
 obtain⟨p,m,_,_,h⟩:=aHj ha h0
 rw[qZ,h];rfl
theorem aQi {a:Nat} (ha:a<65536):el a=[]↔a=0:=by
 constructor
 ·intro h
  by_cases h0:a=0
  ·exact h0
  ·rw[vB ha h0]at h;simp at h
 ·rintro rfl;rfl
theorem aGE {a:Nat} (ha:a<65536) (h0:a≠0):qZ a<16∧a.testBit (qZ a)=true:=by
 have:=vB ha h0
 exact fK.1 (by rw[this];simp)
theorem aJr {a:Nat} (ha:a<65536) (h0:a≠0):a&&&(2^64-a)=2^qZ a:=by
 obtain⟨p,m,hp,e,h⟩:=aHj ha h0
 have hl:qZ a=p:=by rw[qZ,h];rfl
 rw[hl]
 conv=>lhs;rw[e]
 exact aIM p m (by rw[←e];omega)

abbrev U (a:Nat):AV:=.int .u64 (a:Int)
theorem w91 {a:Nat} (ha:a<65536) (h0:a≠0):runW aA 53 [U a] []=some (I (qZ a:Nat),[]):=by
 have n0:((a:Int)=0)=False:=eq_false (by omega)
 have u1:IntKind.u64.wrap (0-(a:Int))=((2^64-a:Nat):Int):=by
  simp[IntKind.wrap,IntKind.bits,IntKind.signed];omega
 have u2:cD .and .u64 (a:Int) ((2^64-a:Nat):Int)=((2^qZ a:Nat):Int):=by
  unfold cD
  dsimp only
  rw[fB,fB,lO aDZ,BitVec.toNat_and,BitVec.toNat_ofNat,BitVec.toNat_ofNat,Nat.mod_eq_of_lt (by omega),Nat.mod_eq_of_lt (by omega),aJr ha h0]
  exact iF aDZ (Nat.pow_lt_pow_right (by omega) (by have:=(aGE ha h0).1;omega))
 obtain⟨p,hp⟩:∃ p,qZ a=p:=⟨_,rfl⟩
 have hp16:=(aGE ha h0).1
 rw[hp]at u2 hp16 ⊢
 generalize 2^64-a=na at u1 u2
 rw[r53 (by simp)];unfold x53;dsimp only
 have fin:p=0∨p=1∨p=2∨p=3∨p=4∨p=5∨p=6∨p=7∨p=8∨p=9∨p=10∨p=11∨p=12∨p=13∨p=14∨p=15:=by omega
 rcases fin with rfl|rfl|rfl|rfl|rfl|rfl|rfl|rfl|rfl|rfl|rfl|rfl|rfl|rfl|rfl|rfl
 ·have u2:cD .and .u64 (a:Int) (na:Int)=1:=u2
  have u3:IntKind.u64.wrap 285870213051353865=285870213051353865:=by decide
  have u4:(285870213051353865:Int).fdiv (2^min (Int.toNat 58) IntKind.u64.bits)=0:=by decide
  have u5:Int.toNat 0=0:=rfl
  (sym=>(simp[Za,Zb,Zf,Zh,Zl,Zm,Zu,Z2,Z5,Z6,Z8,ZH,ZZ,Ya,Ym,Yn,Yq,Yr,Yz,Y9,YA,YQ,YY,Xs,XK,Wd,W8,W9,WH,WL,WM,WO,WP,Vs,V6,V7,V9,VA,VB,VC,VD,VG,VH,VI,VJ,VL,VQ,VS,VV,VX,Ua,Uc,Ue,Us,Uy,U1,U2,U3,UC,UD,Tj,Tk,Tm,Tw,Tx,Ty,Tz,T2,T9,TA,S8,SO,n0,u1,u2,u3,u4,u5];all_goals tactic=>exact rfl))
 ·have u2:cD .and .u64 (a:Int) (na:Int)=2:=u2
  have u3:IntKind.u64.wrap 571740426102707730=571740426102707730:=by decide
  have u4:(571740426102707730:Int).fdiv (2^min (Int.toNat 58) IntKind.u64.bits)=1:=by decide
  have u5:Int.toNat 1=1:=rfl
  (sym=>(simp[Za,Zb,Zf,Zh,Zl,Zm,Zu,Z2,Z5,Z6,Z8,ZH,ZZ,Ya,Ym,Yn,Yq,Yr,Y0,YB,YC,YQ,YY,Xs,XK,Wd,W8,W9,WH,WL,WM,WO,WP,Vs,V6,V7,V9,VA,VB,VC,VD,VG,VH,VI,VJ,VL,VQ,VS,VV,VX,Ua,Uc,Ue,Us,Uy,U1,U2,U3,UC,UD,Tj,Tk,Tm,Tw,Tx,Ty,Tz,T2,T9,TA,S8,SO,n0,u1,u2,u3,u4,u5];all_goals tactic=>exact rfl))
 ·have u2:cD .and .u64 (a:Int) (na:Int)=4:=u2
  have u3:IntKind.u64.wrap 1143480852205415460=1143480852205415460:=by decide
  have u4:(1143480852205415460:Int).fdiv (2^min (Int.toNat 58) IntKind.u64.bits)=3:=by decide
  have u5:Int.toNat 3=3:=rfl
  (sym=>(simp[Za,Zb,Zf,Zh,Zl,Zm,Zu,Z2,Z5,Z6,Z8,ZH,ZZ,Ya,Ym,Yn,Yq,Yr,Y1,YE,YF,YQ,YY,Xs,XK,Wd,W8,W9,WH,WL,WM,WO,WP,Vs,V6,V7,V9,VA,VB,VC,VD,VG,VH,VI,VJ,VL,VQ,VS,VV,VX,Ua,Uc,Ue,Us,Uy,U1,U2,U3,UC,UD,Tj,Tk,Tm,Tw,Tx,Ty,Tz,T2,T9,TA,S8,SO,n0,u1,u2,u3,u4,u5];all_goals tactic=>exact rfl))
 ·have u2:cD .and .u64 (a:Int) (na:Int)=8:=u2
  have u3:IntKind.u64.wrap 2286961704410830920=2286961704410830920:=by decide
  have u4:(2286961704410830920:Int).fdiv (2^min (Int.toNat 58) IntKind.u64.bits)=7:=by decide
  have u5:Int.toNat 7=7:=rfl
  (sym=>(simp[Za,Zb,Zf,Zh,Zl,Zm,Zu,Z2,Z5,Z6,Z8,ZH,ZZ,Ya,Ym,Yn,Yq,Yr,Y2,YG,YL,YQ,YY,Xs,XK,Wd,W8,W9,WH,WL,WM,WO,WP,Vs,V6,V7,V9,VA,VB,VC,VD,VG,VH,VI,VJ,VL,VQ,VS,VV,VX,Ua,Uc,Ue,Us,Uy,U1,U2,U3,UC,UD,Tj,Tk,Tm,Tw,Tx,Ty,Tz,T2,T9,TA,S8,SO,n0,u1,u2,u3,u4,u5];all_goals tactic=>exact rfl))
 ·have u2:cD .and .u64 (a:Int) (na:Int)=16:=u2
  have u3:IntKind.u64.wrap 4573923408821661840=4573923408821661840:=by decide
  have u4:(4573923408821661840:Int).fdiv (2^min (Int.toNat 58) IntKind.u64.bits)=15:=by decide
  have u5:Int.toNat 15=15:=rfl
  (sym=>(simp[Za,Zb,Zf,Zh,Zl,Zm,Zu,Z2,Z5,Z6,Z8,ZH,ZZ,Ya,Ym,Yn,Yq,Yr,Y3,YH,YQ,YY,Xs,XK,Wd,W8,W9,WH,WL,WM,WO,WP,Vs,V6,V7,V9,VA,VB,VC,VD,VG,VH,VI,VJ,VL,VQ,VS,VV,VX,Ua,Uc,Ue,Us,Uy,U1,U2,U3,UC,UD,Tj,Tk,Tm,Tw,Tx,Ty,Tz,T2,T9,TA,S8,SO,n0,u1,u2,u3,u4,u5];all_goals tactic=>exact rfl))
 ·have u2:cD .and .u64 (a:Int) (na:Int)=32:=u2
  have u3:IntKind.u64.wrap 9147846817643323680=9147846817643323680:=by decide
  have u4:(9147846817643323680:Int).fdiv (2^min (Int.toNat 58) IntKind.u64.bits)=31:=by decide
  have u5:Int.toNat 31=31:=rfl
  (sym=>(simp[Za,Zb,Zf,Zh,Zl,Zm,Zu,Z2,Z5,Z6,Z8,ZH,ZZ,Ya,Ym,Yn,Yq,Yr,Y4,YJ,YQ,YY,Xs,XK,Wd,W8,W9,WH,WL,WM,WO,WP,Vs,V6,V7,V9,VA,VB,VC,VD,VG,VH,VI,VJ,VL,VQ,VS,VV,VX,Ua,Uc,Ue,Us,Uy,U1,U2,U3,UC,UD,Tj,Tk,Tm,Tw,Tx,Ty,Tz,T2,T9,TA,S8,SO,n0,u1,u2,u3,u4,u5];all_goals tactic=>exact rfl))
 ·have u2:cD .and .u64 (a:Int) (na:Int)=64:=u2
  have u3:IntKind.u64.wrap 18295693635286647360=18295693635286647360:=by decide
  have u4:(18295693635286647360:Int).fdiv (2^min (Int.toNat 58) IntKind.u64.bits)=63:=by decide
  have u5:Int.toNat 63=63:=rfl
  (sym=>(simp[Za,Zb,Zf,Zh,Zl,Zm,Zu,Z2,Z5,Z6,Z8,ZH,ZZ,Ya,Ym,Yn,Yq,Yr,Y5,YK,YQ,YY,Xs,XK,Wd,W8,W9,WH,WL,WM,WO,WP,Vs,V6,V7,V9,VA,VB,VC,VD,VG,VH,VI,VJ,VL,VQ,VS,VV,VX,Ua,Uc,Ue,Us,Uy,U1,U2,U3,UC,UD,Tj,Tk,Tm,Tw,Tx,Ty,Tz,T2,T9,TA,S8,SO,n0,u1,u2,u3,u4,u5];all_goals tactic=>exact rfl))
 ·have u2:cD .and .u64 (a:Int) (na:Int)=128:=u2
  have u3:IntKind.u64.wrap 36591387270573294720=18144643196863743104:=by decide
  have u4:(18144643196863743104:Int).fdiv (2^min (Int.toNat 58) IntKind.u64.bits)=62:=by decide
  have u5:Int.toNat 62=62:=rfl
  (sym=>(simp[Za,Zb,Zf,Zh,Zl,Zm,Zu,Z2,Z5,Z6,Z8,ZH,ZZ,Ya,Ym,Yn,Yq,Yr,Y6,YM,YQ,YY,Xs,XK,Wd,W8,W9,WH,WL,WM,WO,WP,Vs,V6,V7,V9,VA,VB,VC,VD,VG,VH,VI,VJ,VL,VQ,VS,VV,VX,Ua,Uc,Ue,Us,Uy,U1,U2,U3,UC,UD,Tj,Tk,Tm,Tw,Tx,Ty,Tz,T2,T9,TA,S8,SO,n0,u1,u2,u3,u4,u5];all_goals tactic=>exact rfl))
 ·have u2:cD .and .u64 (a:Int) (na:Int)=256:=u2
  have u3:IntKind.u64.wrap 73182774541146589440=17842542320017934592:=by decide
  have u4:(17842542320017934592:Int).fdiv (2^min (Int.toNat 58) IntKind.u64.bits)=61:=by decide
  have u5:Int.toNat 61=61:=rfl
  (sym=>(simp[Za,Zb,Zf,Zh,Zl,Zm,Zu,Z2,Z5,Z6,Z8,ZH,ZZ,Ya,Ym,Yn,Yq,Yr,Y7,YN,YQ,YY,Xs,XK,Wd,W8,W9,WH,WL,WM,WO,WP,Vs,V6,V7,V9,VA,VB,VC,VD,VG,VH,VI,VJ,VL,VQ,VS,VV,VX,Ua,Uc,Ue,Us,Uy,U1,U2,U3,UC,UD,Tj,Tk,Tm,Tw,Tx,Ty,Tz,T2,T9,TA,S8,SO,n0,u1,u2,u3,u4,u5];all_goals tactic=>exact rfl))
 ·have u2:cD .and .u64 (a:Int) (na:Int)=512:=u2
  have u3:IntKind.u64.wrap 146365549082293178880=17238340566326317568:=by decide
  have u4:(17238340566326317568:Int).fdiv (2^min (Int.toNat 58) IntKind.u64.bits)=59:=by decide
  have u5:Int.toNat 59=59:=rfl
  (sym=>(simp[Za,Zb,Zf,Zh,Zl,Zm,Zu,Z2,Z5,Z6,Z8,ZH,ZZ,Ya,Ym,Yn,Yq,Yr,Y8,YO,YQ,YY,Xs,XK,Wd,W8,W9,WH,WL,WM,WO,WP,Vs,V6,V7,V9,VA,VB,VC,VD,VG,VH,VI,VJ,VL,VQ,VS,VV,VX,Ua,Uc,Ue,Us,Uy,U1,U2,U3,UC,UD,Tj,Tk,Tm,Tw,Tx,Ty,Tz,T2,T9,TA,S8,SO,n0,u1,u2,u3,u4,u5];all_goals tactic=>exact rfl))
 ·have u2:cD .and .u64 (a:Int) (na:Int)=1024:=u2
  have u3:IntKind.u64.wrap 292731098164586357760=16029937058943083520:=by decide
  have u4:(16029937058943083520:Int).fdiv (2^min (Int.toNat 58) IntKind.u64.bits)=55:=by decide
  have u5:Int.toNat 55=55:=rfl
  (sym=>(simp[Za,Zb,Zf,Zh,Zl,Zm,Zu,Z2,Z5,Z6,Z8,ZH,ZZ,Ya,Ym,Yn,Yq,Yr,YQ,YY,Xs,XK,Wd,W8,W9,WH,WL,WM,WO,WP,Vs,V6,V7,V9,VA,VB,VC,VD,VG,VH,VI,VJ,VL,VQ,VS,VV,VX,Ua,Uc,Ue,Us,Uy,U1,U2,U3,UC,UD,Tj,Tk,Tm,Tw,Tx,Ty,Tz,T2,T9,TA,S8,SE,SO,n0,u1,u2,u3,u4,u5];all_goals tactic=>exact rfl))
 ·have u2:cD .and .u64 (a:Int) (na:Int)=2048:=u2
  have u3:IntKind.u64.wrap 585462196329172715520=13613130044176615424:=by decide
  have u4:(13613130044176615424:Int).fdiv (2^min (Int.toNat 58) IntKind.u64.bits)=47:=by decide
  have u5:Int.toNat 47=47:=rfl
  (sym=>(simp[Za,Zb,Zf,Zh,Zl,Zm,Zu,Z2,Z5,Z6,Z8,ZH,ZZ,Ya,Ym,Yn,Yq,Yr,YQ,YY,Xs,XK,Wd,W8,W9,WH,WL,WM,WO,WP,Vs,V6,V7,V9,VA,VB,VC,VD,VG,VH,VI,VJ,VL,VQ,VS,VV,VX,Ua,Uc,Ue,Us,Uy,U1,U2,U3,UC,UD,Tj,Tk,Tm,Tw,Tx,Ty,Tz,T2,T9,TA,S8,SF,SO,n0,u1,u2,u3,u4,u5];all_goals tactic=>exact rfl))
 ·have u2:cD .and .u64 (a:Int) (na:Int)=4096:=u2
  have u3:IntKind.u64.wrap 1170924392658345431040=8779516014643679232:=by decide
  have u4:(8779516014643679232:Int).fdiv (2^min (Int.toNat 58) IntKind.u64.bits)=30:=by decide
  have u5:Int.toNat 30=30:=rfl
  (sym=>(simp[Za,Zb,Zf,Zh,Zl,Zm,Zu,Z2,Z5,Z6,Z8,ZH,ZZ,Ya,Ym,Yn,Yq,Yr,YQ,YY,Xs,XK,Wd,W8,W9,WH,WL,WM,WO,WP,Vs,V6,V7,V9,VA,VB,VC,VD,VG,VH,VI,VJ,VL,VQ,VS,VV,VX,Ua,Uc,Ue,Us,Uy,U1,U2,U3,UC,UD,Tj,Tk,Tm,Tw,Tx,Ty,Tz,T2,T9,TA,S8,SG,SO,n0,u1,u2,u3,u4,u5];all_goals tactic=>exact rfl))
 ·have u2:cD .and .u64 (a:Int) (na:Int)=8192:=u2
  have u3:IntKind.u64.wrap 2341848785316690862080=17559032029287358464:=by decide
  have u4:(17559032029287358464:Int).fdiv (2^min (Int.toNat 58) IntKind.u64.bits)=60:=by decide
  have u5:Int.toNat 60=60:=rfl
  (sym=>(simp[Za,Zb,Zf,Zh,Zl,Zm,Zu,Z2,Z5,Z6,Z8,ZH,ZZ,Ya,Ym,Yn,Yq,Yr,YQ,YY,Xs,XK,Wd,W8,W9,WH,WL,WM,WO,WP,Vs,V6,V7,V9,VA,VB,VC,VD,VG,VH,VI,VJ,VL,VQ,VS,VV,VX,Ua,Uc,Ue,Us,Uy,U1,U2,U3,UC,UD,Tj,Tk,Tm,Tw,Tx,Ty,Tz,T2,T9,TA,S8,SI,SO,n0,u1,u2,u3,u4,u5];all_goals tactic=>exact rfl))
 ·have u2:cD .and .u64 (a:Int) (na:Int)=16384:=u2
  have u3:IntKind.u64.wrap 4683697570633381724160=16671319984865165312:=by decide
  have u4:(16671319984865165312:Int).fdiv (2^min (Int.toNat 58) IntKind.u64.bits)=57:=by decide
  have u5:Int.toNat 57=57:=rfl
  (sym=>(simp[Za,Zb,Zf,Zh,Zl,Zm,Zu,Z2,Z5,Z6,Z8,ZH,ZZ,Ya,Ym,Yn,Yq,Yr,YQ,YY,Xs,XK,Wd,W8,W9,WH,WL,WM,WO,WP,Vs,V6,V7,V9,VA,VB,VC,VD,VG,VH,VI,VJ,VL,VQ,VS,VV,VX,Ua,Uc,Ue,Us,Uy,U1,U2,U3,UC,UD,Tj,Tk,Tm,Tw,Tx,Ty,Tz,T2,T9,TA,S8,SJ,SO,n0,u1,u2,u3,u4,u5];all_goals tactic=>exact rfl))
 ·have u2:cD .and .u64 (a:Int) (na:Int)=32768:=u2
  have u3:IntKind.u64.wrap 9367395141266763448320=14895895896020779008:=by decide
  have u4:(14895895896020779008:Int).fdiv (2^min (Int.toNat 58) IntKind.u64.bits)=51:=by decide
  have u5:Int.toNat 51=51:=rfl
  (sym=>(simp[Za,Zb,Zf,Zh,Zl,Zm,Zu,Z2,Z5,Z6,Z8,ZH,ZZ,Ya,Ym,Yn,Yq,Yr,YQ,YY,Xs,XK,Wd,W8,W9,WH,WL,WM,WO,WP,Vs,V6,V7,V9,VA,VB,VC,VD,VG,VH,VI,VJ,VL,VQ,VS,VV,VX,Ua,Uc,Ue,Us,Uy,U1,U2,U3,UC,UD,Tj,Tk,Tm,Tw,Tx,Ty,Tz,T2,T9,TA,S8,SK,SO,n0,u1,u2,u3,u4,u5];all_goals tactic=>exact rfl))
theorem w87 {a:Nat} (ha:a<65536) (h0:a≠0):runW aA 38 [U a] []=some (I (qZ a:Nat),[]):=by
 have e:=w91 ha h0
 rw[r38 (by simp)];unfold x38;dsimp only
 (sym=>(simp[Za,Zb,Zf,Zh,Zl,Zu,ZP,ZQ,ZU,ZV,YY,Xs,XK,Wd,W7,W8,WH,WK,WL,WM,WO,WP,WR,WS,Vf,Vg,Vh,Vs,V6,V7,V9,VA,VB,VC,VD,VG,VH,VI,VJ,VL,VQ,VS,VV,VW,VX,VZ,Ua,Uc,Ue,U1,U2,U3,U4,U5,UC,UD,Tx,Ty,Tz,T2,T9,TA,S8,e];all_goals tactic=>exact rfl))
def tE (a:Nat):Nat→Nat
 | 0=>a
 | i+1=>tE a i&&&(tE a i-1)
theorem tD {a:Nat} (ha:a<65536):∀ i,tE a i<65536
 | 0=>ha
 | i+1=>by rw[tE];exact Nat.lt_of_le_of_lt Nat.and_le_left (tD ha i)
theorem aCO {a:Nat} (ha:a<65536):∀ i,el (tE a i)=(el a).drop i
 | 0=>rfl
 | i+1=>by
   have ih:=aCO ha i
   rw[tE]
   by_cases h0:tE a i=0
   ·rw[h0]at ih ⊢
    have e0:el 0=[]:=rfl
    rw[show (0&&&(0-1))=0 from rfl,e0]
    rw[e0]at ih
    have:=congrArg List.length ih
    rw[List.length_nil,List.length_drop]at this
    exact(List.drop_eq_nil_of_le (by omega)).symm
   ·rw[vB (tD ha i) h0]at ih
    rw[←List.drop_drop,←ih]
    rfl
theorem aHo {a:Nat} (ha:a<65536) {i:Nat} (hi:i<(el a).length):tE a i≠0∧(el a)[i]?=some (qZ (tE a i)):=by
 have h:=aCO ha i
 have h0:tE a i≠0:=fun hc=>by
  rw[hc,show el 0=[] from rfl]at h
  have:=congrArg List.length h
  rw[List.length_nil,List.length_drop]at this
  omega
 refine⟨h0,?_⟩
 rw[vB (tD ha i) h0]at h
 have:=congrArg (fun l=>l[0]?) h
 simpa using this.symm
theorem aDT {a:Nat} (ha:a<65536):tE a (el a).length=0:=by
 have h:=aCO ha (el a).length
 rw[List.drop_length]at h
 exact(aQi (tD ha _)).1 h
abbrev cI (a:Nat):Option XB:=some (.blk true (.cells true [I a]))
structure aEZ (n:Nat) (H:XH):Prop where
 hat:∀ a,hat (H++[cI a]) n=cI a
 set:∀ a b,(H++[cI a]).set n (cI b)=H++[cI b]
 len:∀ a,(H++[cI a]).length=n+1
 head:∀ (a:Nat) (e:aL),e 0 = .fn (.yield 0) [] []→e 1 = .pt n 0→aW (n+1) [0,1] (some (.normal,e,H++[cI a]))=some ([.fn (.yield 0) [] [],.pt n 0],H++[cI a])
 fin:∀ a,iH false (n+1) (.tup []) (H++[cI a])=(.tup [],H++[cI a])
def Yd (H H':XH) (v:Nat) (b:Bool):Prop:=∀ a:Nat,eG (runW aA) (runYW aA) (.fn (.yield 0) [] []) [I v] (H++[cI a])=some (.bool b,H'++[cI a])
theorem aIh {n:Nat} {H H':XH} (g:aEZ n H) (g':aEZ n H') {a:Nat} (ha:a<65536) (h0:a≠0) (hy:Yd H H' (qZ a) true) :
 aW (n+1) [0,1] (execW aA 37 (n+1) none (match vJ with | .loop _ a=>a|c=>c) (aY [0,1] [.fn (.yield 0) [] [],.pt n 0]) (H++[cI a]))=some ([.fn (.yield 0) [] [],.pt n 0],H'++[cI (a&&&(a-1))]):=by
 have h1:=g.hat a
 have h2:=g'.hat a
 have h3:=g'.set a
 have h4:=hy a
 have t:=w87 ha h0
 have n0:((a:Int)=0)=False:=eq_false (by omega)
 have u1:IntKind.i64.wrap ((a:Int)-1)=((a-1:Nat):Int):=by
  rw[show (a:Int)-1=((a-1:Nat):Int) by omega];exact iF dK (by omega)
 have u2:=rO dK (a:=a) (b:=a-1) (by omega) (by omega)
 have u3:=iF aDZ (a:=a) (by omega)
 have hd:=g'.head (a&&&(a-1))
 unfold vJ
 dsimp only
 sym =>
  simp[Za,Zb,Zc,Zf,Zh,Zl,Zm,Zu,Z2,Z4,Z6,ZH,ZL,ZM,ZP,ZQ,ZU,ZV,ZY,Ya,Yl,Yn,Ys,YY,Xj,Xs,Wp,Wz,W0,W4,W6,W7,W9,WH,WK,WM,WR,WS,Vf,Vg,Vh,VN,VQ,VR,VS,VW,VX,VZ,Ua,Ud,Ue,Uj,Um,Un,Us,Uy,U1,U2,U3,U4,U5,U6,U7,UE,Th,Ti,Tm,Tn,Tp,Tw,Tx,Tz,T1,T2,T5,T9,TA,TK,h1,h2,t,h4,n0,u1,u2,u3,h3]
  tactic=>exact hd _ rfl rfl
theorem rI {n:Nat} {G:Nat→XH} {a:Nat} (ha:a<65536) (g:∀ i,i≤(el a).length→aEZ n (G i)) (hy:∀ i v,(el a)[i]?=some v→Yd (G i) (G (i+1)) v true) :
 runW aA 37 [.fn (.yield 0) [] [],.pt n 0] (G 0++[cI a])=some (.tup [],G (el a).length++[cI 0]):=by
 have l0:=(g 0 (by omega)).len a
 have g1:=g (el a).length (by omega)
 have h1:hat (G (el a).length++[some (.blk true (.cells true [.int .i64 0]))]) n=some (.blk true (.cells true [.int .i64 0])):=g1.hat 0
 have hf:iH false (n+1) (.tup []) (G (el a).length++[some (.blk true (.cells true [.int .i64 0]))])=(.tup [],G (el a).length++[some (.blk true (.cells true [.int .i64 0]))]):=g1.fin 0
 have c0:=aDT ha
 rw[r37 (by simp)];unfold x37;dsimp only
 rw[l0]
 unfold vJ
 sym =>
  simp[YA,Wj,Wo,VV,UC,UD,T1]
  tactic =>
   rw[aI (el a).length (fun _=>[.fn (.yield 0) [] [],.pt n 0]) (fun i=>G i++[cI (tE a i)])]
   ·rw[c0]
    (sym=>(simp[Za,Zb,Zf,Zh,Zl,Zm,Z2,ZH,Ys,YA,Wz,W0,W9,V5,V7,VC,VE,VG,VN,VQ,VS,Um,Ux,Th,Ti,Tm,Tw,Tx,T0,T2,T3,T7,T9,TA,h1,hf];all_goals tactic=>exact rfl))
   ·exact(g 0 (by omega)).head a _ rfl rfl
   ·intro i hi
    obtain⟨p1,p2⟩:=aHo ha hi
    exact aIh (g i (by omega)) (g (i+1) (by omega)) (tD ha i) p1 (hy i _ p2)
   ·rw[c0]
    (sym=>(simp[Za,Zb,Zf,Zh,Zl,Zm,Z2,ZH,Ys,YA,Wz,W0,W9,VN,VQ,VS,VT,Um,Ux,Th,Ti,Tm,Tw,Tx,T0,T2,T3,T9,TA,h1];all_goals tactic=>exact rfl))
structure zY (n:Nat) (M K:Nat→XH):Prop where
 hat:∀ a,hat (M a) n=cI a
 set:∀ a b,(M a).set n (cI b)=M b
 head:∀ (a:Nat) (e:aL),e 0 = .fn (.yield 0) [] []→e 1 = .pt n 0→aW (n+1) [0,1] (some (.normal,e,M a))=some ([.fn (.yield 0) [] [],.pt n 0],K a)
def YdF (K K':Nat→XH) (v:Nat) (b:Bool):Prop:=∀ a:Nat,eG (runW aA) (runYW aA) (.fn (.yield 0) [] []) [I v] (K a)=some (.bool b,K' a)
theorem aKf {n:Nat} {K M K':Nat→XH} {a:Nat} (h1:hat (K a) n=cI a) (g':zY n M K') (ha:a<65536) (h0:a≠0) (hy:YdF K M (qZ a) true) :
 aW (n+1) [0,1] (execW aA 37 (n+1) none (match vJ with | .loop _ a=>a|c=>c) (aY [0,1] [.fn (.yield 0) [] [],.pt n 0]) (K a))=some ([.fn (.yield 0) [] [],.pt n 0],K' (a&&&(a-1))):=by
 have h2:=g'.hat a
 have h3:=g'.set a
 have h4:=hy a
 have t:=w87 ha h0
 have n0:((a:Int)=0)=False:=eq_false (by omega)
 have u1:IntKind.i64.wrap ((a:Int)-1)=((a-1:Nat):Int):=by
  rw[show (a:Int)-1=((a-1:Nat):Int) by omega];exact iF dK (by omega)
 have u2:=rO dK (a:=a) (b:=a-1) (by omega) (by omega)
 have u3:=iF aDZ (a:=a) (by omega)
 have hd:=g'.head (a&&&(a-1))
 unfold vJ
 dsimp only
 sym =>
  simp[Za,Zb,Zc,Zf,Zh,Zl,Zm,Zu,Z2,Z4,Z6,ZH,ZL,ZM,ZP,ZQ,ZU,ZV,ZY,Ya,Yl,Yn,Ys,YY,Xj,Xs,Wp,Wz,W0,W4,W6,W7,W9,WH,WK,WM,WR,WS,Vf,Vg,Vh,VN,VQ,VR,VS,VW,VX,VZ,Ua,Ud,Ue,Uj,Um,Un,Us,Uy,U1,U2,U3,U4,U5,U6,U7,UE,Th,Ti,Tm,Tn,Tp,Tw,Tx,Tz,T1,T2,T5,T9,TA,h1,h2,t,h4,n0,u1,u2,u3,h3]
  tactic=>exact hd _ rfl rfl
theorem aMA {n:Nat} {G:Nat→Nat→XH} {a:Nat} {X:XH} (ha:a<65536) (l0:(G 0 a).length=n+1) (g0:zY n (G 0) (G 0)) (gh:∀ i,i≤(el a).length→∀ a,hat (G i a) n=cI a) (hf:iH false (n+1) (.tup []) (G (el a).length 0)=(.tup [],X)) (hy:∀ i v,(el a)[i]?=some v→∃ M,YdF (G i) M v true∧zY n M (G (i+1))) :
 runW aA 37 [.fn (.yield 0) [] [],.pt n 0] (G 0 a)=some (.tup [],X):=by
 have h1:=gh (el a).length (by omega) 0
 have h1:hat (G (el a).length 0) n=some (.blk true (.cells true [.int .i64 0])):=h1
 have c0:=aDT ha
 rw[r37 (by simp)];unfold x37;dsimp only
 rw[l0]
 unfold vJ
 sym =>
  simp[Wj,Wo,VV,UC,UD,T1]
  tactic =>
   rw[aI (el a).length (fun _=>[.fn (.yield 0) [] [],.pt n 0]) (fun i=>G i (tE a i))]
   ·rw[c0]
    (sym=>(simp[Za,Zb,Zf,Zh,Zl,Zm,Z2,ZH,Ys,Wz,W0,W9,V5,V7,VC,VE,VG,VN,VQ,VS,Um,Ux,Th,Ti,Tm,Tw,Tx,T0,T2,T3,T7,T9,TA,h1,hf];all_goals tactic=>exact rfl))
   ·exact g0.head a _ rfl rfl
   ·intro i hi
    obtain⟨p1,p2⟩:=aHo ha hi
    obtain⟨M,m1,m2⟩:=hy i _ p2
    exact aKf (gh i (by omega) _) m2 (tD ha i) p1 m1
   ·rw[c0]
    (sym=>(simp[Za,Zb,Zf,Zh,Zl,Zm,Z2,ZH,Ys,Wz,W0,W9,VN,VQ,VS,VT,Um,Ux,Th,Ti,Tm,Tw,Tx,T0,T2,T3,T9,TA,h1];all_goals tactic=>exact rfl))
def cU (ks:List Nat):List Int:=ks.map fun k:Nat=>(k:Int)
theorem pY (a:Nat):(el a).length≤16:=by
 have:=List.length_filter_le (fun i=>a.testBit i) (List.range 16)
 simpa [el]using this
theorem jV {ks:List Nat} {i v:Nat} (h:ks[i]?=some v):(cU ks)[i]?=some (v:Int):=by
 unfold cU
 rw[List.getElem?_map,h];rfl
theorem bW (ks:List Nat):(cU ks).length=ks.length:=by simp[cU]
abbrev gCn (a:Nat):XH:=[some (.loop 36 0 [.pt 1 0] .ready),some (.blk true (.cells true [.nilsl])),cI a]
abbrev gCc (x:Int) (r:List Int) (a:Nat):XH:=[some (.loop 36 0 [.pt 1 0] .ready),some (.blk false (.cells true [.sl 3 0 1 (r.length+1)])),cI a,some (.blk true (.cells true (I x::r.map I)))]
abbrev gCm (x:Int) (r:List Int) (a:Nat):XH:=[some (.loop 36 0 [.pt 1 0] .ready),some (.blk false (.cells true [.sl 4 0 1 (r.length+1)])),cI a,none,some (.blk true (.cells true (I x::r.map I)))]
def gC:List Int→Nat→XH
 | []=>gCn
 | x::r=>gCc x r
theorem aKB:zY 2 gCn gCn:=by
 refine⟨fun _=>rfl,fun _ _=>rfl,?_⟩
 intro a e h0 h1
 (sym=>(simp[Xe,Xi,Xy,XJ,WA,WF,WH,WJ,WL,WM,WN,WO,WP,WV,WW,WY,Vb,Vc,Ve,VO,VP,VW,VX,VY,VZ,Ua,Ub,Uc,Uw,U1,U2,U3,U4,U5,T8,h0,h1];all_goals tactic=>exact rfl))
theorem aKD (x:Int) (r:List Int):zY 2 (gCc x r) (gCc x r):=by
 refine⟨fun _=>rfl,fun _ _=>rfl,?_⟩
 intro a e h0 h1
 (sym=>(simp[Xd,Xe,Xi,Xx,Xy,XJ,Wy,WA,WE,WF,WH,WI,WJ,WL,WN,WO,WP,WQ,WV,WW,WX,WY,Vb,Vc,Vd,Ve,VO,VP,VW,VX,VY,VZ,Ua,Ub,Uc,Uh,Uw,U2,U3,U4,U5,T8,h0,h1];all_goals tactic=>exact rfl))
theorem aKC (x:Int) (r:List Int):zY 2 (gCm x r) (gCc x r):=by
 refine⟨fun _=>rfl,fun _ _=>rfl,?_⟩
 intro a e h0 h1
 (sym=>(simp[Xd,Xe,Xi,Xx,Xy,XJ,Wy,WA,WE,WF,WH,WI,WJ,WL,WN,WO,WP,WQ,WV,WW,WX,WY,Vb,Vc,Vd,Ve,VO,VP,VW,VX,VY,VZ,Ua,Ub,Uc,Uh,Uw,U2,U3,U4,U5,T8,h0,h1];all_goals tactic=>exact rfl))
theorem yCn (v:Nat):YdF gCn (gCc (v:Int) []) v true:=by
 have y:runYW aA (.fn (.yield 0) [] []) [I (v:Nat)] [some (.loop 36 0 [.pt 1 0] .ready),some (.blk true (.cells true [.nilsl]))]=some (.bool true,[some (.loop 36 0 [.pt 1 0] .ready),some (.blk false (.cells true [.sl 2 0 1 1])),some (.blk true (.cells true [I (v:Nat)]))]):=by
  rw[gR (K:=36) (d:=x36) (site:=0) (vs:=[.pt 1 0]) rfl rfl (by rfl) rfl]
  (sym=>(simp[Za,Zb,Zc,Zd,Ze,Zf,Zg,Zh,Zj,Zl,Zm,Zo,Zu,Z0,ZH,ZL,ZM,ZT,YZ,Xd,Xe,Xj,Xn,Xt,Xx,Xy,XK,Wd,Wp,Wt,Wy,Wz,W0,W3,W4,W5,W6,W7,W9,WA,WE,WF,WH,WI,WJ,WL,WN,WO,WP,WQ,WV,WW,WX,WY,Vb,Vc,Vd,Ve,Vs,Vu,Vv,Vw,V8,VB,VN,VW,VX,VY,VZ,Ua,Ub,Uc,Ud,Ue,Uh,Uj,Ul,Us,Uw,Uz,U0,U2,U3,U4,U5,U6,U7,UE,UF,UG,UH,UP,UQ,UT,UU,UV,UW,Ta,Tb,Tc,Td,Th,Ti,Tm,Tn,Tp,Tq,Ts,Tt,Tv,T1,T5,T9,TT,Sl,Sm,Sn,Sp,Sz,S2,S3,S4,S8,SQ,SS,SV,SW,SX,SY];all_goals tactic=>exact rfl))
 intro a
 (sym=>(simp[YY,Xe,Xi,Xs,Xt,Xx,Xy,XJ,Wy,W3,W6,W9,WA,WB,WC,WE,WG,WH,WI,WJ,WK,WN,WR,WS,WT,WV,WW,WX,WY,Vc,Ve,Vf,Vg,Vh,Vi,VW,VX,VY,VZ,Ua,Ud,Ue,Uh,Uw,U2,U3,U4,U5,Sy,y];all_goals tactic=>exact rfl))
theorem yCc (v:Nat) (x:Int) (r:List Int) (hr:r.length≤20):YdF (gCc x r) (gCm x (r++[(v:Int)])) v true:=by
 have b1:((r.length+1+1)*8≤1099511627776)=True:=eq_true (by omega)
 have b2:(r.length+1+1≤1099511627776)=True:=eq_true (by omega)
 have y:runYW aA (.fn (.yield 0) [] []) [I (v:Nat)] [some (.loop 36 0 [.pt 1 0] .ready),some (.blk false (.cells true [.sl 2 0 1 (r.length+1)])),some (.blk true (.cells true (I x::r.map I)))]=some (.bool true,[some (.loop 36 0 [.pt 1 0] .ready),some (.blk false (.cells true [.sl 3 0 1 (r.length+1+1)])),none,some (.blk true (.cells true (I x::(r.map I++[I (v:Nat)]))))]):=by
  rw[gR (K:=36) (d:=x36) (site:=0) (vs:=[.pt 1 0]) rfl rfl (by rfl) rfl]
  (sym=>(simp[Za,Zb,Zc,Zd,Ze,Zf,Zg,Zh,Zj,Zl,Zm,Zo,Zu,Z0,ZH,ZL,ZM,ZT,YZ,Xd,Xe,Xj,Xn,Xt,Xx,Xy,XK,Wd,Wp,Wt,Wy,Wz,W0,W3,W4,W5,W6,W7,W9,WA,WE,WF,WH,WI,WJ,WL,WN,WO,WP,WQ,WU,WV,WW,WX,WY,WZ,Vb,Vc,Vd,Ve,Vs,Vu,Vv,Vw,V8,VB,VN,VW,VX,VY,VZ,Ua,Ub,Uc,Ud,Ue,Uf,Uh,Uj,Ul,Us,Uw,Uz,U0,U2,U3,U4,U5,U6,U7,UE,UF,UG,UH,UP,UQ,UT,UU,UV,UW,Ta,Tb,Tc,Te,Tf,Th,Ti,Tm,Tn,Tp,Tq,Tr,Ts,Tt,T1,T5,T9,TL,TT,Sl,Sm,Sn,Sp,Sz,S2,S3,S4,S8,SQ,SS,SV,SW,SX,SY,b1,b2];all_goals tactic=>exact rfl))
 intro a
 (sym=>(simp[YY,Xd,Xe,Xi,Xs,Xt,Xx,Xy,XJ,Wy,W3,W6,W9,WA,WB,WC,WE,WG,WH,WI,WJ,WK,WN,WR,WS,WT,WU,WV,WW,WX,WY,Vc,Vd,Ve,Vf,Vg,Vh,Vi,VW,VX,VY,VZ,Ua,Ud,Ue,Uh,Uw,U2,U3,U4,U5,TJ,TK,Sy,y];all_goals tactic=>exact rfl))
theorem aKH (os:List Int):iH false 3 (.tup []) (gC os 0)=(.tup [],gC os 0):=by
 cases os with
 | nil=>unfold gC; (sym=>(simp[Za,YA,Xb,Xe,Xv,Xy,XM,Wg,WA,WF,WH,WJ,WL,WM,WN,WO,WP,WV,WW,WY,Vb,Vc,Ve,Vs,V9,VA,VB,VW,VX,VZ,Ua,Ub,Uc,Uw,U1,U2,U3,U4,U5,U8,UC,S8];all_goals tactic=>exact rfl))
 | cons x r=>unfold gC; (sym=>(simp[Za,YA,Xb,Xd,Xe,Xv,Xx,Xy,XM,Wg,Wy,WA,WE,WF,WH,WI,WJ,WL,WN,WO,WP,WQ,WV,WW,WX,WY,Vb,Vc,Vd,Ve,Vs,V9,VA,VB,VW,VX,VY,VZ,Ua,Ub,Uc,Uh,Uw,U2,U3,U4,U5,U8,UC,S8];all_goals tactic=>exact rfl))
theorem w85 {a:Nat} (ha:a<65536):runW aA 36 [.nilsl,.fn (.func 37) [] [.pt 0 0]] [cI a]=some (nL (cU (el a)),[some (.blk true (.cells true [.int .i64 0]))]):=by
 have e:=aMA (n:=2) (G:=fun i=>gC (cU ((el a).take i))) (X:=gC (cU (el a)) 0) ha rfl aKB
  (by intro i _ c;cases cU ((el a).take i)<;>rfl)
  (by
   show iH false 3 (.tup []) (gC (cU ((el a).take (el a).length)) 0)=_
   rw[List.take_length]
   exact aKH _)
  (by
   intro i v hv
   have e1:cU ((el a).take (i+1))=cU ((el a).take i)++[(v:Int)]:=by
    rw[List.take_add_one,hv]
    simp[cU]
   have hl:=bW ((el a).take i)
   have hl2:=pY a
   rw[List.length_take]at hl
   rw[e1]
   generalize cU ((el a).take i)=os at *
   rcases os with _|⟨x,r⟩
   ·exact⟨_,yCn v,aKD _ _⟩
   ·exact⟨_,yCc v x r (by simp at hl;omega),aKC _ _⟩)
 have e:runW aA 37 [.fn (.yield 0) [] [],.pt 2 0] [some (.loop 36 0 [.pt 1 0] .ready),some (.blk true (.cells true [.nilsl])),cI a]=some (.tup [],gC (cU (el a)) 0):=e
 generalize cU (el a)=os at *
 rw[r36 (by simp)];unfold x36;dsimp only
 rcases os with _|⟨x,r⟩
 ·have e:runW aA 37 [.fn (.yield 0) [] [],.pt 2 0] [some (.loop 36 0 [.pt 1 0] .ready),some (.blk true (.cells true [.nilsl])),cI a]=some (.tup [],[some (.loop 36 0 [.pt 1 0] .ready),some (.blk true (.cells true [.nilsl])),some (.blk true (.cells true [.int .i64 0]))]):=e
  (sym=>(simp[Za,Zb,Zf,Zh,Zl,Zm,Zo,Zu,Zy,ZH,ZU,ZV,Xc,Xe,Xi,Xp,Xv,Xw,Xy,XJ,XQ,Wl,Wv,Wy,Wz,W0,W3,W6,W7,W8,W9,WA,WB,WC,WE,WG,WH,WI,WJ,WK,WL,WM,WN,WO,WP,WR,WS,WT,WV,WW,WY,Vb,Vc,Ve,Vf,Vg,Vh,Vi,Vs,V6,V7,V9,VA,VB,VC,VD,VG,VH,VI,VJ,VL,VW,VX,VY,VZ,Ua,Ub,Uc,Ud,Ue,Uh,Uj,Uw,U1,U2,U3,U4,U5,UR,US,Th,Ti,Tm,Tq,Tx,Ty,T1,T2,T5,T9,TA,Sl,Sm,Sq,Sr,Ss,Su,Sv,Sw,S8,e];all_goals tactic=>exact rfl))
 ·have e:runW aA 37 [.fn (.yield 0) [] [],.pt 2 0] [some (.loop 36 0 [.pt 1 0] .ready),some (.blk true (.cells true [.nilsl])),cI a]=some (.tup [],[some (.loop 36 0 [.pt 1 0] .ready),some (.blk false (.cells true [.sl 3 0 1 (r.length+1)])),some (.blk true (.cells true [.int .i64 0])),some (.blk true (.cells true (I x::r.map I)))]):=e
  (sym=>(simp[Za,Zb,Zf,Zh,Zl,Zm,Zo,Zu,Zy,ZH,ZU,ZV,Xc,Xe,Xi,Xm,Xp,Xv,Xw,Xx,Xy,XJ,XO,Wa,Wh,Wv,Wy,Wz,W0,W3,W6,W8,W9,WA,WB,WC,WE,WG,WH,WI,WJ,WK,WL,WN,WO,WP,WR,WS,WT,WV,WW,WX,WY,Vb,Vc,Ve,Vf,Vg,Vh,Vi,Vp,Vq,Vr,Vs,Vt,V1,V2,V3,V4,V6,V7,V9,VA,VB,VC,VD,VG,VH,VI,VJ,VL,VW,VX,VY,VZ,Ua,Ub,Uc,Ud,Ue,Uf,Uh,Uj,Us,Uw,U2,U3,U4,U5,U6,U7,UA,UB,UR,US,Th,Ti,Tm,Tq,Tx,Ty,T1,T2,T5,T9,TA,TL,TM,TO,Sj,Sl,Sm,Sq,Sr,Ss,Su,Sv,Sw,S8,SA,SC,e];all_goals tactic=>exact rfl))
theorem w79 {a:Nat} (ha:a<65536):runW aA 26 [.fn (.func 37) [] [.pt 0 0]] [cI a]=some (nL (cU (el a)),[some (.blk true (.cells true [.int .i64 0]))]):=by
 have e:=w85 ha
 generalize cU (el a)=os at *
 rw[r26 (by simp)];unfold x26;dsimp only
 (sym=>(simp[Za,Zb,Zf,Zh,Zl,Zu,ZP,ZQ,ZU,ZV,Xc,Xe,Xf,Xh,Xw,Xy,Xz,XI,XN,Wh,Wn,Wy,W3,W6,W7,W8,WA,WC,WE,WH,WI,WJ,WK,WL,WM,WN,WO,WP,WR,WS,WT,WV,WW,Vb,Vc,Vf,Vg,Vh,Vi,Vs,V6,V7,V9,VA,VB,VC,VD,VG,VH,VI,VJ,VL,VV,VW,VX,VZ,Ua,Ub,Uc,Ud,Ue,Uw,U1,U2,U3,U4,U5,UC,UD,Tx,Ty,T2,T9,TA,S8,e];all_goals tactic=>exact rfl))
theorem w80 {a:Nat}:runW aA 27 [I a] []=some (.fn (.func 37) [] [.pt 0 0],[cI a]):=by
 rw[r27 (by simp)];unfold x27;dsimp only
 (sym=>(simp[Za,Zb,Zf,Zh,Zl,Zo,Zu,Zw,Zy,Xe,Xh,Xj,Xy,XI,XV,Wd,Wn,Wp,Wy,W8,WA,WE,WF,WH,WI,WJ,WL,WN,WO,WP,WQ,WV,WW,Vc,Vs,V6,V7,V9,VA,VB,VC,VD,VG,VH,VI,VJ,VL,VV,VW,VX,VZ,Ua,Uc,Ue,Uh,Uw,U2,U3,U4,U5,UC,UD,UR,US,Tq,Tx,Ty,T2,T9,TA,TN,S8];all_goals tactic=>exact rfl))
theorem w63 {a:Nat} (ha:a<65536):runW aA 14 [I a] []=some (nL (cU (el a)),[]):=by
 have e:=w79 ha
 have e2:=w80 (a:=a)
 generalize cU (el a)=os at *
 rw[r14 (by simp)];unfold x14;dsimp only
 (sym=>(simp[Za,Zb,Zf,Zg,Zh,Zj,Zl,Zu,ZP,ZQ,ZU,ZV,YY,Xc,Xe,Xh,Xs,Xw,Xy,XI,XK,XN,Wd,Wh,Wy,W3,W6,W7,W8,WA,WC,WE,WG,WH,WI,WJ,WK,WL,WM,WN,WO,WP,WR,WS,WT,WV,WW,Vc,Vf,Vg,Vh,Vi,Vs,Vu,Vv,Vw,V6,V7,V9,VA,VB,VC,VD,VG,VH,VI,VJ,VL,VV,VW,VX,VZ,Ua,Uc,Ud,Ue,Uw,U1,U2,U3,U4,U5,UC,UD,Tx,Ty,T2,T9,TA,S8,SQ,SS,SV,SW,SX,SY,e,e2];all_goals tactic=>exact rfl))
structure Va where
 F:Int
 bs:List (Int×Int)
 ps:List (Int×Int×Int)
 sick:Int
 nur:Int
 fix:Int
abbrev rB (l:List (Int×Int)):AV:=.fs (l.map fun b=>[I b.1,I b.2])
abbrev rP (l:List (Int×Int×Int)):AV:=.fs (l.map fun p=>[I p.1,I p.2.1,I p.2.2])
abbrev Va.c (v:Va):List AV:=[I v.F,rB v.bs,rP v.ps,I v.sick,I v.nur,I v.fix]
def gZ (F a b:Int):Int:=if btw 0 a (F-1)&&btw 0 b (F-1) then (if a=b then 22 else 0) else 5
theorem tU (F a b:Int):(btw 0 a (F-1)=false∧gZ F a b=5)∨(btw 0 a (F-1)=true∧btw 0 b (F-1)=false∧gZ F a b=5) ∨
 (btw 0 a (F-1)=true∧btw 0 b (F-1)=true∧(a=b)=True∧gZ F a b=22)∨(btw 0 a (F-1)=true∧btw 0 b (F-1)=true∧(a=b)=False∧gZ F a b=0):=by
 unfold gZ
 cases btw 0 a (F-1)
 ·simp
 cases btw 0 b (F-1)
 ·simp
 by_cases h:a=b
 ·simp[h]
 ·simp[h]
theorem w53 (v:Va) (hF:1≤v.F∧v.F≤16) (a b:Int):runW aA 41 [.agg v.c,I a,I b] []=some (I (gZ v.F a b),[]):=by
 have u:IntKind.i64.wrap (v.F-1)=v.F-1:=aD (by omega) (by omega)
 have e1:=w45 0 a (v.F-1)
 have e2:=w45 0 b (v.F-1)
 rw[r41 (by simp)];unfold x41;dsimp only
 rcases tU v.F a b with ⟨h1,h⟩|⟨h1,h2,h⟩|⟨h1,h2,h3,h⟩|⟨h1,h2,h3,h⟩
 ·rw[h];rw[h1]at e1; (sym=>(simp[Za,Zb,Zf,Zh,Zl,Zm,Zo,Zp,Zt,Zu,Zx,Zy,Z2,Z4,Z7,ZH,ZP,ZQ,ZU,ZV,ZW,ZY,Yb,Yl,YY,Xj,Xl,Xm,Xs,Xt,XK,Wd,Wf,Wh,Wr,Wy,Wz,W0,W7,W8,W9,WH,WK,WL,WM,WN,WO,WP,WR,WS,Vf,Vg,Vh,Vs,V6,V7,V9,VA,VB,VC,VD,VG,VH,VI,VJ,VL,VQ,VR,VV,VW,VX,VZ,Ua,Uc,Ud,Ue,Uj,Un,U1,U2,U3,U4,U5,U6,U7,UC,UD,UR,US,Th,Ti,Tm,Tq,Tw,Tx,Ty,T1,T2,T4,T6,T9,TA,S8,u,e1];all_goals tactic=>exact rfl))
 ·rw[h];rw[h1]at e1;rw[h2]at e2; (sym=>(simp[Za,Zb,Zf,Zh,Zl,Zm,Zo,Zp,Zr,Zu,Zx,Zy,Z2,Z4,Z7,ZH,ZP,ZQ,ZU,ZV,ZX,ZY,Yb,Yl,YY,Xj,Xl,Xm,Xs,Xt,XK,Wd,Wf,Wh,Wr,Wy,Wz,W0,W7,W8,W9,WH,WK,WL,WM,WN,WO,WP,WR,WS,Vf,Vg,Vh,Vs,V6,V7,V9,VA,VB,VC,VD,VG,VH,VI,VJ,VL,VQ,VR,VV,VW,VX,VZ,Ua,Uc,Ud,Ue,Uj,Um,Un,U1,U2,U3,U4,U5,U6,U7,UC,UD,UR,US,Th,Ti,Tm,Tq,Tw,Tx,Ty,T1,T2,T4,T6,T9,TA,S8,u,e1,e2];all_goals tactic=>exact rfl))
 ·rw[h];rw[h1]at e1;rw[h2]at e2; (sym=>(simp[Za,Zb,Zf,Zh,Zl,Zm,Zo,Zp,Zr,Zu,Zx,Zy,Z2,Z4,Z7,ZH,ZP,ZQ,ZU,ZV,ZX,ZY,Yb,Yl,Yr,YY,Xj,Xl,Xm,Xs,Xt,XK,Wd,Wf,Wh,Wr,Wy,Wz,W0,W7,W8,W9,WH,WK,WL,WM,WN,WO,WP,WR,WS,Vf,Vg,Vh,Vs,V6,V7,V9,VA,VB,VC,VD,VG,VH,VI,VJ,VL,VQ,VR,VS,VV,VW,VX,VZ,Ua,Uc,Ud,Ue,Uj,Um,Ux,U1,U2,U3,U4,U5,U6,U7,UC,UD,UR,US,Th,Ti,Tm,Tq,Tw,Tx,Ty,T1,T2,T4,T6,T9,TA,S8,u,e1,e2,h3];all_goals tactic=>exact rfl))
 ·rw[h];rw[h1]at e1;rw[h2]at e2; (sym=>(simp[Za,Zb,Zf,Zh,Zl,Zm,Zo,Zp,Zr,Zu,Zx,Zy,Z2,Z4,Z7,ZH,ZP,ZQ,ZU,ZV,ZX,ZY,Yb,Yl,Yr,YY,Xj,Xl,Xm,Xs,Xt,XK,Wd,Wf,Wh,Wr,Wy,Wz,W0,W7,W8,W9,WH,WK,WL,WM,WN,WO,WP,WR,WS,Vf,Vg,Vh,Vs,V6,V7,V9,VA,VB,VC,VD,VG,VH,VI,VJ,VL,VQ,VS,VV,VW,VX,VZ,Ua,Uc,Ud,Ue,Uj,Um,Uy,U1,U2,U3,U4,U5,U6,U7,UC,UD,UR,US,Th,Ti,Tm,Tq,Tw,Tx,Ty,Tz,T1,T2,T5,T9,TA,S8,u,e1,e2,h3];all_goals tactic=>exact rfl))
def bE (v:Va) (i:Nat):Int:=gZ v.F (v.bs.getD i (0,0)).1 (v.bs.getD i (0,0)).2
def pE (v:Va) (i:Nat):Int:=if gZ v.F (v.ps.getD i (0,0,0)).2.1 (v.ps.getD i (0,0,0)).2.2=0 then (if btw 0 (v.ps.getD i (0,0,0)).1 100 then 0 else 2) else gZ v.F (v.ps.getD i (0,0,0)).2.1 (v.ps.getD i (0,0,0)).2.2
def Va.A (v:Va):Int:=2^v.F.toNat-1
def sE (v:Va):Int:=if btw 0 v.sick v.A&&(btw 0 v.nur v.A&&btw 0 v.fix v.A) then 0 else 2
def bsE (v:Va):Int:=if 60<v.bs.length then 1 else dF (bE v) v.bs.length
def psE (v:Va):Int:=if 20<v.ps.length then 1 else dF (pE v) v.ps.length
def vE (v:Va):Int:=if btw 1 v.F 16 then (if bsE v=0 then (if psE v=0 then sE v else psE v) else bsE v) else 2
theorem aMe {n:Int} (h:n≠0):(n=0)=False:=eq_false h
theorem bY {α:Type} {l:List α} {i:Nat} {x d:α} (h:l[i]?=some x):l.getD i d=x:=by rw[List.getD_eq_getElem?_getD,h];rfl
abbrev bx (v:Va):XH:=[some (.blk true (.cells true v.c))]
theorem vW (v:Va) (hF:1≤v.F∧v.F≤16) (hb:v.bs.length<1000000000) {i:Nat} (hi:i<v.bs.length) (h0:bE v i=0) :
 aW 0 [1,22,23,24] (execW aA 29 0 none (match qI with | .loop _ a=>a|c=>c) (aY [1,22,23,24] [.pt 0 0,rB v.bs,I v.bs.length,I (i:Nat)]) (bx v))=some ([.pt 0 0,rB v.bs,I v.bs.length,I (i+1:Nat)],bx v):=by
 obtain⟨x,hx⟩:=bU hi
 have a1:=eJ hi
 have a2:=eP hi (by omega)
 have e:=w53 v hF x.1 x.2
 have e0:gZ v.F x.1 x.2=0:=by unfold bE at h0;rw[bY hx]at h0;exact h0
 rw[e0]at e
 unfold qI
 dsimp only
 (sym=>(simp[Za,Zb,Zc,Zf,Zg,Zh,Zj,Zl,Zm,Zu,Zv,Z2,Z8,Z9,ZH,ZL,ZM,ZP,ZQ,ZU,ZV,Yh,Yi,Yk,Ys,Yt,Yx,Yy,Y9,YB,YE,YP,YY,Xa,Xc,Xe,Xj,Xs,Xu,Xw,Xy,Wr,Wy,Wz,W0,W3,W4,W5,W6,W7,W9,WA,WE,WF,WH,WI,WJ,WK,WL,WM,WN,WO,WP,WQ,WR,WS,WV,WW,Vc,Vf,Vg,Vh,Vs,Vu,Vv,Vx,Vy,V0,VN,VO,VP,VQ,VR,VS,VW,VX,VY,VZ,Ua,Uc,Ud,Ue,Uf,Ug,Uh,Uj,Um,Us,Uw,Ux,U1,U2,U3,U4,U5,U6,U7,UE,Th,Ti,Tj,Tk,Tl,Tm,Tn,Tp,Tw,Tx,Tz,T1,T2,T5,T8,T9,TA,TN,SQ,SS,SU,SW,SX,SY,a1,a2,hx,e];all_goals tactic=>exact rfl))
theorem aIR (v:Va) (hF:1≤v.F∧v.F≤16) {i:Nat} (hi:i<v.bs.length) (h0:bE v i≠0):∃ e h,
 execW aA 29 0 none (match qI with | .loop _ a=>a|c=>c) (aY [1,22,23,24] [.pt 0 0,rB v.bs,I v.bs.length,I (i:Nat)]) (bx v)=some (.ret,e,h)∧bL none x29.res x29.ownR 0 (some (.ret,e,h))=some (I (bE v i),[]):=by
 obtain⟨x,hx⟩:=bU hi
 have a1:=eJ hi
 have e:=w53 v hF x.1 x.2
 have e0:gZ v.F x.1 x.2=bE v i:=by unfold bE;rw[bY hx]
 have n0:=aMe h0
 rw[e0]at e
 refine jS ?_ ?_
 ·unfold qI
  dsimp only
  (sym=>(simp[Za,Zb,Zc,Zf,Zg,Zh,Zj,Zl,Zm,Zu,Zv,Z2,Z8,Z9,ZH,ZL,ZM,ZP,ZQ,ZU,ZV,Yh,Yi,Ys,Yt,Yx,Yy,Y9,YB,YE,YP,YY,Xa,Xc,Xj,Xs,Xu,Xw,Wr,Wy,Wz,W0,W3,W4,W5,W6,W7,W9,WH,WK,WM,WR,WS,Vf,Vg,Vh,Vs,Vu,Vv,Vx,Vy,V0,VN,VQ,VR,VU,VW,VX,VY,VZ,Ua,Ud,Ue,Uf,Ug,Uh,Uj,Un,Us,Ux,Uy,U1,U2,U3,U4,U5,U6,U7,UE,Th,Ti,Tj,Tk,Tl,Tm,Tn,Tp,Tw,Tx,Ty,Tz,T1,T2,T4,T6,T9,TA,SQ,SS,SU,SW,SX,SY,a1,hx,e,n0];all_goals tactic=>exact rfl))
 ·unfold qI
  dsimp only
  (sym=>(simp[Za,Zb,Zc,Zf,Zg,Zh,Zj,Zl,Zm,Zu,Zv,Z2,Z8,Z9,ZH,ZL,ZM,ZP,ZQ,ZU,ZV,Yh,Yi,Ys,Yt,Yx,Yy,Y9,YB,YE,YP,YY,Xa,Xc,Xj,Xs,Xu,Xw,Wr,Wy,Wz,W0,W3,W4,W5,W6,W7,W9,WH,WK,WM,WR,WS,Vf,Vg,Vh,Vs,Vu,Vv,Vx,Vy,V0,V6,VC,VN,VQ,VR,VW,VX,VY,VZ,Ua,Ud,Ue,Uf,Ug,Uh,Uj,Un,Us,Ux,Uy,U1,U2,U3,U4,U5,U6,U7,UE,Th,Ti,Tj,Tk,Tl,Tm,Tn,Tp,Tw,Tx,Ty,Tz,T1,T2,T4,T6,T9,TA,SQ,SS,SU,SW,SX,SY,a1,hx,e,n0];all_goals tactic=>exact rfl))
theorem wH (v:Va) {i:Nat} {p:Int×Int×Int} (hp:v.ps[i]?=some p):(gZ v.F p.2.1 p.2.2≠0∧pE v i=gZ v.F p.2.1 p.2.2)∨(gZ v.F p.2.1 p.2.2=0∧btw 0 p.1 100=true∧pE v i=0)∨(gZ v.F p.2.1 p.2.2=0∧btw 0 p.1 100=false∧pE v i=2):=by
 unfold pE
 rw[bY hp]
 by_cases h:gZ v.F p.2.1 p.2.2=0
 ·cases h2:btw 0 p.1 100<;>simp[h]
 ·simp[h]
theorem aBd (v:Va) (hF:1≤v.F∧v.F≤16) (hb:v.ps.length<1000000000) {i:Nat} (hi:i<v.ps.length) (h0:pE v i=0) :
 aW 0 [1,43,44,45] (execW aA 29 0 none (match oY with | .loop _ a=>a|c=>c) (aY [1,43,44,45] [.pt 0 0,rP v.ps,I v.ps.length,I (i:Nat)]) (bx v))=some ([.pt 0 0,rP v.ps,I v.ps.length,I (i+1:Nat)],bx v):=by
 obtain⟨x,hx⟩:=bU hi
 have a1:=eJ hi
 have a2:=eP hi (by omega)
 have e:=w53 v hF x.2.1 x.2.2
 have e2:=w45 0 x.1 100
 rcases wH v hx with ⟨h1,h2⟩|⟨h1,h2,_⟩|⟨h1,h2,h3⟩
 ·exact absurd (h2.symm.trans h0) h1
 ·rw[h1]at e
  rw[h2]at e2
  unfold oY
  dsimp only
  (sym=>(simp[Za,Zb,Zc,Zf,Zg,Zh,Zj,Zl,Zm,Zu,Zv,Z2,Z4,Z7,Z9,ZH,ZL,ZM,ZP,ZQ,ZU,ZV,ZY,Yb,Yh,Yi,Yk,Ys,Yt,Yx,Yy,YY,Xa,Xc,Xe,Xj,Xs,Xt,Xu,Xw,Xy,Wr,Wy,Wz,W0,W3,W4,W5,W6,W7,W9,WA,WE,WF,WH,WI,WJ,WK,WL,WM,WN,WO,WP,WQ,WR,WS,WV,WW,Vc,Vf,Vg,Vh,Vs,Vu,Vv,Vx,Vy,V0,VN,VO,VP,VQ,VR,VS,VW,VX,VY,VZ,Ua,Uc,Ud,Ue,Uf,Ug,Uh,Uj,Um,Us,Uw,Ux,U1,U2,U3,U4,U5,U6,U7,UE,Th,Ti,Tj,Tk,Tl,Tm,Tn,Tp,Tw,Tx,Tz,T1,T2,T5,T8,T9,TA,TN,SQ,SS,SU,SW,SX,SY,a1,a2,hx,e,e2];all_goals tactic=>exact rfl))
 ·rw[h0]at h3;simp at h3
theorem aIQ (v:Va) (hF:1≤v.F∧v.F≤16) {i:Nat} (hi:i<v.ps.length) (h0:pE v i≠0):∃ e h,
 execW aA 29 0 none (match oY with | .loop _ a=>a|c=>c) (aY [1,43,44,45] [.pt 0 0,rP v.ps,I v.ps.length,I (i:Nat)]) (bx v)=some (.ret,e,h)∧bL none x29.res x29.ownR 0 (some (.ret,e,h))=some (I (pE v i),[]):=by
 obtain⟨x,hx⟩:=bU hi
 have a1:=eJ hi
 have e:=w53 v hF x.2.1 x.2.2
 have e2:=w45 0 x.1 100
 rcases wH v hx with ⟨h1,h2⟩|⟨h1,h2,h3⟩|⟨h1,h2,h3⟩
 ·have n0:=aMe h1
  rw[h2]
  generalize gZ v.F x.2.1 x.2.2=er at *
  refine jS ?_ ?_
  ·unfold oY
   dsimp only
   (sym=>(simp[Za,Zb,Zc,Zf,Zg,Zh,Zj,Zl,Zm,Zu,Zv,Z2,Z7,Z9,ZH,ZL,ZM,ZP,ZQ,ZU,ZV,Yb,Yh,Yi,Ys,Yt,Yx,Yy,YY,Xa,Xc,Xj,Xs,Xu,Xw,Wr,Wy,Wz,W0,W3,W4,W5,W6,W7,W9,WH,WK,WM,WR,WS,Vf,Vg,Vh,Vs,Vu,Vv,Vx,Vy,V0,VN,VQ,VR,VU,VW,VX,VY,VZ,Ua,Ud,Ue,Uf,Ug,Uh,Uj,Un,Us,Ux,Uy,U1,U2,U3,U4,U5,U6,U7,UE,Th,Ti,Tj,Tk,Tl,Tm,Tn,Tp,Tw,Tx,Ty,Tz,T1,T2,T4,T6,T9,TA,SQ,SS,SU,SW,SX,SY,a1,hx,e,n0];all_goals tactic=>exact rfl))
  ·unfold oY
   dsimp only
   (sym=>(simp[Za,Zb,Zc,Zf,Zg,Zh,Zj,Zl,Zm,Zu,Zv,Z2,Z7,Z9,ZH,ZL,ZM,ZP,ZQ,ZU,ZV,Yb,Yh,Yi,Ys,Yt,Yx,Yy,YY,Xa,Xc,Xj,Xs,Xu,Xw,Wr,Wy,Wz,W0,W3,W4,W5,W6,W7,W9,WH,WK,WM,WR,WS,Vf,Vg,Vh,Vs,Vu,Vv,Vx,Vy,V0,V6,VC,VN,VQ,VR,VW,VX,VY,VZ,Ua,Ud,Ue,Uf,Ug,Uh,Uj,Un,Us,Ux,Uy,U1,U2,U3,U4,U5,U6,U7,UE,Th,Ti,Tj,Tk,Tl,Tm,Tn,Tp,Tw,Tx,Ty,Tz,T1,T2,T4,T6,T9,TA,SQ,SS,SU,SW,SX,SY,a1,hx,e,n0];all_goals tactic=>exact rfl))
 ·exact absurd h3 h0
 ·rw[h1]at e
  rw[h2]at e2
  rw[h3]
  refine jS ?_ ?_
  ·unfold oY
   dsimp only
   (sym=>(simp[Za,Zb,Zc,Zf,Zg,Zh,Zj,Zl,Zm,Zu,Zv,Z2,Z4,Z7,Z9,ZH,ZL,ZM,ZP,ZQ,ZU,ZV,ZY,Yb,Yh,Yi,Ys,Yt,Yx,Yy,YY,Xa,Xc,Xj,Xs,Xt,Xu,Xw,Wr,Wy,Wz,W0,W3,W4,W5,W6,W7,W9,WH,WK,WM,WR,WS,Vf,Vg,Vh,Vs,Vu,Vv,Vx,Vy,V0,VN,VQ,VR,VS,VU,VW,VX,VY,VZ,Ua,Ud,Ue,Uf,Ug,Uh,Uj,Um,Un,Us,Ux,U1,U2,U3,U4,U5,U6,U7,UE,Th,Ti,Tj,Tk,Tl,Tm,Tn,Tp,Tw,Tx,Ty,Tz,T1,T2,T4,T6,T9,TA,SQ,SS,SU,SW,SX,SY,a1,hx,e,e2];all_goals tactic=>exact rfl))
  ·unfold oY
   dsimp only
   (sym=>(simp[Za,Zb,Zc,Zf,Zg,Zh,Zj,Zl,Zm,Zu,Zv,Z2,Z4,Z7,Z9,ZH,ZL,ZM,ZP,ZQ,ZU,ZV,ZY,Yb,Yh,Yi,Ys,Yt,Yx,Yy,YY,Xa,Xc,Xj,Xs,Xt,Xu,Xw,Wr,Wy,Wz,W0,W3,W4,W5,W6,W7,W9,WH,WK,WM,WR,WS,Vf,Vg,Vh,Vs,Vu,Vv,Vx,Vy,V0,V6,VC,VN,VQ,VR,VS,VW,VX,VY,VZ,Ua,Ud,Ue,Uf,Ug,Uh,Uj,Um,Un,Us,Ux,U1,U2,U3,U4,U5,U6,U7,UE,Th,Ti,Tj,Tk,Tl,Tm,Tn,Tp,Tw,Tx,Ty,Tz,T1,T2,T4,T6,T9,TA,SQ,SS,SU,SW,SX,SY,a1,hx,e,e2];all_goals tactic=>exact rfl))
theorem aMH (v:Va) (hF:1≤v.F∧v.F≤16):IntKind.i64.wrap (1*2^min v.F.toNat IntKind.i64.bits)=2^v.F.toNat∧IntKind.i64.wrap (2^v.F.toNat-1)=v.A∧0<v.A∧v.A<65536:=by
 obtain⟨f,hf⟩:∃ f:Nat,v.F=f:=⟨v.F.toNat,by omega⟩
 unfold Va.A
 rw[hf]at hF ⊢
 simp only[Int.toNat_natCast]
 have h1:=aAj dK (i:=f) (by omega)
 have h2:(2:Nat)^f≤2^16:=Nat.pow_le_pow_right (by omega) (by omega)
 have h3:(2:Nat)^1≤2^f:=Nat.pow_le_pow_right (by omega) (by omega)
 have e:(2:Int)^f=((2^f:Nat):Int):=by norm_cast
 rw[h1,e]
 exact⟨rfl,aD (by omega) (by omega),by omega,by omega⟩
theorem aFM (v:Va):(btw 0 v.sick v.A=false∧sE v=2)∨(btw 0 v.sick v.A=true∧btw 0 v.nur v.A=false∧sE v=2)∨(btw 0 v.sick v.A=true∧btw 0 v.nur v.A=true∧btw 0 v.fix v.A=false∧sE v=2) ∨
 (btw 0 v.sick v.A=true∧btw 0 v.nur v.A=true∧btw 0 v.fix v.A=true∧sE v=0):=by
 unfold sE
 cases btw 0 v.sick v.A<;>cases btw 0 v.nur v.A<;>cases btw 0 v.fix v.A<;>simp
abbrev bx3 (v:Va):XH:=[some (.blk true (.cells true v.c)),some (.blk true (.cells true [I v.sick,I v.nur,I v.fix]))]
theorem aGa (v:Va) (hF:1≤v.F∧v.F≤16) {i:Nat} {s:Int} (hs:(i=0∧s=v.sick)∨(i=1∧s=v.nur)∨(i=2∧s=v.fix)) (h0:btw 0 s v.A=true) :
 aW 0 [1,69,70,71] (execW aA 29 0 none (match vK with | .loop _ a=>a|c=>c) (aY [1,69,70,71] [.pt 0 0,.sl 1 0 1 3,I 3,I (i:Nat)]) (bx3 v))=some ([.pt 0 0,.sl 1 0 1 3,I 3,I (i+1:Nat)],bx3 v):=by
 obtain⟨u1,u2,_,_⟩:=aMH v hF
 have e:=w45 0 s v.A
 have n0:(v.F<0)=False:=eq_false (by omega)
 rw[h0]at e
 rcases hs with ⟨rfl,rfl⟩|⟨rfl,rfl⟩|⟨rfl,rfl⟩
 all_goals
  unfold vK
  dsimp only
  (sym=>(simp[Za,Zb,Zf,Zg,Zh,Zj,Zl,Zm,Zu,Z2,Z4,Z7,Z9,ZH,ZP,ZQ,ZU,ZV,ZY,Yb,Yg,Yk,Yl,Yp,Yt,Y0,Y1,Y2,Y9,YA,YB,YC,YD,YE,YG,YY,Xd,Xe,Xs,Xt,Xx,Xy,XK,Wd,Wy,Wz,W0,W7,W9,WA,WB,WE,WF,WH,WI,WJ,WK,WL,WM,WN,WO,WP,WQ,WR,WS,WV,WW,Vc,Vf,Vg,Vh,Vs,Vu,Vv,Vw,VN,VO,VP,VQ,VR,VS,VW,VX,VY,VZ,Ua,Uc,Ud,Ue,Uh,Um,Us,Uw,Ux,U1,U2,U3,U4,U5,Th,Ti,Tm,Tw,Tx,Tz,T1,T2,T5,T8,T9,TA,TN,S8,SQ,SS,SV,SW,SX,SY,u1,u2,e,n0];all_goals tactic=>exact rfl))
theorem aIP (v:Va) (hF:1≤v.F∧v.F≤16) {i:Nat} {s:Int} (hs:(i=0∧s=v.sick)∨(i=1∧s=v.nur)∨(i=2∧s=v.fix)) (h0:btw 0 s v.A=false):∃ e h,
 execW aA 29 0 none (match vK with | .loop _ a=>a|c=>c) (aY [1,69,70,71] [.pt 0 0,.sl 1 0 1 3,I 3,I (i:Nat)]) (bx3 v)=some (.ret,e,h)∧bL none x29.res x29.ownR 0 (some (.ret,e,h))=some (I 2,[]):=by
 obtain⟨u1,u2,_,_⟩:=aMH v hF
 have e:=w45 0 s v.A
 have n0:(v.F<0)=False:=eq_false (by omega)
 rw[h0]at e
 rcases hs with ⟨rfl,rfl⟩|⟨rfl,rfl⟩|⟨rfl,rfl⟩
 all_goals
  refine jS ?_ ?_
  ·unfold vK
   dsimp only
   (sym=>(simp[Za,Zb,Zf,Zg,Zh,Zj,Zl,Zm,Zu,Z2,Z4,Z7,Z9,ZH,ZP,ZQ,ZU,ZV,ZY,Yb,Yg,Yl,Yp,Yt,Y9,YA,YB,YC,YD,YE,YG,YY,Xs,Xt,XK,Wd,Wy,Wz,W0,W7,W9,WH,WK,WM,WR,WS,Vf,Vg,Vh,Vs,Vu,Vv,Vw,VN,VQ,VR,VU,VW,VX,VZ,Ua,Ud,Ue,Un,Us,Ux,U1,U2,U3,U4,U5,Th,Ti,Tm,Tw,Tx,Ty,Tz,T1,T2,T4,T6,T9,TA,S8,SQ,SS,SV,SW,SX,SY,u1,u2,e,n0];all_goals tactic=>exact rfl))
  ·unfold vK
   dsimp only
   (sym=>(simp[Za,Zb,Zf,Zg,Zh,Zj,Zl,Zm,Zu,Z2,Z4,Z7,Z9,ZH,ZP,ZQ,ZU,ZV,ZY,Yb,Yg,Yl,Yp,Yt,Y9,YA,YB,YC,YD,YE,YG,YY,Xs,Xt,XK,Wd,Wy,Wz,W0,W7,W9,WH,WK,WM,WR,WS,Vf,Vg,Vh,Vs,Vu,Vv,Vw,V6,VC,VN,VQ,VR,VW,VX,VZ,Ua,Ud,Ue,Un,Us,Ux,U1,U2,U3,U4,U5,Th,Ti,Tm,Tw,Tx,Ty,Tz,T1,T2,T4,T6,T9,TA,S8,SQ,SS,SV,SW,SX,SY,u1,u2,e,n0];all_goals tactic=>exact rfl))
theorem w23 (v:Va) (hb:v.bs.length<1000000000) (hp:v.ps.length<1000000000):runW aA 29 [.agg v.c] []=some (I (vE v),[]):=by
 have e0:=w45 1 v.F 16
 rw[r29 (by simp)];unfold x29;dsimp only
 unfold vE
 cases hF:btw 1 v.F 16
 ·rw[hF]at e0
  rw[if_neg (by simp)]
  (sym=>(simp[Za,Zb,Zf,Zg,Zh,Zj,Zl,Zm,Zo,Zu,Zy,Z4,Z7,ZH,ZP,ZQ,ZU,ZV,ZY,Yb,YY,Xj,Xl,Xm,Xs,Xt,XK,Wd,Wf,Wh,Wr,Wy,Wz,W0,W7,W8,W9,WH,WK,WL,WM,WN,WO,WP,WR,WS,Vf,Vg,Vh,Vs,Vu,Vv,Vx,Vy,V0,V6,V7,V9,VA,VB,VC,VD,VG,VH,VI,VJ,VL,VQ,VR,VV,VW,VX,VZ,Ua,Uc,Ud,Ue,Uj,Un,U1,U2,U3,U4,U5,U6,U7,UC,UD,UR,US,Th,Ti,Tm,Tq,Tx,Ty,T1,T2,T4,T6,T9,TA,S8,SQ,SS,SU,SW,SX,SY,e0];all_goals tactic=>exact rfl))
 ·rw[hF]at e0
  rw[if_pos rfl]
  have hF':=oA.1 hF
  unfold bsE
  by_cases h60:60<v.bs.length
  ·rw[if_pos h60,if_neg (by decide)]
   have c60:((60:Int)<(v.bs.length:Int))=True:=eq_true (by omega)
   (sym=>(simp[Za,Zb,Zf,Zg,Zh,Zj,Zl,Zm,Zo,Zu,Zy,Z2,Z4,Z7,ZF,ZH,ZP,ZQ,ZU,ZV,ZY,Yb,Yc,Yv,YY,Xj,Xl,Xm,Xs,Xt,XK,Wd,Wf,Wh,Wr,Wy,Wz,W0,W7,W8,W9,WH,WK,WL,WM,WN,WO,WP,WR,WS,Vf,Vg,Vh,Vs,Vu,Vv,Vx,Vy,V0,V6,V7,V9,VA,VB,VC,VD,VG,VH,VI,VJ,VL,VQ,VR,VS,VW,VX,VZ,Ua,Uc,Ud,Ue,Uf,Uj,Um,Ux,U1,U2,U3,U4,U5,U6,U7,UC,UD,UR,US,Th,Ti,Tm,Tq,Tw,Tx,Ty,T1,T2,T4,T6,T9,TA,S8,SQ,SS,SU,SW,SX,SY,e0,c60];all_goals tactic=>exact rfl))
  ·rw[if_neg h60]
   have g60:((60:Int)<(v.bs.length:Int))=False:=eq_false (by omega)
   have z:=Tg (n:=(v.bs.length:Int))
   obtain⟨m,m1,m2,m3⟩:=iP (bE v) v.bs.length
   rcases m3 with ⟨rfl,e⟩|⟨m3,m4,e⟩
   ·rw[e, if_pos rfl]
    unfold psE
    by_cases h20:20<v.ps.length
    ·rw[if_pos h20,if_neg (by decide)]
     have c20:((20:Int)<(v.ps.length:Int))=True:=eq_true (by omega)
     sym =>
      simp[Za,Zb,Zf,Zg,Zh,Zj,Zl,Zm,Zo,Zu,Zy,Z2,Z4,Z7,ZF,ZH,ZP,ZQ,ZU,ZV,ZY,Yb,Yc,Yv,YY,Xj,Xl,Xm,Xs,Xt,Wd,Wf,Wh,Wr,Wy,Wz,W0,W7,W8,W9,WH,WK,WM,WR,WS,Vf,Vg,Vh,Vs,Vu,Vv,Vx,Vy,V0,VL,VQ,VS,VW,VX,VZ,Ua,Ud,Ue,Uf,Uj,Um,Uy,U1,U2,U3,U4,U5,U6,U7,UC,UD,UR,US,Th,Ti,Tm,Tq,Tw,Tx,Tz,T1,T2,T5,T9,TA,SQ,SS,SU,SW,SX,SY,e0,g60]
      tactic =>
       unfold qI
       rw[aI v.bs.length (fun i=>[.pt 0 0,rB v.bs,I v.bs.length,I (i:Nat)]) (fun _=>bx v)]
       ·(sym=>(simp[Za,Zb,Zf,Zh,Zl,Zm,Zu,Z2,Z7,ZF,ZH,Yb,Yc,Yt,Yv,YY,Xs,XK,Wd,Wy,Wz,W0,W9,WH,WL,WN,WO,WP,Vs,V6,V7,V9,VA,VB,VC,VD,VG,VH,VI,VJ,VN,VQ,VR,VS,VX,Ua,Uc,Uf,Ux,Uy,U2,U3,Tg,Th,Ti,Tm,Tw,Tx,Ty,T0,T2,T3,T4,T7,T9,TA,S8,z,c20];all_goals tactic=>exact rfl))
       ·(sym=>(simp[Za,YA,YY,Xc,Xe,Xs,Xw,Xy,Wy,WA,WE,WF,WH,WI,WJ,WL,WN,WO,WP,WQ,WV,WW,Vc,VO,VP,VW,VX,VZ,Ua,Uc,Uh,Uw,U2,U3,U4,U5,T8,TN];all_goals tactic=>exact rfl))
       ·exact fun i hi=>vW v hF' hb hi (m2 i hi)
       ·(sym=>(simp[Za,Zb,Zf,Zh,Zl,Zm,Z2,Yt,VN,VQ,VS,VT,Uy,Tg,Tw,Tx,T0,T2,T3,T9,z];all_goals tactic=>exact rfl))
    ·rw[if_neg h20]
     have g20:((20:Int)<(v.ps.length:Int))=False:=eq_false (by omega)
     have z2:=Tg (n:=(v.ps.length:Int))
     obtain⟨k,k1,k2,k3⟩:=iP (pE v) v.ps.length
     sym =>
      simp[Za,Zb,Zf,Zg,Zh,Zj,Zl,Zm,Zo,Zu,Zy,Z2,Z4,Z7,ZF,ZH,ZP,ZQ,ZU,ZV,ZY,Yb,Yc,Yv,YY,Xj,Xl,Xm,Xs,Xt,Wd,Wf,Wh,Wr,Wy,Wz,W0,W7,W8,W9,WH,WK,WM,WR,WS,Vf,Vg,Vh,Vs,Vu,Vv,Vx,Vy,V0,VL,VQ,VS,VV,VW,VX,VZ,Ua,Ud,Ue,Uf,Uj,Um,Uy,U1,U2,U3,U4,U5,U6,U7,UC,UD,UR,US,Th,Ti,Tm,Tq,Tw,Tx,Tz,T1,T2,T5,T9,TA,SQ,SS,SU,SW,SX,SY,e0,g60]
      tactic =>
       unfold qI
       rw[aI v.bs.length (fun i=>[.pt 0 0,rB v.bs,I v.bs.length,I (i:Nat)]) (fun _=>bx v)]
       ·sym =>
        simp[Za,Zb,Zf,Zh,Zl,Zm,Zu,Z2,Z7,ZF,ZH,Yb,Yc,Yt,Yv,Wy,Wz,W0,W9,VN,VQ,VS,Uf,Uy,Tg,Th,Ti,Tm,Tw,Tx,Tz,T0,T1,T2,T3,T7,T9,TA,z,g20]
        tactic =>
         rcases k3 with ⟨rfl,e3⟩|⟨k3,k4,e3⟩
         ·rw[e3, if_pos rfl]
          unfold oY
          rw[aI v.ps.length (fun i=>[.pt 0 0,rP v.ps,I v.ps.length,I (i:Nat)]) (fun _=>bx v)]
          ·sym =>
           simp[Za,Zb,Zd,Ze,Zf,Zg,Zh,Zj,Zl,Zm,Zo,Zu,Z0,Z2,Z7,ZF,ZH,Yb,Ye,Yt,YG,Xj,Wp,Wy,Wz,W0,W4,W6,W7,W9,Vs,Vu,Vv,Vx,Vy,V0,VN,VQ,VS,VW,VX,VY,VZ,Ua,Ud,Ue,Uj,Us,Uy,Uz,U0,U6,U7,UE,UF,UG,UH,UT,UU,UV,UW,Tg,Th,Ti,Tm,Tq,Tw,Tx,T0,T1,T2,T3,T7,T9,TA,TV,SQ,SS,SU,SW,SX,SY,z2]
           tactic =>
            have lf:=fun i s hs h0=>aIP v hF' (i:=i) (s:=s) hs h0
            have rd:=fun i s hs h0=>aGa v hF' (i:=i) (s:=s) hs h0
            unfold vK at lf rd ⊢
            dsimp only at lf rd
            rcases aFM v with ⟨h1,h⟩|⟨h1,h2,h⟩|⟨h1,h2,h3,h⟩|⟨h1,h2,h3,h⟩
            ·rw[h]
             obtain⟨eo,ho,q1,q2⟩:=lf 0 v.sick (by simp) h1
             rw[aI 0 (fun i=>[.pt 0 0,.sl 1 0 1 3,I 3,I (i:Nat)]) (fun _=>bx3 v)]
             ·rw[q1];exact q2
             ·(sym=>(simp[Za,YA,YY,Xd,Xe,Xs,Xx,Xy,Wy,WA,WB,WE,WF,WH,WI,WJ,WL,WN,WO,WP,WQ,WV,WW,Vc,VN,VO,VP,VW,VX,VY,VZ,Ua,Uc,Uh,Uw,U2,U3,U4,U5,T8,TN];all_goals tactic=>exact rfl))
             ·intro i hi;omega
             ·rw[q1];rfl
            ·rw[h]
             obtain⟨eo,ho,q1,q2⟩:=lf 1 v.nur (by simp) h2
             rw[aI 1 (fun i=>[.pt 0 0,.sl 1 0 1 3,I 3,I (i:Nat)]) (fun _=>bx3 v)]
             ·rw[q1];exact q2
             ·(sym=>(simp[Za,YA,YY,Xd,Xe,Xs,Xx,Xy,Wy,WA,WB,WE,WF,WH,WI,WJ,WL,WN,WO,WP,WQ,WV,WW,Vc,VN,VO,VP,VW,VX,VY,VZ,Ua,Uc,Uh,Uw,U2,U3,U4,U5,T8,TN];all_goals tactic=>exact rfl))
             ·intro i hi
              obtain rfl:i=0:=by omega
              exact rd 0 v.sick (by simp) h1
             ·rw[q1];rfl
            ·rw[h]
             obtain⟨eo,ho,q1,q2⟩:=lf 2 v.fix (by simp) h3
             rw[aI 2 (fun i=>[.pt 0 0,.sl 1 0 1 3,I 3,I (i:Nat)]) (fun _=>bx3 v)]
             ·rw[q1];exact q2
             ·(sym=>(simp[Za,YA,YY,Xd,Xe,Xs,Xx,Xy,Wy,WA,WB,WE,WF,WH,WI,WJ,WL,WN,WO,WP,WQ,WV,WW,Vc,VN,VO,VP,VW,VX,VY,VZ,Ua,Uc,Uh,Uw,U2,U3,U4,U5,T8,TN];all_goals tactic=>exact rfl))
             ·intro i hi
              have:i=0∨i=1:=by omega
              rcases this with rfl|rfl
              ·exact rd 0 v.sick (by simp) h1
              ·exact rd 1 v.nur (by simp) h2
             ·rw[q1];rfl
            ·rw[h]
             rw[aI 3 (fun i=>[.pt 0 0,.sl 1 0 1 3,I 3,I (i:Nat)]) (fun _=>bx3 v)]
             ·(sym=>(simp[Za,Zb,Zf,Zh,Zl,Zm,Zu,Z2,Yt,YG,YY,Xs,XK,Wd,WH,WL,WN,WO,WP,Vs,V6,V7,V9,VA,VB,VC,VD,VG,VH,VI,VJ,VN,VQ,VS,VX,Ua,Uc,Uy,U2,U3,Tw,Tx,Ty,T0,T2,T3,T7,T9,TA,S8];all_goals tactic=>exact rfl))
             ·(sym=>(simp[Za,YA,YY,Xd,Xe,Xs,Xx,Xy,Wy,WA,WB,WE,WF,WH,WI,WJ,WL,WN,WO,WP,WQ,WV,WW,Vc,VN,VO,VP,VW,VX,VY,VZ,Ua,Uc,Uh,Uw,U2,U3,U4,U5,T8,TN];all_goals tactic=>exact rfl))
             ·intro i hi
              have:i=0∨i=1∨i=2:=by omega
              rcases this with rfl|rfl|rfl
              ·exact rd 0 v.sick (by simp) h1
              ·exact rd 1 v.nur (by simp) h2
              ·exact rd 2 v.fix (by simp) h3
             ·(sym=>(simp[Za,Zb,Zf,Zh,Zl,Zm,Z2,Yt,YG,VN,VQ,VS,VT,Uy,Tw,Tx,T0,T2,T3,T9];all_goals tactic=>exact rfl))
          ·(sym=>(simp[Za,YA,YY,Xc,Xe,Xs,Xw,Xy,Wy,WA,WE,WF,WH,WI,WJ,WL,WN,WO,WP,WQ,WV,WW,Vc,VN,VO,VP,VW,VX,VZ,Ua,Uc,Uh,Uw,U2,U3,U4,U5,T8,TN];all_goals tactic=>exact rfl))
          ·exact fun i hi=>aBd v hF' hp hi (k2 i hi)
          ·(sym=>(simp[Za,Zb,Zf,Zh,Zl,Zm,Z2,Yt,VN,VQ,VS,VT,Uy,Tg,Tw,Tx,T0,T2,T3,T9,z2];all_goals tactic=>exact rfl))
         ·rw[e3,if_neg k4]
          obtain⟨eo,ho,q1,q2⟩:=aIQ v hF' k3 k4
          unfold oY at q1 ⊢
          rw[aI k (fun i=>[.pt 0 0,rP v.ps,I v.ps.length,I (i:Nat)]) (fun _=>bx v)]
          ·dsimp only at q1;rw[q1];exact q2
          ·(sym=>(simp[Za,YA,YY,Xc,Xe,Xs,Xw,Xy,Wy,WA,WE,WF,WH,WI,WJ,WL,WN,WO,WP,WQ,WV,WW,Vc,VN,VO,VP,VW,VX,VZ,Ua,Uc,Uh,Uw,U2,U3,U4,U5,T8,TN];all_goals tactic=>exact rfl))
          ·exact fun i hi=>aBd v hF' hp (by omega) (k2 i hi)
          ·dsimp only at q1;rw[q1];rfl
       ·(sym=>(simp[Za,YA,YY,Xc,Xe,Xs,Xw,Xy,Wy,WA,WE,WF,WH,WI,WJ,WL,WN,WO,WP,WQ,WV,WW,Vc,VO,VP,VW,VX,VZ,Ua,Uc,Uh,Uw,U2,U3,U4,U5,T8,TN];all_goals tactic=>exact rfl))
       ·exact fun i hi=>vW v hF' hb hi (m2 i hi)
       ·(sym=>(simp[Za,Zb,Zf,Zh,Zl,Zm,Z2,Yt,VN,VQ,VS,VT,Uy,Tg,Tw,Tx,T0,T2,T3,T9,z];all_goals tactic=>exact rfl))
   ·rw[e,if_neg m4]
    obtain⟨eo,ho,q1,q2⟩:=aIR v hF' m3 m4
    sym =>
     simp[Za,Zb,Zf,Zg,Zh,Zj,Zl,Zm,Zo,Zu,Zy,Z2,Z4,Z7,ZF,ZH,ZP,ZQ,ZU,ZV,ZY,Yb,Yc,Yv,YY,Xj,Xl,Xm,Xs,Xt,Wd,Wf,Wh,Wr,Wy,Wz,W0,W7,W8,W9,WH,WK,WM,WR,WS,Vf,Vg,Vh,Vs,Vu,Vv,Vx,Vy,V0,VL,VQ,VS,VV,VW,VX,VZ,Ua,Ud,Ue,Uf,Uj,Um,Uy,U1,U2,U3,U4,U5,U6,U7,UC,UD,UR,US,Th,Ti,Tm,Tq,Tw,Tx,Tz,T1,T2,T5,T9,TA,SQ,SS,SU,SW,SX,SY,e0,g60]
     tactic =>
      unfold qI at q1 ⊢
      rw[aI m (fun i=>[.pt 0 0,rB v.bs,I v.bs.length,I (i:Nat)]) (fun _=>bx v)]
      ·dsimp only at q1;rw[q1];exact q2
      ·(sym=>(simp[Za,YA,YY,Xc,Xe,Xs,Xw,Xy,Wy,WA,WE,WF,WH,WI,WJ,WL,WN,WO,WP,WQ,WV,WW,Vc,VO,VP,VW,VX,VZ,Ua,Uc,Uh,Uw,U2,U3,U4,U5,T8,TN];all_goals tactic=>exact rfl))
      ·exact fun i hi=>vW v hF' hb (by omega) (m2 i hi)
      ·dsimp only at q1;rw[q1];rfl
structure Vn where
 F:Nat
 bs:List (Nat×Nat)
 ps:List (Nat×Nat×Nat)
 sick:Nat
 nur:Nat
 fix:Nat
abbrev bI (b:Nat×Nat):Int×Int:=(b.1,b.2)
abbrev pI (p:Nat×Nat×Nat):Int×Int×Int:=(p.1,p.2.1,p.2.2)
def Vn.v (x:Vn):Va:=⟨x.F,x.bs.map bI,x.ps.map pI,x.sick,x.nur,x.fix⟩
structure Vn.Ok (x:Vn):Prop where
 F1:1≤x.F
 F16:x.F≤16
 nb:x.bs.length≤60
 np:x.ps.length≤20
 b:∀ p∈x.bs,p.1<x.F∧p.2<x.F∧p.1≠p.2
 p:∀ p∈x.ps,p.1≤100∧p.2.1<x.F∧p.2.2<x.F∧p.2.1≠p.2.2
 s:x.sick<2^x.F
 n:x.nur<2^x.F
 f:x.fix<2^x.F
theorem aDB {F a b:Int}:gZ F a b=0↔(0≤a∧a<F)∧(0≤b∧b<F)∧a≠b:=by
 rcases tU F a b with ⟨h1,h⟩|⟨h1,h2,h⟩|⟨h1,h2,h3,h⟩|⟨h1,h2,h3,h⟩
 ·rw[h];simp[btw]at h1;constructor
  ·intro h;simp at h
  ·intro h;have:=h1 h.1.1;omega
 ·rw[h];simp[btw]at h2;constructor
  ·intro h;simp at h
  ·intro h;have:=h2 h.2.1.1;omega
 ·rw[h];constructor
  ·intro h;simp at h
  ·intro h;exact absurd (of_eq_true h3) h.2.2
 ·rw[h]
  have g1:=oA.1 h1
  have g2:=oA.1 h2
  have g3:=of_eq_false h3
  simp only[true_iff]
  exact⟨by omega,by omega,g3⟩
theorem aEa {α β:Type} (f:α→β) (P:β→Prop) (hf:∀ b,P b→∃ a,f a=b):∀ l:List β,(∀ x∈l,P x)→∃ k:List α,k.map f=l
 | [],_=>⟨[],rfl⟩
 | x::l,h=>by
   obtain⟨a,ha⟩:=hf x (h x (by simp))
   obtain⟨k,hk⟩:=aEa f P hf l fun y hy=>h y (by simp[hy])
   exact⟨a::k,by simp[ha,hk]⟩
abbrev Vn.c (x:Vn):List AV:=[I x.F,rB (x.bs.map bI),rP (x.ps.map pI),I x.sick,I x.nur,I x.fix]
def orB (s:Nat) (c:Bool) (k:Nat):Nat:=if c then s|||2^k else s
def brd (ill o:Nat) (b:Nat×Nat):Nat:=orB (orB o (ill.testBit b.1) b.2) (ill.testBit b.2) b.1
def plt (cl:Nat) (n:Int) (o:Nat) (p:Nat×Nat×Nat):Nat:=orB o (decide ((p.1:Int)=n)&&(o.testBit p.2.1 && !cl.testBit p.2.2)) p.2.2
def bor (x:Vn) (ill:Nat):Nat:=x.bs.foldl (brd ill) ill
def aEv (x:Vn) (ill cl:Nat) (n:Int):Nat:=x.ps.foldl (plt cl n) (kY (bor x ill) cl)
theorem aCr {s k n:Nat} {c:Bool} (hs:s<2^n) (hk:k<n):orB s c k<2^n:=by
 unfold orB
 split
 ·exact zD hs hk
 ·exact hs
theorem aLa {ill o n:Nat} {b:Nat×Nat} (ho:o<2^n) (h1:b.1<n) (h2:b.2<n):brd ill o b<2^n:=aCr (aCr ho h2) h1
theorem uZ {α:Type} {f:Nat→α→Nat} {n:Nat}:∀ {l:List α} {o:Nat},(∀ x∈l,∀ o,o<2^n→f o x<2^n)→o<2^n→l.foldl f o<2^n
 | [],_,_,h=>h
 | x::l,o,hf,h=>uZ (l:=l) (o:=f o x) (fun y hy=>hf y (by simp[hy])) (hf x (by simp) o h)
theorem mE {α β:Type} {f:β→α→β} {l:List α} {i:Nat} {x:α} (h:l[i]?=some x) (o:β):(l.take (i+1)).foldl f o=f ((l.take i).foldl f o) x:=by
 rw[List.take_add_one,h];simp
theorem cB {n:Nat} (h:n≤16):2^n≤65536:=Nat.pow_le_pow_right (n:=2) (by omega) h
section
variable {x:Vn} (ok:x.Ok) {ill cl:Nat} {n:Int}
abbrev bx8 (x:Vn):XH:=[some (.blk true (.cells true x.c))]
def bF (x:Vn) (ill i:Nat):Nat:=(x.bs.take i).foldl (brd ill) ill
include ok in
theorem aHB (hi:ill<2^x.F) (i:Nat):bF x ill i<2^x.F:=uZ (fun b hb o ho=>by
 have:=ok.b b (List.mem_of_mem_take hb)
 exact aLa ho this.1 this.2.1) hi
include ok in
def pF (x:Vn) (cl:Nat) (n:Int) (o i:Nat):Nat:=(x.ps.take i).foldl (plt cl n) o
include ok in
theorem aJB {o:Nat} (ho:o<2^x.F) (i:Nat):pF x cl n o i<2^x.F:=uZ (fun p hp o ho=>by
 have:=ok.p p (List.mem_of_mem_take hp)
 exact aCr ho this.2.2.1) ho
include ok in
end
theorem aIH (ks:List Nat) (k:Nat):cU (ks++[k])=cU ks++[(k:Int)]:=by simp[cU]
def cC (x:Vn) (cl:Nat):Nat→Nat
 | 0=>kY x.sick cl
 | n+1=>aEv x (cC x cl n) cl (n:Int)
theorem aAz {a b n:Nat} (h:a<2^n):kY a b<2^n:=Nat.lt_of_le_of_lt (jB a b) h
theorem aIf {x:Vn} (ok:x.Ok) {ill cl:Nat} {n:Int} (h:ill<2^x.F):aEv x ill cl n<2^x.F:=by
 have h1:=aHB ok h x.bs.length
 have e1:bF x ill x.bs.length=bor x ill:=by unfold bF bor;rw[List.take_length]
 rw[e1]at h1
 have h2:=aJB (cl:=cl) (n:=n) ok (aAz (b:=cl) h1) x.ps.length
 unfold pF at h2
 rw[List.take_length]at h2
 exact h2
theorem fC {x:Vn} (ok:x.Ok) (cl:Nat):∀ n,cC x cl n<2^x.F
 | 0=>aAz ok.s
 | n+1=>aIf ok (fC ok cl n)
theorem aMh {x:Vn} (ok:x.Ok) {a:Nat} (h:a<2^x.F):a<65536:=Nat.lt_of_lt_of_le h (cB ok.F16)
def prC (c:List Int):Nat→Int
 | 0 => -1
 | i+1=>c.getD i 0
def uJ (x:Vn) (c:List Int) (i:Nat):Int:=if btw 0 (c.getD i 0) ((x.F:Int)-1) then (if c.getD i 0≤prC c i then 7 else if x.fix.testBit (c.getD i 0).toNat then 23 else 0) else 5
def kS (c:List Int) (i:Nat):Nat:=(c.take i).foldl (fun s f=>s|||2^f.toNat) 0
theorem aDr {c:List Int} {i:Nat} {f:Int} (h:c[i]?=some f):kS c (i+1)=kS c i|||2^f.toNat:=mE h 0
theorem qD (x:Vn) {c:List Int} {i:Nat} {f:Int} (h:c[i]?=some f):(btw 0 f ((x.F:Int)-1)=false∧uJ x c i=5)∨(btw 0 f ((x.F:Int)-1)=true∧(f≤prC c i)=True∧uJ x c i=7) ∨
 (btw 0 f ((x.F:Int)-1)=true∧(f≤prC c i)=False∧x.fix.testBit f.toNat=true∧uJ x c i=23)∨(btw 0 f ((x.F:Int)-1)=true∧(f≤prC c i)=False∧x.fix.testBit f.toNat=false∧uJ x c i=0):=by
 unfold uJ
 rw[bY h]
 cases btw 0 f ((x.F:Int)-1)
 ·simp
 by_cases h2:f≤prC c i
 ·simp[h2]
 cases x.fix.testBit f.toNat<;>simp[h2]
theorem aKj {c:List Int} {i:Nat} {f:Int} (h:c[i]?=some f):prC c (i+1)=f:=bY h
theorem aAm {x:Vn} {c:List Int}:∀ i,(∀ j,j<i→uJ x c j=0)→i≤c.length→kS c i<2^x.F
 | 0,_,_=>Nat.two_pow_pos _
 | i+1,h,hl=>by
   obtain⟨f,hf⟩:=bU (l:=c) (i:=i) (by omega)
   have ih:=aAm i (fun j hj=>h j (by omega)) (by omega)
   have h0:=h i (by omega)
   rw[aDr hf]
   rcases qD x hf with ⟨_,e⟩|⟨_,_,e⟩|⟨_,_,_,e⟩|⟨h1,_,_,_⟩
   ·rw[e]at h0;simp at h0
   ·rw[e]at h0;simp at h0
   ·rw[e]at h0;simp at h0
   ·have:=oA.1 h1
    exact zD ih (by omega)
section
variable {x:Vn} (ok:x.Ok) {c:List Int} (hc:c.length<1000000000)
include ok hc in
theorem aDv {i:Nat} (hi:i<c.length) (h0:∀ j,j≤i→uJ x c j=0) :
 aW 0 [2,7,8,16,17,18] (execW aA 19 0 none (match mO with | .loop _ a=>a|c=>c) (aY [2,7,8,16,17,18] [.pt 0 0,I (kS c i:Nat),I (prC c i),nL c,I c.length,I (i:Nat)]) (bx8 x))=some ([.pt 0 0,I (kS c (i+1):Nat),I (prC c (i+1)),nL c,I c.length,I (i+1:Nat)],bx8 x):=by
 obtain⟨f,hf⟩:=bU hi
 have a1:=eJ hi
 have a2:=eP hi (by omega)
 have hF:=ok.F16
 have hF1:=ok.F1
 have hp:=cB hF
 have u:IntKind.i64.wrap ((x.F:Int)-1)=(x.F:Int)-1:=aD (by omega) (by omega)
 have e1:=w45 0 f ((x.F:Int)-1)
 have sl:=aAm (x:=x) i (fun j hj=>h0 j (by omega)) (by omega)
 rcases qD x hf with ⟨_,e⟩|⟨_,_,e⟩|⟨_,_,_,e⟩|⟨h1,h2,h3,_⟩
 ·rw[h0 i (by omega)]at e;simp at e
 ·rw[h0 i (by omega)]at e;simp at e
 ·rw[h0 i (by omega)]at e;simp at e
 rw[h1]at e1
 have hb:=oA.1 h1
 rw[aDr hf,aKj hf]
 obtain⟨k,rfl⟩:∃ k:Nat,f=k:=⟨f.toNat,by omega⟩
 simp only[Int.toNat_natCast]at h3 ⊢
 have e2:=w60 (a:=x.fix) (j:=k) (by have:=ok.f;omega) (by omega)
 rw[h3]at e2
 have e3:=w62 (j:=k) (by omega)
 have p1:(2:Nat)^k≤2^16:=Nat.pow_le_pow_right (by omega) (by omega)
 have o1:=eL dK (a:=kS c i) (b:=2^k) (by omega) (by omega)
 generalize kS c i=q at *
 generalize 2^k=q1 at *
 generalize prC c i=pr at *
 unfold mO
 dsimp only
 (sym=>(simp[Za,Zb,Zf,Zg,Zh,Zj,Zl,Zm,Zu,Z2,Z4,Z7,Z9,ZH,ZP,ZQ,ZU,ZV,ZY,Yb,Yh,Yi,Yk,Yl,Yo,Yt,Yu,Yx,Yy,YY,Xc,Xe,Xs,Xt,Xw,Xy,Wy,Wz,W0,W7,W9,WA,WE,WF,WH,WI,WJ,WK,WL,WM,WN,WO,WP,WQ,WR,WS,WV,WW,Vc,Vf,Vg,Vh,Vs,Vu,Vv,Vx,Vy,V0,VN,VO,VP,VQ,VR,VS,VW,VX,VZ,Ua,Uc,Ud,Ue,Uf,Ug,Uh,Um,Us,Uw,Ux,Uy,U1,U2,U3,U4,U5,Th,Ti,Tj,Tk,Tm,Tw,Tx,Tz,T1,T2,T5,T8,T9,TA,TN,SQ,SS,SU,SW,SX,SY,a1,a2,hf,u,e1,e2,e3,h2,o1];all_goals tactic=>exact rfl))
include ok in
theorem aKy {i:Nat} (hi:i<c.length) (h0:uJ x c i≠0) (q:Nat):∃ e h,
 execW aA 19 0 none (match mO with | .loop _ a=>a|c=>c) (aY [2,7,8,16,17,18] [.pt 0 0,I q,I (prC c i),nL c,I c.length,I (i:Nat)]) (bx8 x)=some (.ret,e,h)∧bL none x19.res x19.ownR 0 (some (.ret,e,h))=some (.tup [I 0,I (uJ x c i)],[]):=by
 obtain⟨f,hf⟩:=bU hi
 have a1:=eJ hi
 have hF:=ok.F16
 have hF1:=ok.F1
 have hp:=cB hF
 have u:IntKind.i64.wrap ((x.F:Int)-1)=(x.F:Int)-1:=aD (by omega) (by omega)
 have e1:=w45 0 f ((x.F:Int)-1)
 rcases qD x hf with ⟨h1,e⟩|⟨h1,h2,e⟩|⟨h1,h2,h3,e⟩|⟨h1,h2,h3,e⟩
 ·rw[e];rw[h1]at e1
  refine jS ?_ ?_
  ·unfold mO;dsimp only; (sym=>(simp[Za,Zb,Zf,Zh,Zl,Zm,Zu,Z2,Z4,Z7,Z9,ZH,ZP,ZQ,ZU,ZV,ZY,Yb,Yh,Yi,Yl,Yt,Yx,Yy,YY,Xs,Xt,Wy,Wz,W0,W7,W9,WH,WK,WM,WR,WS,Vf,Vg,Vh,VN,VQ,VR,VU,VW,VX,VZ,Ua,Ud,Ue,Uf,Ug,Uh,Un,Us,Ux,U1,U2,U3,U4,U5,Th,Ti,Tj,Tk,Tm,Tw,Tx,Ty,Tz,T1,T2,T4,T6,T9,TA,a1,hf,u,e1];all_goals tactic=>exact rfl))
  ·unfold mO;dsimp only; (sym=>(simp[Za,Zb,Zf,Zh,Zl,Zm,Zu,Z2,Z4,Z7,Z9,ZH,ZP,ZQ,ZU,ZV,ZY,Yb,Yh,Yi,Yl,Yt,Yx,Yy,YY,Xs,Xt,Wy,Wz,W0,W7,W9,WH,WK,WM,WR,WS,Vf,Vg,Vh,V6,VC,VN,VQ,VR,VW,VX,VZ,Ua,Ud,Ue,Uf,Ug,Uh,Un,Us,Ux,U1,U2,U3,U4,U5,Th,Ti,Tj,Tk,Tm,Tw,Tx,Ty,Tz,T1,T2,T4,T6,T9,TA,a1,hf,u,e1];all_goals tactic=>exact rfl))
 ·rw[e];rw[h1]at e1
  generalize prC c i=pr at *
  refine jS ?_ ?_
  ·unfold mO;dsimp only; (sym=>(simp[Za,Zb,Zf,Zh,Zl,Zm,Zu,Z2,Z4,Z7,Z9,ZH,ZP,ZQ,ZU,ZV,ZY,Yb,Yh,Yi,Yl,Yt,Yu,Yx,Yy,YY,Xs,Xt,Wy,Wz,W0,W7,W9,WH,WK,WM,WR,WS,Vf,Vg,Vh,VN,VQ,VR,VS,VU,VW,VX,VZ,Ua,Ud,Ue,Uf,Ug,Uh,Um,Us,Ux,U1,U2,U3,U4,U5,Th,Ti,Tj,Tk,Tm,Tw,Tx,Ty,Tz,T1,T2,T4,T6,T9,TA,a1,hf,u,e1,h2];all_goals tactic=>exact rfl))
  ·unfold mO;dsimp only; (sym=>(simp[Za,Zb,Zf,Zh,Zl,Zm,Zu,Z2,Z4,Z7,Z9,ZH,ZP,ZQ,ZU,ZV,ZY,Yb,Yh,Yi,Yl,Yt,Yu,Yx,Yy,YY,Xs,Xt,Wy,Wz,W0,W7,W9,WH,WK,WM,WR,WS,Vf,Vg,Vh,V6,VC,VN,VQ,VR,VS,VW,VX,VZ,Ua,Ud,Ue,Uf,Ug,Uh,Um,Us,Ux,U1,U2,U3,U4,U5,Th,Ti,Tj,Tk,Tm,Tw,Tx,Ty,Tz,T1,T2,T4,T6,T9,TA,a1,hf,u,e1,h2];all_goals tactic=>exact rfl))
 ·rw[e];rw[h1]at e1
  have hb:=oA.1 h1
  obtain⟨k,rfl⟩:∃ k:Nat,f=k:=⟨f.toNat,by omega⟩
  simp only[Int.toNat_natCast]at h3
  have e2:=w60 (a:=x.fix) (j:=k) (by have:=ok.f;omega) (by omega)
  rw[h3]at e2
  generalize prC c i=pr at *
  refine jS ?_ ?_
  ·unfold mO;dsimp only; (sym=>(simp[Za,Zb,Zf,Zg,Zh,Zj,Zl,Zm,Zu,Z2,Z4,Z7,Z9,ZH,ZP,ZQ,ZU,ZV,ZY,Yb,Yh,Yi,Yl,Yt,Yu,Yx,Yy,YY,Xs,Xt,Wy,Wz,W0,W7,W9,WH,WK,WM,WR,WS,Vf,Vg,Vh,Vs,Vu,Vv,Vx,Vy,V0,VN,VQ,VR,VS,VU,VW,VX,VZ,Ua,Ud,Ue,Uf,Ug,Uh,Um,Us,Ux,Uy,U1,U2,U3,U4,U5,Th,Ti,Tj,Tk,Tm,Tw,Tx,Ty,Tz,T1,T2,T4,T6,T9,TA,SQ,SS,SU,SW,SX,SY,a1,hf,u,e1,h2,e2];all_goals tactic=>exact rfl))
  ·unfold mO;dsimp only; (sym=>(simp[Za,Zb,Zf,Zg,Zh,Zj,Zl,Zm,Zu,Z2,Z4,Z7,Z9,ZH,ZP,ZQ,ZU,ZV,ZY,Yb,Yh,Yi,Yl,Yt,Yu,Yx,Yy,YY,Xs,Xt,Wy,Wz,W0,W7,W9,WH,WK,WM,WR,WS,Vf,Vg,Vh,Vs,Vu,Vv,Vx,Vy,V0,V6,VC,VN,VQ,VR,VS,VW,VX,VZ,Ua,Ud,Ue,Uf,Ug,Uh,Um,Us,Ux,Uy,U1,U2,U3,U4,U5,Th,Ti,Tj,Tk,Tm,Tw,Tx,Ty,Tz,T1,T2,T4,T6,T9,TA,SQ,SS,SU,SW,SX,SY,a1,hf,u,e1,h2,e2];all_goals tactic=>exact rfl))
 ·exact absurd e h0
end
abbrev aHp (x:Vn) (c:List Int):Int:=dF (uJ x c) c.length
theorem aMO {x:Vn} (ok:x.Ok) {c:List Int} (hc:c.length<1000000000) (h23:runW aA 29 [.agg x.c] []=some (I 0,[])) :
 runW aA 19 [.agg x.c,nL c] []=some (.tup (if aHp x c=0 then [I (kS c c.length:Nat),I 0] else [I 0,I (aHp x c)]),[]):=by
 have z:=Tg (n:=(c.length:Int))
 have p0:prC c 0 = -1:=rfl
 have s0:kS c 0=0:=rfl
 obtain⟨m,m1,m2,m3⟩:=iP (uJ x c) c.length
 rw[r19 (by simp)];unfold x19;dsimp only
 sym =>
  simp[Za,Zb,Zf,Zg,Zh,Zj,Zl,Zm,Zo,Zu,Zy,Z2,ZF,ZH,ZP,ZQ,ZU,ZV,Yc,Ys,YY,Xa,Xc,Xj,Xl,Xm,Xs,Xu,Xw,Wd,Wf,Wh,Wr,Wy,Wz,W0,W4,W5,W6,W7,W8,WH,WK,WM,WR,WS,Vf,Vg,Vh,Vs,Vu,Vv,Vx,Vy,V0,VL,VQ,VS,VV,VW,VX,VZ,Ua,Ud,Ue,Uf,Uj,Um,Ux,U1,U2,U3,U4,U5,U6,U7,UC,UD,UR,US,Th,Ti,Tl,Tq,Tw,Tx,Tz,T1,T2,T9,TA,SQ,SS,SU,SW,SX,SY,h23]
  tactic =>
   rcases m3 with ⟨rfl,e⟩|⟨m3,m4,e⟩
   ·rw[if_pos e]
    unfold mO
    rw[aI c.length (fun i=>[.pt 0 0,I (kS c i:Nat),I (prC c i),nL c,I c.length,I (i:Nat)]) (fun _=>bx8 x)]
    ·generalize kS c c.length=q at *
     generalize prC c c.length=pr at *
     (sym=>(simp[Za,Zb,Zf,Zh,Zl,Zm,Zu,Z2,Yt,YY,Xb,Xs,Xv,XK,XM,Wd,Wg,WH,WL,WN,WO,WP,Vs,V6,V7,V9,VA,VB,VC,VF,VG,VH,VI,VJ,VN,VQ,VS,VX,Ua,Uc,Uy,U2,U3,U4,U5,U8,U9,UC,UD,Tg,Tw,Tx,Ty,T0,T2,T3,T7,T9,TA,S8,z];all_goals tactic=>exact rfl))
    ·rw[p0,s0]; (sym=>(simp[Za,YA,YY,Xc,Xe,Xs,Xw,Xy,Wy,WA,WE,WF,WH,WI,WJ,WL,WN,WO,WP,WQ,WV,WW,Vc,VO,VP,VW,VX,VZ,Ua,Uc,Uh,Uw,U2,U3,U4,U5,T8,TN];all_goals tactic=>exact rfl))
    ·exact fun i hi=>aDv ok hc hi fun j hj=>m2 j (by omega)
    ·generalize kS c c.length=q at *
     generalize prC c c.length=pr at *
     (sym=>(simp[Za,Zb,Zf,Zh,Zl,Zm,Z2,Yt,VN,VQ,VS,VT,Uy,Tg,Tw,Tx,T0,T2,T3,T9,z];all_goals tactic=>exact rfl))
   ·rw[if_neg (by rw[e];exact m4),e]
    obtain⟨eo,ho,q1,q2⟩:=aKy ok m3 m4 (kS c m)
    unfold mO at q1 ⊢
    rw[aI m (fun i=>[.pt 0 0,I (kS c i:Nat),I (prC c i),nL c,I c.length,I (i:Nat)]) (fun _=>bx8 x)]
    ·dsimp only at q1;rw[q1];exact q2
    ·rw[p0,s0]; (sym=>(simp[Za,YA,YY,Xc,Xe,Xs,Xw,Xy,Wy,WA,WE,WF,WH,WI,WJ,WL,WN,WO,WP,WQ,WV,WW,Vc,VO,VP,VW,VX,VZ,Ua,Uc,Uh,Uw,U2,U3,U4,U5,T8,TN];all_goals tactic=>exact rfl))
    ·exact fun i hi=>aDv ok hc (by omega) fun j hj=>m2 j (by omega)
    ·dsimp only at q1;rw[q1];rfl
abbrev aCj (L:List (Nat×Nat)):List (AV×AV):=L.map fun p=>(.nilifc,.agg [I p.1,I p.2])
abbrev chO (L:List (Nat×Nat)):Option XB:=some (.blk true (.map true ((.agg [.agg []],.fp [] 16 0)::aCj L)))
abbrev gS (L:List (Nat×Nat)):XH:=[some (.loop 43 0 [.pt 1 0] .ready),some (.blk false (.cells true [.ch 2])),chO L]
theorem aMp (L:List (Nat×Nat)):aEZ 3 (gS L):=by
 refine⟨fun _=>rfl,fun _ _=>rfl,fun _=>rfl,?_,?_⟩
 ·intro a e h0 h1
  (sym=>(simp[Xe,Xi,Xy,XJ,WA,WF,WH,WJ,WL,WM,WN,WO,WP,WV,WW,WX,WY,Vb,Vc,Vd,Ve,VO,VP,VW,VX,VY,VZ,Ua,Ub,Uc,Uw,U1,U2,U3,U4,U5,T8,Ru,Rx,h0,h1];all_goals tactic=>exact rfl))
 ·intro a
  (sym=>(simp[Za,Xb,Xe,Xv,Xy,XM,Wg,WA,WF,WH,WJ,WL,WM,WN,WO,WP,WV,WW,WX,WY,Vb,Vc,Vd,Ve,Vs,V9,VA,VB,VW,VX,VY,VZ,Ua,Ub,Uc,Uw,U1,U2,U3,U4,U5,U8,UC,S8,Ru,Rx];all_goals tactic=>exact rfl))
theorem yS (v:Nat) (L:List (Nat×Nat)) (hl:L.length<16):Yd (gS L) (gS (L++[(v,0)])) v true:=by
 have b1:(L.length<16)=True:=eq_true hl
 have y:runYW aA (.fn (.yield 0) [] []) [I (v:Nat)] (gS L)=some (.bool true,gS (L++[(v,0)])):=by
  rw[gR (K:=43) (d:=x43) (site:=0) (vs:=[.pt 1 0]) rfl rfl (by rfl) rfl]
  (sym=>(simp[Za,Zb,Zc,Zd,Ze,Zf,Zh,Zl,Zm,Zu,Zz,ZH,ZL,YA,YU,YZ,Xe,Xj,Xl,Xt,Xy,Wp,Wy,Wz,W0,W3,W4,W6,W7,W9,WA,WF,WH,WJ,WL,WM,WN,WO,WP,WV,WW,WX,WY,Vb,Vc,Vd,Ve,V8,VB,VN,VW,VX,VY,VZ,Ua,Ub,Uc,Ud,Ue,Uf,Uj,Us,Uw,U1,U2,U3,U4,U5,U6,U7,UE,UF,UG,UH,UP,UQ,Th,Ti,Tm,T1,T5,T9,TA,TJ,Sl,Sm,Sn,Sp,Sz,S2,S3,S4,Rc,Rh,Ri,Ru,Rx,b1];all_goals tactic=>exact rfl))
 intro a
 (sym=>(simp[Zd,Ze,YA,YY,Xe,Xi,Xs,Xt,Xy,XJ,Wy,W3,W6,W7,W9,WA,WB,WC,WE,WG,WH,WI,WJ,WK,WM,WN,WR,WS,WT,WV,WW,WX,WY,Vc,Vd,Ve,Vf,Vg,Vh,Vi,VW,VX,VY,VZ,Ua,Ud,Ue,Uh,Uw,U1,U2,U3,U4,U5,TJ,Sy,Ru,Rx,y];all_goals tactic=>exact rfl))
theorem aMi {D:Nat→Option XFn} {K k:Nat} {rd:Option Nat} {L:List Nat} {a:XCode} {e:aL} {h:XH}:execW D K k rd (.loop L a) e h=iJ (execW D K k rd a (aY L (tH k L e h)) (mM k L e h)) (execW D K k rd (.loop L a)):=eE
section
variable {x:Vn} (ok:x.Ok) {ill cl:Nat} {L:List (Nat×Nat)} {sn n:Int}
abbrev h77 (x:Vn) (L:List (Nat×Nat)) (n:Int):XH:=[chO L,some (.blk true (.cells true x.c)),some (.blk false (.cells true [.ch 0])),some (.blk true (.cells true [I n]))]
include ok in
theorem aFT (hill:ill<2^x.F) {i:Nat} (hi:i<x.bs.length) :
 aW 1 [1,4,7,8,10,11,30,31,36,37,38] (execW aA 43 1 none (match aDb with | .loop _ a=>a|c=>c) (aY [1,4,7,8,10,11,30,31,36,37,38] [I cl,.pt 1 0,.pt 2 0,I (bF x ill i:Nat),.pt 3 0,I ill,I sn,I n,rB (x.bs.map bI),I x.bs.length,I (i:Nat)]) (h77 x L n)) =
  some ([I cl,.pt 1 0,.pt 2 0,I (bF x ill (i+1):Nat),.pt 3 0,I ill,I sn,I n,rB (x.bs.map bI),I x.bs.length,I (i+1:Nat)],h77 x L n):=by
 obtain⟨b,hx⟩:=bU hi
 have hb:=ok.b b (List.mem_of_getElem? hx)
 have hF:=ok.F16
 have hp:=cB hF
 have a1:=eJ hi
 have a2:=eP hi (by have:=ok.nb;omega)
 have l0:=aHB ok hill i
 have up:bF x ill (i+1)=brd ill (bF x ill i) b:=mE hx ill
 rw[up]
 generalize bF x ill i=o at *
 have e1:=w60 (a:=ill) (j:=b.1) (by omega) (by omega)
 have e2:=w60 (a:=ill) (j:=b.2) (by omega) (by omega)
 have s1:=w62 (j:=b.1) (by omega)
 have s2:=w62 (j:=b.2) (by omega)
 have p1:(2:Nat)^b.1≤2^16:=Nat.pow_le_pow_right (by omega) (by omega)
 have p2:(2:Nat)^b.2≤2^16:=Nat.pow_le_pow_right (by omega) (by omega)
 have o1:=eL dK (a:=o) (b:=2^b.2) (by omega) (by omega)
 have o1':=zD (a:=o) (i:=b.2) (n:=x.F) (by omega) hb.2.1
 have o2:=eL dK (a:=o|||2^b.2) (b:=2^b.1) (by omega) (by omega)
 have o3:=eL dK (a:=o) (b:=2^b.1) (by omega) (by omega)
 unfold brd orB
 generalize 2^b.1=q1 at *
 generalize 2^b.2=q2 at *
 cases h1:ill.testBit b.1<;>cases h2:ill.testBit b.2
 all_goals
  rw[h1]at e1
  rw[h2]at e2
  unfold aDb aJv
  dsimp only
  (sym=>(simp[Za,Zb,Zc,Zd,Ze,Zf,Zg,Zh,Zj,Zl,Zm,Zu,Zv,Z2,Z8,Z9,ZA,ZH,ZL,ZM,ZP,ZQ,ZU,ZV,Yh,Yi,Yk,Yl,Yo,Yt,Yx,Yy,Yz,Y0,Y1,Y9,YB,YE,YP,YV,YY,Xa,Xc,Xe,Xj,Xs,Xt,Xu,Xw,Xy,XK,Wd,Wr,Wy,Wz,W0,W3,W4,W5,W6,W7,W9,WA,WB,WE,WF,WH,WI,WJ,WK,WL,WM,WN,WO,WP,WQ,WR,WS,WV,WW,WX,Vb,Vc,Vd,Vf,Vg,Vh,Vs,Vu,Vv,Vw,VN,VO,VP,VQ,VR,VS,VV,VW,VX,VY,VZ,Ua,Ub,Uc,Ud,Ue,Uf,Ug,Uh,Uj,Us,Uw,Ux,Uy,U1,U2,U3,U4,U5,U6,U7,UE,Th,Ti,Tj,Tk,Tl,Tm,Tn,Tp,Tw,Tx,Tz,T0,T1,T2,T3,T5,T7,T8,T9,TA,S8,SQ,SS,SV,SW,SX,SY,Ru,Rx,a1,a2,hx,e1,e2,s1,s2,o1,o2,o3,aMi];all_goals tactic=>exact rfl))
end
theorem aJb {k cl:Nat} (hk:k<16) (hc:cl<65536):kY (2^k) cl=if cl.testBit k then 0 else 2^k:=by
 apply Nat.eq_of_testBit_eq
 intro i
 rw[bX (by omega),Nat.testBit_two_pow]
 by_cases hi:k=i
 ·subst hi
  cases h:cl.testBit k
  ·simp[Nat.testBit_two_pow];omega
  ·simp
 ·cases h:cl.testBit k
  ·simp[Nat.testBit_two_pow,hi]
  ·simp[hi]
section
variable {x:Vn} (ok:x.Ok) {ill cl:Nat} {L:List (Nat×Nat)} {sn n:Int}
include ok in
theorem aFS {o0:Nat} (ho:o0<2^x.F) (hcl:cl<2^x.F) {i:Nat} (hi:i<x.ps.length) :
 aW 1 [1,4,7,8,10,11,30,31,63,64,65] (execW aA 43 1 none (match yM with | .loop _ a=>a|c=>c) (aY [1,4,7,8,10,11,30,31,63,64,65] [I cl,.pt 1 0,.pt 2 0,I (pF x cl n o0 i:Nat),.pt 3 0,I ill,I sn,I n,rP (x.ps.map pI),I x.ps.length,I (i:Nat)]) (h77 x L n)) =
  some ([I cl,.pt 1 0,.pt 2 0,I (pF x cl n o0 (i+1):Nat),.pt 3 0,I ill,I sn,I n,rP (x.ps.map pI),I x.ps.length,I (i+1:Nat)],h77 x L n):=by
 obtain⟨p,hx⟩:=bU hi
 have hb:=ok.p p (List.mem_of_getElem? hx)
 have hF:=ok.F16
 have hp:=cB hF
 have a1:=eJ hi
 have a2:=eP hi (by have:=ok.np;omega)
 have l0:=aJB (cl:=cl) (n:=n) ok ho i
 have up:pF x cl n o0 (i+1)=plt cl n (pF x cl n o0 i) p:=mE hx o0
 rw[up]
 generalize pF x cl n o0 i=o at *
 have e1:=w60 (a:=o) (j:=p.2.1) (by omega) (by omega)
 have s1:=w62 (j:=p.2.2) (by omega)
 have p1:(2:Nat)^p.2.2≤2^16:=Nat.pow_le_pow_right (by omega) (by omega)
 have d0:=aJb (k:=p.2.2) (cl:=cl) (by omega) (by omega)
 have d1:=lN dK (a:=2^p.2.2) (b:=cl) (by omega) (by omega)
 rw[d0]at d1
 have o1:=eL dK (a:=o) (b:=2^p.2.2) (by omega) (by omega)
 have o2:=eL dK (a:=o) (b:=0) (by omega) (by omega)
 rw[Nat.or_zero]at o2
 have o2:cD .or .i64 (o:Int) 0=(o:Int):=o2
 unfold plt orB
 generalize 2^p.2.2=q1 at *
 by_cases hn:(p.1:Int)=n
 ·have c1:((p.1:Int)=n)=True:=eq_true hn
  have g1:decide ((p.1:Int)=n)=true:=decide_eq_true hn
  rw[g1]
  cases h1:o.testBit p.2.1
  ·rw[h1]at e1
   unfold yM
   dsimp only
   (sym=>(simp[Za,Zb,Zc,Zd,Ze,Zf,Zg,Zh,Zj,Zl,Zm,Zp,Zq,Zu,Zv,Zx,Z2,Z7,Z9,ZH,ZL,ZM,ZP,ZQ,ZU,ZV,ZW,Yb,Yh,Yi,Yk,Yr,Yt,Yx,Yy,YY,Xc,Xe,Xj,Xs,Xt,Xw,Xy,Wr,Wy,Wz,W0,W3,W4,W5,W6,W7,W9,WA,WB,WE,WF,WH,WI,WJ,WK,WL,WM,WN,WO,WP,WQ,WR,WS,WV,WW,WX,Vb,Vc,Vd,Vf,Vg,Vh,Vs,Vu,Vv,Vx,Vy,V0,VN,VO,VP,VQ,VR,VS,VV,VW,VX,VY,VZ,Ua,Ub,Uc,Ud,Ue,Uf,Ug,Uh,Uj,Uk,Ul,Us,Uw,Ux,U1,U2,U3,U4,U5,U6,U7,UE,Th,Ti,Tj,Tk,Tl,Tm,Tn,Tp,Tw,Tx,Tz,T1,T2,T5,T8,T9,TA,SQ,SS,SU,SW,SX,SY,Ru,Rx,a1,a2,hx,e1,c1];all_goals tactic=>exact rfl))
  ·rw[h1]at e1
   cases h2:cl.testBit p.2.2
   all_goals
    rw[h2]at d1
    unfold yM
    dsimp only
    (sym=>(simp[Za,Zb,Zc,Zd,Ze,Zf,Zg,Zh,Zj,Zl,Zm,Zp,Zq,Zu,Zv,Zx,Z2,Z7,Z9,ZH,ZL,ZM,ZP,ZQ,ZU,ZV,ZW,Yb,Yh,Yi,Yk,Yo,Yr,Yt,Yx,Yy,YA,YY,Xc,Xe,Xj,Xs,Xt,Xw,Xy,Wr,Wy,Wz,W0,W3,W4,W5,W6,W7,W9,WA,WB,WE,WF,WH,WI,WJ,WK,WL,WM,WN,WO,WP,WQ,WR,WS,WV,WW,WX,Vb,Vc,Vd,Vf,Vg,Vh,Vs,Vu,Vv,Vx,Vy,V0,VN,VO,VP,VQ,VR,VV,VW,VX,VY,VZ,Ua,Ub,Uc,Ud,Ue,Uf,Ug,Uh,Uj,Ul,Um,Un,Us,Uw,Ux,U1,U2,U3,U4,U5,U6,U7,UE,Th,Ti,Tj,Tk,Tl,Tm,Tn,Tp,Tw,Tx,Tz,T1,T2,T5,T8,T9,TA,SP,SQ,SS,SU,SW,SX,SY,Ru,Rx,a1,a2,hx,e1,c1,s1,d1,o1,o2];all_goals tactic=>exact rfl))
 ·have c1:((p.1:Int)=n)=False:=eq_false hn
  have g1:decide ((p.1:Int)=n)=false:=decide_eq_false hn
  rw[g1]
  unfold yM
  dsimp only
  (sym=>(simp[Za,Zb,Zc,Zd,Ze,Zf,Zg,Zh,Zj,Zl,Zm,Zp,Zs,Zu,Zv,Zx,Z2,Z7,Z9,ZH,ZL,ZM,ZX,Yb,Yh,Yi,Yk,Yr,Yt,Yx,Yy,YY,Xc,Xe,Xj,Xs,Xw,Xy,Wr,Wy,Wz,W0,W3,W4,W5,W6,W7,W9,WA,WB,WE,WF,WH,WI,WJ,WL,WN,WO,WP,WQ,WV,WW,WX,Vb,Vc,Vd,Vs,Vu,Vv,Vx,Vy,V0,VN,VO,VP,VQ,VR,VS,VV,VW,VX,VY,VZ,Ua,Ub,Uc,Ud,Ue,Uf,Ug,Uh,Uj,Uk,Us,Uw,Ux,Uy,U2,U3,U4,U5,U6,U7,UE,Th,Ti,Tj,Tk,Tl,Tm,Tn,Tp,Tw,Tx,Tz,T1,T2,T5,T8,T9,TA,SQ,SS,SU,SW,SX,SY,Ru,Rx,a1,a2,hx,c1];all_goals tactic=>exact rfl))
end
abbrev gT (n:Nat) (L:List (Nat×Nat)):XH:=[some (.loop 43 1 [.pt 1 0,.pt 3 0] .ready),some (.blk false (.cells true [.ch 2])),chO L,some (.blk true (.cells true [I n]))]
theorem aMo (n:Nat) (L:List (Nat×Nat)):aEZ 4 (gT n L):=by
 refine⟨fun _=>rfl,fun _ _=>rfl,fun _=>rfl,?_,?_⟩
 ·intro a e h0 h1
  (sym=>(simp[Xe,Xi,Xy,XJ,WA,WF,WH,WJ,WL,WM,WN,WO,WP,WV,WW,WX,WY,Vb,Vc,Vd,Ve,VO,VP,VW,VX,VY,VZ,Ua,Ub,Uc,Uw,U1,U2,U3,U4,U5,T8,Ru,Rx,h0,h1];all_goals tactic=>exact rfl))
 ·intro a
  (sym=>(simp[Za,Xb,Xe,Xv,Xy,XM,Wg,WA,WF,WH,WJ,WL,WM,WN,WO,WP,WV,WW,WX,WY,Vb,Vc,Vd,Ve,Vs,V9,VA,VB,VW,VX,VY,VZ,Ua,Ub,Uc,Uw,U1,U2,U3,U4,U5,U8,UC,S8,Ru,Rx];all_goals tactic=>exact rfl))
theorem yT (v n:Nat) (L:List (Nat×Nat)) (hl:L.length<16) (hn:n≤1000):Yd (gT n L) (gT n (L++[(v,n+1)])) v true:=by
 have b1:(L.length<16)=True:=eq_true hl
 have a2:IntKind.i64.wrap ((n:Int)+1)=(n:Int)+1:=aD (by omega) (by omega)
 have y:runYW aA (.fn (.yield 0) [] []) [I (v:Nat)] (gT n L)=some (.bool true,gT n (L++[(v,n+1)])):=by
  rw[gR (K:=43) (d:=x43) (site:=1) (vs:=[.pt 1 0,.pt 3 0]) rfl rfl (by rfl) rfl]
  (sym=>(simp[Za,Zb,Zc,Zd,Ze,Zf,Zh,Zl,Zm,Zu,Zz,Z2,ZH,ZL,Yk,YU,YZ,Xe,Xj,Xl,Xt,Xy,Wp,Wy,Wz,W0,W3,W4,W6,W7,W9,WA,WF,WH,WJ,WL,WM,WN,WO,WP,WV,WW,WX,WY,Vb,Vc,Vd,Ve,V8,VB,VN,VW,VX,VY,VZ,Ua,Ub,Uc,Ud,Ue,Uf,Uj,Us,Uw,U1,U2,U3,U4,U5,U6,U7,UE,UF,UG,UH,UP,UQ,Th,Ti,Tm,Tw,T1,T5,T9,TA,TJ,Sl,Sm,Sn,Sp,Sz,S2,S3,S4,Rc,Rh,Ri,Ru,Rx,b1,a2];all_goals tactic=>exact rfl))
 intro a
 (sym=>(simp[Zd,Ze,YY,Xe,Xi,Xs,Xt,Xy,XJ,Wy,W3,W6,W7,W9,WA,WB,WC,WE,WG,WH,WI,WJ,WK,WM,WN,WR,WS,WT,WV,WW,WX,WY,Vc,Vd,Ve,Vf,Vg,Vh,Vi,VW,VX,VY,VZ,Ua,Ud,Ue,Uh,Uw,U1,U2,U3,U4,U5,TJ,Sy,Ru,Rx,y];all_goals tactic=>exact rfl))
theorem tB {p q:Nat→Bool} (h:∀ k,p k=true→q k=false):∀ l:List Nat,(l.filter fun k=>p k||q k).length=(l.filter p).length+(l.filter q).length
 | []=>rfl
 | k::l=>by
   have ih:=tB h l
   simp only[List.filter_cons]
   cases hp:p k
   ·cases hq:q k
    ·simpa using ih
    ·simp only[Bool.false_or,if_true,Bool.false_eq_true,if_false,List.length_cons];omega
   ·have hq:=h k hp
    rw[hq]
    simp only[Bool.true_or,if_true,Bool.false_eq_true,if_false,List.length_cons];omega
def oL (x:Vn) (cl:Nat):Nat→List (Nat×Nat)
 | 0=>(el (cC x cl 0)).map fun k=>(k,0)
 | n+1=>oL x cl n++(el (kY (cC x cl (n+1)) (cC x cl n))).map fun k=>(k,n+1)
theorem uR (s k i:Nat) (c:Bool):(orB s c k).testBit i=(s.testBit i||(c&&decide (k=i))):=by
 unfold orB
 cases c
 ·simp
 ·rw[if_pos rfl,fJ];simp
theorem wU {α:Type} {f:Nat→α→Nat} (hf:∀ o x i,o.testBit i=true→(f o x).testBit i=true):∀ (l:List α) (o i:Nat),o.testBit i=true→(l.foldl f o).testBit i=true
 | [],_,_,h=>h
 | x::l,o,i,h=>wU hf l (f o x) i (hf o x i h)
theorem aJm {ill:Nat} (o:Nat) (b:Nat×Nat) (i:Nat) (h:o.testBit i=true):(brd ill o b).testBit i=true:=by
 unfold brd
 rw[uR,uR,h];simp
theorem aIC {cl:Nat} {n:Int} (o:Nat) (p:Nat×Nat×Nat) (i:Nat) (h:o.testBit i=true):(plt cl n o p).testBit i=true:=by
 unfold plt
 rw[uR,h];simp
theorem aBs {x:Vn} (ok:x.Ok) {cl:Nat} (hcl:cl<2^x.F):∀ n i,(cC x cl n).testBit i=true→(cC x cl (n+1)).testBit i=true:=by
 have hp:=cB ok.F16
 have dj:∀ n i,(cC x cl n).testBit i=true→cl.testBit i=false:=by
  intro n
  induction n with
  | zero =>
    intro i hi
    unfold cC at hi
    rw[bX (by omega)]at hi
    simp only[Bool.and_eq_true,Bool.not_eq_true']at hi
    exact hi.2.2
  | succ n ih =>
    intro i hi
    rw[cC,aEv]at hi
    have main:∀ (l:List (Nat×Nat×Nat)) (o:Nat),(∀ i,o.testBit i=true→cl.testBit i=false)→∀ i,(l.foldl (plt cl (n:Int)) o).testBit i=true→cl.testBit i=false:=by
     intro l
     induction l with
     | nil=>exact fun o h=>h
     | cons p l ihl =>
       intro o h
       refine ihl (plt cl n o p) fun i hi=>?_
       unfold plt at hi
       rw[uR,Bool.or_eq_true]at hi
       rcases hi with hi|hi
       ·exact h i hi
       ·simp only[Bool.and_eq_true,Bool.not_eq_true',decide_eq_true_eq]at hi
        rw[←hi.2];exact hi.1.2.2
    refine main x.ps _ (fun i hi=>?_) i hi
    rw[bX (by omega)]at hi
    simp only[Bool.and_eq_true,Bool.not_eq_true']at hi
    exact hi.2.2
 intro n i hi
 rw[cC,aEv]
 refine wU aIC _ _ _ ?_
 have hlt:=xQ (fC ok cl n) (i:=i)
 have hi64:i<64:=by
  by_cases h:i<64
  ·exact h
  ·rw[hlt (by have:=ok.F16;omega)]at hi;simp at hi
 rw[bX (by omega),dj n i hi]
 have:(bor x (cC x cl n)).testBit i=true:=wU aJm _ _ _ hi
 simp[this,hi64]
theorem aDP {x:Vn} (ok:x.Ok) {cl:Nat} (hcl:cl<2^x.F):∀ n,(oL x cl n).length=(el (cC x cl n)).length
 | 0=>by simp[oL]
 | n+1=>by
   have hp:=cB ok.F16
   have hl:=fC ok cl n
   rw[oL,List.length_append,List.length_map,aDP ok hcl n]
   have e:el (cC x cl (n+1))=(List.range 16).filter fun k=>(cC x cl n).testBit k||(kY (cC x cl (n+1)) (cC x cl n)).testBit k:=by
    unfold el
    refine List.filter_congr fun k hk=>?_
    rw[List.mem_range]at hk
    rw[bX (by omega)]
    cases h:(cC x cl n).testBit k
    ·cases (cC x cl (n+1)).testBit k<;>simp;omega
    ·rw[aBs ok hcl n k h];rfl
   rw[e,tB]
   ·rfl
   ·intro k hk
    rw[bX (by omega),hk];simp
theorem aKL {x:Vn} (ok:x.Ok) {cl:Nat} (hcl:cl<2^x.F) (n:Nat):(oL x cl n).length≤16:=by
 rw[aDP ok hcl];exact pY _
theorem aMy {a n:Nat} {L:List (Nat×Nat)} (ha:a<65536) (hn:n≤1000) (hl:L.length+(el a).length≤16) :
 runW aA 37 [.fn (.yield 0) [] [],.pt 4 0] (gT n L++[cI a])=some (.tup [],gT n (L++(el a).map fun k=>(k,n+1))++[cI 0]):=by
 have e:=rI (n:=4) (G:=fun i=>gT n (L++((el a).take i).map fun k=>(k,n+1))) ha (fun i _=>aMo n _) (by
  intro i v hv
  have h1:=yT v n (L++((el a).take i).map fun k=>(k,n+1)) (by have:=dZ hv;simp;omega) hn
  have e1:(L++((el a).take i).map fun k=>(k,n+1))++[(v,n+1)]=L++((el a).take (i+1)).map fun k=>(k,n+1):=by
   rw[List.take_add_one,hv];simp
  rw[e1]at h1
  exact h1)
 rw[List.take_length]at e
 simpa using e
theorem aMz {a:Nat} (ha:a<65536):runW aA 37 [.fn (.yield 0) [] [],.pt 3 0] (gS []++[cI a])=some (.tup [],gS ((el a).map fun k=>(k,0))++[cI 0]):=by
 have hl:=pY a
 have e:=rI (n:=3) (G:=fun i=>gS (((el a).take i).map fun k=>(k,0))) ha (fun i _=>aMp _) (by
  intro i v hv
  have h1:=yS v (((el a).take i).map fun k=>(k,0)) (by have:=dZ hv;simp;omega)
  have e1:(((el a).take i).map fun k=>(k,0))++[(v,0)]=((el a).take (i+1)).map fun k=>(k,0):=by
   rw[List.take_add_one,hv];simp
  rw[e1]at h1
  exact h1)
 rw[List.take_length]at e
 simpa using e
abbrev g77 (x:Vn) (L:List (Nat×Nat)):XH:=[chO L,some (.blk true (.cells true x.c)),some (.blk false (.cells true [.ch 0]))]
theorem aIi {x:Vn} (ok:x.Ok) {cl:Nat} (hcl:cl<2^x.F) {sn:Int} {n:Nat} (hn:n≤1000) (hs:(n:Int)<sn) :
 aW 1 [1,4,7,8,30,31] (execW aA 43 1 none (match aDa with | .loop _ a=>a|c=>c) (aY [1,4,7,8,30,31] [I cl,.pt 1 0,.pt 2 0,I (cC x cl n:Nat),I sn,I (n:Nat)]) (g77 x (oL x cl n))) =
  some ([I cl,.pt 1 0,.pt 2 0,I (cC x cl (n+1):Nat),I sn,I (n+1:Nat)],g77 x (oL x cl (n+1))):=by
 have hp:=cB ok.F16
 have hi:=fC ok cl n
 have hi2:=fC ok cl (n+1)
 have c1:((n:Int)<sn)=True:=eq_true hs
 have a2:IntKind.i64.wrap ((n:Int)+1)=(n:Int)+1:=aD (by omega) (by omega)
 have lb:=aHB ok hi x.bs.length
 have eb:bF x (cC x cl n) x.bs.length=bor x (cC x cl n):=by unfold bF bor;rw[List.take_length]
 rw[eb]at lb
 have d1:=lN dK (a:=bor x (cC x cl n)) (b:=cl) (by omega) (by omega)
 have dl:=jB (bor x (cC x cl n)) cl
 have ep:pF x cl (n:Int) (kY (bor x (cC x cl n)) cl) x.ps.length=cC x cl (n+1):=by unfold pF;rw[List.take_length];rfl
 have z:=Tg (n:=(x.bs.length:Int))
 have z2:=Tg (n:=(x.ps.length:Int))
 have d2:=lN dK (a:=cC x cl (n+1)) (b:=cC x cl n) (by omega) (by omega)
 have dl2:=jB (cC x cl (n+1)) (cC x cl n)
 have w8:=w80 (a:=kY (cC x cl (n+1)) (cC x cl n))
 have e86:=aMy (a:=kY (cC x cl (n+1)) (cC x cl n)) (n:=n) (L:=oL x cl n) (by omega) hn (by
  have:=aKL ok hcl (n+1)
  rw[oL,List.length_append,List.length_map]at this
  exact this)
 rw[show oL x cl n++(el (kY (cC x cl (n+1)) (cC x cl n))).map (fun k=>(k,n+1))=oL x cl (n+1) from rfl]at e86
 have e86:runW aA 37 [.fn (.yield 0) [] [],.pt 4 0] [some (.loop 43 1 [.pt 1 0,.pt 3 0] .ready),some (.blk false (.cells true [.ch 2])),chO (oL x cl n),some (.blk true (.cells true [I n])),cI (kY (cC x cl (n+1)) (cC x cl n))] =
  some (.tup [],[some (.loop 43 1 [.pt 1 0,.pt 3 0] .ready),some (.blk false (.cells true [.ch 2])),chO (oL x cl (n+1)),some (.blk true (.cells true [I n])),some (.blk true (.cells true [.int .i64 0]))]):=e86
 have rb:=fun i hh=>aFS (L:=oL x cl n) (ill:=cC x cl n) (sn:=sn) (n:=(n:Int)) ok (o0:=kY (bor x (cC x cl n)) cl) (by omega) hcl (i:=i) hh
 have ra:=fun i hh=>aFT (L:=oL x cl n) (cl:=cl) (sn:=sn) (n:=(n:Int)) ok hi (i:=i) hh
 unfold aDa
 dsimp only
 sym =>
  simp[Za,Zb,Zc,Zf,Zh,Zl,Zm,Zu,Zv,Z2,Z7,ZF,ZH,ZL,ZM,Yb,Yc,Yt,Xj,Wp,Wy,Wz,W0,W3,W4,W6,W7,W9,VN,VQ,VR,VY,VZ,Ua,Ud,Ue,Uf,Uj,Us,Ux,U6,U7,UE,Th,Ti,Tm,Tn,Tp,Tw,Tx,Tz,T1,T2,T9,TA,c1]
  tactic =>
   unfold aDb
   rw[aI x.bs.length (fun i=>[I cl,.pt 1 0,.pt 2 0,I (bF x (cC x cl n) i:Nat),.pt 3 0,I (cC x cl n:Nat),I sn,I (n:Nat),rB (x.bs.map bI),I x.bs.length,I (i:Nat)]) (fun _=>h77 x (oL x cl n) n)]
   ·rw[eb]
    sym =>
     simp[Za,Zb,Zf,Zh,Zl,Zm,Zu,Z2,Z7,ZF,ZH,Yb,Yc,Yt,Wy,Wz,W0,W9,VN,VQ,VS,Uf,Uy,Tg,Th,Ti,Tm,Tw,Tx,T0,T1,T2,T3,T7,T9,TA,SP,z,d1]
     tactic =>
      unfold yM
      rw[aI x.ps.length (fun i=>[I cl,.pt 1 0,.pt 2 0,I (pF x cl (n:Int) (kY (bor x (cC x cl n)) cl) i:Nat),.pt 3 0,I (cC x cl n:Nat),I sn,I (n:Nat),rP (x.ps.map pI),I x.ps.length,I (i:Nat)]) (fun _=>h77 x (oL x cl n) n)]
      ·rw[ep]
       generalize kY (cC x cl (n+1)) (cC x cl n)=df at *
       generalize cC x cl (n+1)=q1 at *
       generalize oL x cl (n+1)=L2 at *
       generalize cC x cl n=q0 at *
       generalize oL x cl n=L1 at *
       (sym=>(simp[Za,Zb,Zf,Zh,Zl,Zm,Zu,Z2,ZP,ZQ,ZU,ZV,Yk,Yt,YY,Xe,Xi,Xs,Xv,Xy,XI,XJ,Wy,W3,W6,W7,W9,WA,WB,WC,WE,WF,WG,WH,WI,WJ,WK,WL,WM,WN,WO,WP,WQ,WR,WS,WT,WV,WW,WX,WY,Vb,Vc,Vd,Ve,Vf,Vg,Vh,Vi,VN,VO,VP,VQ,VS,VW,VX,VY,VZ,Ua,Ub,Uc,Ud,Ue,Uh,Uj,Uw,Uy,U1,U2,U3,U4,U5,Tg,Tw,Tx,T0,T1,T2,T3,T5,T7,T8,T9,TA,Sl,Sm,Sq,Sr,Ss,Su,Sv,Sw,SP,Ru,Rx,z2,d2,w8,e86,a2];all_goals tactic=>exact rfl))
      ·(sym=>(simp[Za,YA,YY,Xc,Xe,Xs,Xw,Xy,Wy,WA,WB,WE,WF,WH,WI,WJ,WL,WN,WO,WP,WQ,WV,WW,WX,Vb,Vc,Vd,VN,VO,VP,VW,VX,VY,VZ,Ua,Ub,Uc,Uh,Uw,U2,U3,U4,U5,T8,Ru,Rx];all_goals tactic=>exact rfl))
      ·exact rb
      ·rw[ep]
       generalize cC x cl (n+1)=q1 at *
       (sym=>(simp[Za,Zb,Zf,Zh,Zl,Zm,Z2,Yt,VN,VQ,VS,VT,Uy,Tg,Tw,Tx,T0,T2,T3,T9,z2];all_goals tactic=>exact rfl))
   ·(sym=>(simp[Za,YA,YY,Xc,Xe,Xs,Xw,Xy,Wy,WA,WB,WE,WF,WH,WI,WJ,WL,WN,WO,WP,WQ,WV,WW,WX,Vb,Vc,Vd,VN,VO,VP,VW,VX,VY,VZ,Ua,Ub,Uc,Uh,Uw,U2,U3,U4,U5,T8,Ru,Rx];all_goals tactic=>exact rfl))
   ·exact ra
   ·(sym=>(simp[Za,Zb,Zf,Zh,Zl,Zm,Z2,Yt,VN,VQ,VS,VT,Uy,Tg,Tw,Tx,T0,T2,T3,T9,z];all_goals tactic=>exact rfl))
theorem aHF {run:fW} {runY:iI} {l:List DOper} {e:aL} {h:XH}:eM run runY l e h=xo none run runY l e h:=rfl
abbrev chC (L:List (Nat×Nat)):Option XB:=some (.blk true (.map true ((.agg [.agg []],.fp [] 16 1)::aCj L)))
theorem w77 {x:Vn} (ok:x.Ok) {cl:Nat} (hcl:cl<2^x.F) {sn:Nat} (hs:sn≤1000):runW aA 43 [.agg x.c,I cl,I sn,.ch 0] [chO []]=some (.tup [],[chC (oL x cl sn)]):=by
 have hp:=cB ok.F16
 have hi:=fC ok cl 0
 have hk:=ok.s
 have d1:=lN dK (a:=x.sick) (b:=cl) (by omega) (by omega)
 rw[show kY x.sick cl=cC x cl 0 from rfl]at d1
 have w8:=w80 (a:=cC x cl 0)
 have e86:runW aA 37 [.fn (.yield 0) [] [],.pt 3 0] [some (.loop 43 0 [.pt 1 0] .ready),some (.blk false (.cells true [.ch 2])),some (.blk true (.map true [(.agg [.agg []],.fp [] 16 0)])),cI (cC x cl 0)] =
  some (.tup [],[some (.loop 43 0 [.pt 1 0] .ready),some (.blk false (.cells true [.ch 2])),chO (oL x cl 0),some (.blk true (.cells true [.int .i64 0]))]):=aMz (a:=cC x cl 0) (by omega)
 have z:=Tg (n:=(sn:Int))
 rw[r43 (by simp)]
 unfold x43
 dsimp only
 rw[aHF]
 have rd:=fun i (hh:i<sn)=>aIi (x:=x) ok hcl (sn:=(sn:Int)) (n:=i) (by omega) (by omega)
 generalize hf0:oL x cl 0=L0 at e86
 generalize hi0:cC x cl 0=q0 at e86 w8 d1
 sym =>
  simp[Za,Zb,Zf,Zh,Zl,Zm,Zo,Zu,Zy,Z2,Z7,ZH,ZP,ZQ,ZU,ZV,Yb,YY,Xe,Xi,Xj,Xl,Xm,Xs,Xv,Xy,XI,XJ,Wd,Wf,Wh,Wr,Wy,Wz,W0,W3,W6,W7,W8,W9,WA,WB,WC,WE,WG,WH,WI,WJ,WK,WM,WN,WR,WS,WT,WV,WW,WX,WY,Vc,Vd,Ve,Vf,Vg,Vh,Vi,VL,VV,VW,VX,VY,VZ,Ua,Ud,Ue,Uh,Uj,Uw,U1,U2,U3,U4,U5,U6,U7,UC,UD,UR,US,Th,Ti,Tm,Tq,Tw,Tx,T1,T2,T5,T9,TA,Sl,Sm,Sq,Sr,Ss,Su,Sv,Sw,SP,Rq,Rr,Ru,Rw,Rx,Rz,R2,d1,w8,e86]
  tactic =>
   unfold aDa
   rw[aI sn (fun i=>[I cl,.pt 1 0,.pt 2 0,I (cC x cl i:Nat),I sn,I (i:Nat)]) (fun i=>g77 x (oL x cl i))]
   ·generalize cC x cl sn=q at *
    generalize oL x cl sn=L at *
    (sym=>(simp[Za,Zb,Zf,Zh,Zl,Zm,Z2,Yt,Xb,Xv,XM,Wg,Wy,W3,WH,WL,WN,WO,WP,WV,WW,Vb,Vc,Vs,V7,V9,VA,VB,VC,VE,VG,VN,VQ,VS,VW,VX,Ua,Ub,Uc,Uy,U2,U3,U4,U8,UC,Tg,Tw,Tx,T0,T2,T3,T7,T9,S8,Ro,Rp,Rs,Rt,z];all_goals tactic=>exact rfl))
   ·rw[hf0,hi0]; (sym=>(simp[Za,YA,YY,Xe,Xs,Xy,Wy,W8,WA,WB,WE,WF,WH,WI,WJ,WL,WN,WO,WP,WQ,WV,WW,WX,Vb,Vc,Vd,VL,VO,VP,VW,VX,VY,VZ,Ua,Ub,Uc,Uh,Uw,U2,U3,U4,U5,T8,Ru,Rx];all_goals tactic=>exact rfl))
   ·exact rd
   ·generalize cC x cl sn=q at *
    generalize oL x cl sn=L at *
    (sym=>(simp[Za,Zb,Zf,Zh,Zl,Zm,Z2,Yt,VN,VQ,VS,VT,Uy,Tg,Tw,Tx,T0,T2,T3,T9,z];all_goals tactic=>exact rfl))
abbrev gI (x:Vn) (cl sn out:Nat) (c:Option XB):XH:=[some (.loop 21 0 [.pt 1 0] .ready),some (.blk true (.cells true [I out])),some (.blk true (.cells true x.c)),some (.blk true (.cells true [I cl])),some (.blk true (.cells true [I sn])),c]
theorem y46 {out v n:Nat} (ho:out<65536) (hv:v<16):runYW aA (.fn (.yield 0) [] []) [.agg [I (v:Nat),I (n:Nat)]] [some (.loop 21 0 [.pt 1 0] .ready),some (.blk true (.cells true [I out]))]=some (.bool true,[some (.loop 21 0 [.pt 1 0] .ready),some (.blk true (.cells true [I (out|||2^v:Nat)]))]):=by
 have w1:=w62 (j:=v) (by omega)
 have hp:2^v<65536:=Nat.pow_lt_pow_of_lt (a:=2) (n:=v) (m:=16) (by omega) hv
 have b1:=eL dK (a:=out) (b:=2^v) (by omega) (Nat.lt_trans hp (by omega))
 rw[gR (K:=21) (d:=x21) (site:=0) (vs:=[.pt 1 0]) rfl rfl (by rfl) rfl]
 (sym=>(simp[Za,Zb,Zc,Ze,Zf,Zg,Zh,Zk,Zl,Zm,Zv,Z2,Z7,ZI,ZK,ZL,ZM,ZN,ZO,ZR,ZS,ZU,ZV,Yb,Yo,YY,YZ,Xe,Xj,Xs,Xt,Xy,Wp,Wr,Wx,Wy,Wz,W0,W3,W4,W6,W7,W9,WA,WF,WH,WJ,WK,WL,WM,WN,WO,WP,WR,WS,WV,WW,WY,Vb,Vc,Ve,Vf,Vg,Vh,Vj,Vk,Vl,Vm,Vs,Vu,Vv,Vx,Vy,V0,V8,VB,VN,VW,VX,VY,VZ,Ua,Ub,Uc,Ud,Ue,Uj,Un,Uo,Uq,Us,Uw,Uz,U0,U1,U2,U3,U4,U5,U6,U7,UE,UP,UQ,Th,Ti,Tm,Tn,Tp,Tw,T1,T5,T9,TA,Sl,Sm,Sn,Sp,Sz,S2,S3,S4,S7,SQ,SS,SU,SW,SX,SY,w1,b1];all_goals tactic=>exact rfl))
theorem aIj {x:Vn} {cl sn out:Nat} {p:Nat×Nat} {L:List (Nat×Nat)} (ho:out<65536) (hv:p.1<16) :
 aW 5 [0,13] (execW aA 42 5 none (match aDc with | .loop _ a=>a|c=>c) (aY [0,13] [.fn (.yield 0) [] [],.ch 5]) (gI x cl sn out (chC (p::L))))=some ([.fn (.yield 0) [] [],.ch 5],gI x cl sn (out|||2^p.1) (chC L)):=by
 have y:=y46 (n:=p.2) ho hv
 unfold aDc
 dsimp only
 have e1:chC (p::L)=some (.blk true (.map true ((.agg [.agg []],.fp [] 16 1)::(.nilifc,.agg [I p.1,I p.2])::aCj L))):=rfl
 rw[e1,show chC L=some (.blk true (.map true ((.agg [.agg []],.fp [] 16 1)::aCj L))) from rfl]
 generalize aCj L=sl
 (sym=>(simp[Za,Zb,Zc,Zf,Zg,Zh,Zj,Zl,Zm,Zu,Zv,Z4,ZE,ZH,ZL,ZM,ZP,ZQ,ZY,Yj,YY,Xa,Xe,Xi,Xj,Xs,Xt,Xu,Xy,XJ,Wr,Wy,Wz,W0,W3,W4,W5,W6,W7,W9,WA,WB,WC,WE,WF,WG,WH,WI,WJ,WK,WL,WM,WN,WO,WP,WQ,WR,WS,WT,WV,WW,WY,Vb,Vc,Ve,Vf,Vg,Vh,Vi,Vs,Vu,Vv,Vx,Vy,V0,VN,VO,VP,VQ,VR,VS,VW,VX,VY,VZ,Ua,Ub,Uc,Ud,Ue,Uh,Uj,Um,Us,Uw,U1,U2,U3,U4,U5,U6,U7,UE,Th,Ti,Tl,Tn,Tp,Tx,Tz,T1,T2,T5,T8,T9,Sy,SQ,SS,SU,SW,SX,SY,Rd,Rj,Rk,Rm,Ru,Rx,y];all_goals tactic=>exact rfl))
def orL (L:List (Nat×Nat)):Nat:=L.foldl (fun o p=>o|||2^p.1) 0
theorem aKm {L:List (Nat×Nat)} (h:∀ p∈L,p.1<16) (i:Nat):orL (L.take i)<65536:=by
 have:∀ (M:List (Nat×Nat)) (o:Nat),o<65536→(∀ p∈M,p.1<16)→M.foldl (fun o p=>o|||2^p.1) o<65536:=by
  intro M
  induction M with
  | nil=>intro o ho _;exact ho
  | cons p M ih =>
    intro o ho hm
    have h2:2^p.1<65536:=Nat.pow_lt_pow_of_lt (a:=2) (n:=p.1) (m:=16) (by omega) (hm p List.mem_cons_self)
    exact ih _ (Nat.or_lt_two_pow (n:=16) ho h2) (fun q hq=>hm q (List.mem_cons_of_mem _ hq))
 exact this _ 0 (by omega) (fun p hp=>h p (List.mem_of_mem_take hp))
theorem aGx {L:List (Nat×Nat)} {i:Nat} {p:Nat×Nat} (h:L[i]?=some p):orL (L.take (i+1))=orL (L.take i)|||2^p.1:=by
 rw[orL,List.take_add_one,h,List.foldl_append];rfl
theorem aML {x:Vn} (ok:x.Ok) {cl sn:Nat} (hcl:cl<2^x.F) (hs:sn≤1000) (hm:∀ p∈oL x cl sn,p.1<16) :
 runW aA 42 [.fn (.yield 0) [] [],.pt 2 0,.pt 3 0,.pt 4 0] [some (.loop 21 0 [.pt 1 0] .ready),cI 0,some (.blk true (.cells true x.c)),some (.blk true (.cells true [I cl])),some (.blk true (.cells true [I sn]))] =
  some (.tup [],[some (.loop 21 0 [.pt 1 0] .ready),cI (orL (oL x cl sn)),some (.blk true (.cells true x.c)),some (.blk true (.cells true [I cl])),some (.blk true (.cells true [I sn]))]):=by
 have w:=w77 ok hcl hs
 generalize hL:oL x cl sn=L at *
 have rd:=fun(i:Nat) (hi:i<L.length)=>aIj (x:=x) (cl:=cl) (sn:=sn) (L:=L.drop (i+1)) (p:=L[i]) (aKm hm i) (hm _ (List.getElem_mem hi))
 have e0:orL (L.take 0)=0:=rfl
 have e1:orL (L.take L.length)=orL L:=by rw[List.take_length]
 rw[r42 (by simp)];unfold x42;dsimp only
 have w:runW aA 43 [.agg x.c,I cl,I sn,.ch 0] [some (.blk true (.map true [(.agg [.agg []],.fp [] 16 0)]))]=some (.tup [],[some (.blk true (.map true ((.agg [.agg []],.fp [] 16 1)::aCj L)))]):=w
 generalize hs0:aCj L=sl at *
 sym =>
  simp[Za,Zb,Zf,Zg,Zh,Zj,Zl,Zm,Zu,ZH,ZP,ZQ,ZU,ZV,YA,YY,Xa,Xc,Xs,Xu,Xv,Xw,Wj,Wo,Wy,Wz,W0,W3,W4,W5,W6,W7,W8,W9,WA,WC,WE,WH,WI,WJ,WK,WM,WN,WR,WS,WT,WV,WW,Vc,Vf,Vg,Vh,Vi,Vs,Vu,Vv,Vw,Vx,Vy,V0,VL,VV,VW,VX,VY,VZ,Ua,Ud,Ue,Uw,U1,U2,U3,U4,U5,UC,UD,Th,Ti,Tl,Tm,Tx,T1,T2,T9,TA,S8,SQ,SS,SU,SV,SW,SX,SY,Re,Ru,Rx,Ry,Rz,w]
  tactic =>
   unfold aDc
   rw[aI L.length (fun _=>[.fn (.yield 0) [] [],.ch 5]) (fun i=>gI x cl sn (orL (L.take i)) (chC (L.drop i)))]
   ·rw[e1,show chC (L.drop L.length)=some (.blk true (.map true [(.agg [.agg []],.fp [] 16 1)])) from by rw[List.drop_length];rfl];generalize orL L=q; (sym=>(simp[Za,Zb,Zf,Zh,Zl,Zm,ZE,ZP,Yj,Xb,Xe,Xv,Xy,XM,Wg,Wy,W3,W9,WA,WF,WH,WJ,WL,WN,WO,WP,WV,WW,WY,Vb,Vc,Ve,Vs,V5,V7,V9,VA,VB,VC,VE,VG,VN,VQ,VS,VW,VX,VZ,Ua,Ub,Uc,Uw,U2,U3,U4,U5,U8,UC,Tx,T0,T2,T3,T7,T9,S8,Rd,Rj,Rl,Rm];all_goals tactic=>exact rfl))
   ·rw[e0,show chC (L.drop 0)=some (.blk true (.map true ((.agg [.agg []],.fp [] 16 1)::sl))) from by rw[←hs0];rfl]; (sym=>(simp[Za,YA,Xe,Xi,Xy,XJ,Wy,W8,WA,WB,WE,WF,WH,WI,WJ,WL,WN,WO,WP,WQ,WV,WW,WY,Vb,Vc,Ve,VL,VO,VP,VW,VX,VY,VZ,Ua,Ub,Uc,Uh,Uw,U2,U3,U4,U5,T8,SS,SV,Ru,Rx];all_goals tactic=>exact rfl))
   ·intro i hi
    have h:=rd i hi
    rw[←aGx (List.getElem?_eq_getElem hi),List.getElem_cons_drop]at h
    exact h
   ·rw[e1,show chC (L.drop L.length)=some (.blk true (.map true [(.agg [.agg []],.fp [] 16 1)])) from by rw[List.drop_length];rfl];generalize orL L=q; (sym=>(simp[Za,Zb,Zf,Zh,Zl,Zm,ZE,ZP,Yj,Wy,W3,W9,VN,VQ,VS,VT,Tx,T0,T2,T3,T9,Rd,Rj,Rl,Rm];all_goals tactic=>exact rfl))
end Go.Proofs.YtmcbhljgkgfanaaDoor
namespace Go.Proofs.YtmcbhljgkgfanaaDoor
open Go Go.DL

theorem eZ {a F i:Nat} (h:a<2^F) (hi:a.testBit i=true):i<F:=by
 by_cases e:i<F
 ·exact e
 ·rw[xQ h (by omega)]at hi;simp at hi
theorem aJI {x:Vn} (ok:x.Ok) {cl:Nat}:∀ n,∀ p∈oL x cl n,p.1<x.F
 | 0=>by
   intro p hp
   simp only[oL,List.mem_map,fK]at hp
   obtain⟨k,hk,rfl⟩:=hp
   exact eZ (fC ok cl 0) hk.2
 | n+1=>by
   intro p hp
   rw[oL,List.mem_append]at hp
   rcases hp with hp|hp
   ·exact aJI ok n p hp
   ·simp only[List.mem_map,fK]at hp
    obtain⟨k,hk,rfl⟩:=hp
    exact eZ (aAz (fC ok cl (n+1))) hk.2
theorem aIF (L:List (Nat×Nat)) (i:Nat):(orL L).testBit i=L.any (·.1=i):=by
 have:∀ (M:List (Nat×Nat)) (o:Nat),(M.foldl (fun o p=>o|||2^p.1) o).testBit i=(o.testBit i||M.any (·.1=i)):=by
  intro M
  induction M with
  | nil=>intro o;simp
  | cons p M ih=>intro o;rw[List.foldl_cons,ih,fJ,List.any_cons,Bool.or_assoc]
 rw[orL,this];simp
theorem aIE {x:Vn} (ok:x.Ok) {cl:Nat} (hcl:cl<2^x.F):∀ n,orL (oL x cl n)=cC x cl n:=by
 have hF:=ok.F16
 have hp:=cB hF
 intro n
 apply Nat.eq_of_testBit_eq
 intro i
 rw[aIF]
 induction n with
 | zero =>
   rw[oL,List.any_map,Bool.eq_iff_iff]
   simp only[List.any_eq_true,fK,Function.comp,decide_eq_true_eq]
   constructor
   ·rintro ⟨k,hk,rfl⟩;exact hk.2
   ·intro h;exact⟨i,⟨by have:=eZ (fC ok cl 0) h;omega,h⟩,rfl⟩
 | succ n ih =>
   have hl:=fC ok cl n
   rw[oL,List.any_append,ih,List.any_map,Bool.eq_iff_iff,Bool.or_eq_true]
   simp only[List.any_eq_true,fK,Function.comp,decide_eq_true_eq]
   constructor
   ·rintro (h|⟨k,hk,rfl⟩)
    ·exact aBs ok hcl n i h
    ·rw[bX (by omega)]at hk
     simp only[Bool.and_eq_true]at hk
     exact hk.2.1
   ·intro h
    by_cases h1:(cC x cl n).testBit i=true
    ·exact .inl h1
    ·have:=eZ (fC ok cl (n+1)) h
     refine .inr ⟨i,⟨by omega,?_⟩,rfl⟩
     rw[bX (by omega),h]
     simp only[Bool.not_eq_true]at h1
     simp[h1];omega
end Go.Proofs.YtmcbhljgkgfanaaDoor
namespace Go.Proofs.YtmcbhljgkgfanaaDoor
open Go Go.DL
set_option maxRecDepth 100000
set_option maxHeartbeats 4000000
theorem w51 (x:Vn) (cl sn:Nat):runW aA 30 [.agg x.c,I cl,I sn] []=some (.fn (.func 42) [] [.pt 0 0,.pt 1 0,.pt 2 0],[some (.blk true (.cells true x.c)),some (.blk true (.cells true [I cl])),some (.blk true (.cells true [I sn]))]):=by
 rw[r30 (by simp)];unfold x30;dsimp only
 (sym=>(simp[Za,Zb,Zf,Zh,Zl,Zo,Zu,Zw,Zy,Xe,Xh,Xj,Xl,Xm,Xy,XI,XV,Wd,Wf,Wh,Wn,Wp,Wr,Wy,W8,WA,WB,WE,WF,WH,WI,WJ,WL,WN,WO,WP,WQ,WV,WW,Vc,Vs,V6,V7,V9,VA,VB,VC,VD,VG,VH,VI,VJ,VL,VV,VW,VX,VY,VZ,Ua,Uc,Ud,Ue,Uh,Uj,Uw,U2,U3,U4,U5,U6,U7,UC,UD,UR,US,Tq,Tx,Ty,T2,T9,TA,TN,S8];all_goals tactic=>exact rfl))
theorem w46 {x:Vn} (ok:x.Ok) {cl sn:Nat} (hcl:cl<2^x.F) (hs:sn≤1000):runW aA 21 [.agg x.c,I cl,I sn] []=some (nL (cU (el (cC x cl sn))),[]):=by
 have hF:=ok.F16
 have e1:=w51 x cl sn
 have e2:=aML ok hcl hs (fun p hp=>by have:=aJI ok sn p hp;omega)
 rw[aIE ok hcl]at e2
 have e3:=w63 (aMh ok (fC ok cl sn))
 generalize cU (el (cC x cl sn))=os at *
 generalize cC x cl sn=q at *
 have e2:runW aA 42 [.fn (.yield 0) [] [],.pt 2 0,.pt 3 0,.pt 4 0] [some (.loop 21 0 [.pt 1 0] .ready),some (.blk true (.cells true [.int .i64 0])),some (.blk true (.cells true x.c)),some (.blk true (.cells true [I cl])),some (.blk true (.cells true [I sn]))] =
  some (.tup [],[some (.loop 21 0 [.pt 1 0] .ready),cI q,some (.blk true (.cells true x.c)),some (.blk true (.cells true [I cl])),some (.blk true (.cells true [I sn]))]):=e2
 rw[r21 (by simp)];unfold x21;dsimp only
 (sym=>(simp[Za,Zb,Zf,Zg,Zh,Zj,Zl,Zm,Zo,Zu,Zv,Zy,ZH,ZP,ZQ,ZU,ZV,YY,Xa,Xc,Xe,Xi,Xj,Xl,Xm,Xs,Xu,Xv,Xw,Xy,XI,XJ,XK,XN,Wd,Wf,Wh,Wr,Wy,Wz,W0,W3,W4,W5,W6,W7,W8,W9,WA,WB,WC,WE,WG,WH,WI,WJ,WK,WL,WM,WN,WO,WP,WR,WS,WT,WV,WW,WY,Vc,Ve,Vf,Vg,Vh,Vi,Vs,Vu,Vv,Vw,Vx,Vy,V0,V6,V7,V9,VA,VB,VC,VD,VG,VH,VI,VJ,VL,VV,VW,VX,VY,VZ,Ua,Uc,Ud,Ue,Uh,Uj,Uw,U1,U2,U3,U4,U5,U6,U7,UC,UD,UR,US,Th,Ti,Tl,Tm,Tq,Tx,Ty,T1,T2,T5,T9,TA,Sl,Sm,Sq,Sr,Ss,Su,Sv,Sw,S8,SQ,SS,SU,SV,SW,SX,SY,e1,e2,e3];all_goals tactic=>exact rfl))
theorem aJc {x:Vn} {c:List Int} (h:aHp x c=0):kS c c.length<2^x.F:=aAm _ (fun j hj=>fR h j hj) (Nat.le_refl _)
section
variable {x:Vn} (ok:x.Ok) {c:List Int} (hc:c.length<1000000000)
include ok hc
theorem aMR (h23:runW aA 29 [.agg x.c] []=some (I 0,[])) (h0:aHp x c=0) {n:Nat} (hn:n≤100) :
 runW aA 8 [.agg x.c,nL c,I n] []=some (.tup [nL (cU (el (cC x (kS c c.length) n))),I 0],[]):=by
 have e0:=aMO ok hc h23
 have hl:=aJc h0
 rw[if_pos h0]at e0
 have e1:=w45 0 n 100
 rw[oA.2 ⟨by omega,by omega⟩]at e1
 have e3:=w46 ok hl (sn:=n) (by omega)
 generalize cU (el (cC x (kS c c.length) n))=os at *
 generalize kS c c.length=q at *
 rw[r8 (by simp)];unfold x8;dsimp only
 (sym=>(simp[Za,Zb,Zf,Zg,Zh,Zj,Zl,Zm,Zo,Zu,Zy,Z2,Z4,ZE,ZH,ZP,ZQ,ZU,ZV,ZY,Yj,Ys,YY,Xa,Xb,Xc,Xj,Xl,Xm,Xs,Xt,Xu,Xv,Xw,XK,XM,XN,Wd,Wf,Wg,Wh,Wr,Wy,Wz,W0,W4,W5,W6,W7,W8,W9,WH,WK,WL,WM,WN,WO,WP,WR,WS,Vf,Vg,Vh,Vs,Vu,Vv,Vw,Vx,Vy,V0,V6,V7,V9,VA,VB,VC,VF,VG,VH,VI,VJ,VL,VQ,VS,VV,VW,VX,VZ,Ua,Uc,Ud,Ue,Uj,Um,Ux,U1,U2,U3,U4,U5,U6,U7,U8,U9,UC,UD,UR,US,Th,Ti,Tl,Tq,Tw,Tx,Ty,Tz,T1,T2,T5,T9,TA,S8,SQ,SS,SU,SV,SW,SX,SY,e0,e1,e3];all_goals tactic=>exact rfl))
end
def fQ (x:Vn) (st:Nat→Nat):List AV:=x.c++(List.range 16).map fun k=>I (st k)
theorem eC (x:Vn) (st:Nat→Nat):(fQ x st).length=22:=by simp[fQ]
theorem kW {x:Vn} {st:Nat→Nat} {k:Nat} (h:k<16):(fQ x st)[6+k]?=some (I (st k)):=by
 rw[fQ,List.getElem?_append_right (by simp),show 6+k-x.c.length=k by simp,List.getElem?_map,List.getElem?_range h];rfl
theorem jQ {l:List AV} {o:Nat} {v:AV} (h:o<l.length):bQ l o [v]=l.set o v:=by
 rw[List.set_eq_take_append_cons_drop,if_pos h,bQ];simp
def uF (st:Nat→Nat) (k v:Nat):Nat→Nat:=fun j=>if j=k then v else st j
theorem uU {x:Vn} {st:Nat→Nat} {k v:Nat} (h:k<16):bQ (fQ x st) (6+k) [I v]=fQ x (uF st k v):=by
 rw[jQ (by rw[eC];omega)]
 apply List.ext_getElem?
 intro j
 rw[List.getElem?_set,eC]
 by_cases hj:6+k=j
 ·subst hj
  rw[if_pos rfl,if_pos (by omega),kW h,uF,if_pos rfl]
 ·rw[if_neg hj]
  by_cases h6:j<6
  ·rw[fQ,fQ,List.getElem?_append_left (by simpa using h6),List.getElem?_append_left (by simpa using h6)]
  ·by_cases h22:j<22
   ·obtain⟨i,rfl⟩:∃ i,j=6+i:=⟨j-6,by omega⟩
    rw[kW (by omega),kW (by omega),uF,if_neg (by omega)]
   ·rw[List.getElem?_eq_none (by rw[eC];omega),List.getElem?_eq_none (by rw[eC];omega)]
def addS (st:Nat→Nat) (a b:Nat):Nat→Nat:=uF st a (st a|||2^b)
def stB (x:Vn) (i:Nat):Nat→Nat:=(x.bs.take i).foldl (fun st b=>addS (addS st b.1 b.2) b.2 b.1) fun _=>0
def stP (x:Vn) (i:Nat):Nat→Nat:=(x.ps.take i).foldl (fun st p=>addS st p.2.1 p.2.2) (stB x x.bs.length)
def eH (x:Vn):Nat→Nat:=stP x x.ps.length
theorem aAJ {n:Nat} {st:Nat→Nat} {a b:Nat} (h:∀ k,st k<2^n) (hb:b<n):∀ k,addS st a b k<2^n:=by
 intro k
 unfold addS uF
 split
 ·exact zD (h a) hb
 ·exact h k
theorem aFt {x:Vn} (ok:x.Ok):∀ i k,stB x i k<2^x.F:=by
 intro i
 have:∀ (l:List (Nat×Nat)) (st:Nat→Nat),(∀ b∈l,b.1<x.F∧b.2<x.F)→(∀ k,st k<2^x.F)→∀ k,(l.foldl (fun st b=>addS (addS st b.1 b.2) b.2 b.1) st) k<2^x.F:=by
  intro l
  induction l with
  | nil=>intro st _ h;exact h
  | cons b l ih =>
    intro st hl h
    have hb:=hl b List.mem_cons_self
    exact ih _ (fun c hc=>hl c (List.mem_cons_of_mem _ hc)) (aAJ (aAJ h hb.2) hb.1)
 exact this _ _ (fun b hb=>by have:=ok.b b (List.mem_of_mem_take hb);exact⟨this.1,this.2.1⟩) (fun _=>Nat.two_pow_pos _)
theorem jO {x:Vn} (ok:x.Ok):∀ i k,stP x i k<2^x.F:=by
 intro i
 have:∀ (l:List (Nat×Nat×Nat)) (st:Nat→Nat),(∀ b∈l,b.2.2<x.F)→(∀ k,st k<2^x.F)→∀ k,(l.foldl (fun st p=>addS st p.2.1 p.2.2) st) k<2^x.F:=by
  intro l
  induction l with
  | nil=>intro st _ h;exact h
  | cons b l ih =>
    intro st hl h
    exact ih _ (fun c hc=>hl c (List.mem_cons_of_mem _ hc)) (aAJ h (hl b List.mem_cons_self))
 exact this _ _ (fun b hb=>(ok.p b (List.mem_of_mem_take hb)).2.2.1) (aFt ok _)
abbrev gL (x:Vn) (st:Nat→Nat):XH:=[some (.blk true (.cells true x.c)),some (.blk true (.cells true (fQ x st)))]
theorem aFW {x:Vn} (ok:x.Ok) {i:Nat} (hi:i<x.bs.length) :
 aW 0 [1,5,19,20,21] (execW aA 24 0 none (match aDe with | .loop _ a=>a|c=>c) (aY [1,5,19,20,21] [.pt 0 0,.pt 1 0,rB (x.bs.map bI),I x.bs.length,I (i:Nat)]) (gL x (stB x i)))=some ([.pt 0 0,.pt 1 0,rB (x.bs.map bI),I x.bs.length,I (i+1:Nat)],gL x (stB x (i+1))):=by
 obtain⟨b,hx⟩:=bU hi
 have hb:=ok.b b (List.mem_of_getElem? hx)
 have hF:=ok.F16
 have hp:=cB hF
 have a1:=eJ hi
 have a2:=eP hi (by have:=ok.nb;omega)
 have l0:=aFt ok i
 have up:stB x (i+1)=addS (addS (stB x i) b.1 b.2) b.2 b.1:=mE hx _
 rw[up]
 generalize stB x i=st at *
 have e1:=w62 (j:=b.1) (by omega)
 have e2:=w62 (j:=b.2) (by omega)
 have n1:((0:Int)≤b.1)=True:=eq_true (by omega)
 have n2:((0:Int)≤b.2)=True:=eq_true (by omega)
 have m1:((b.1:Int)<16)=True:=eq_true (by omega)
 have m2:((b.2:Int)<16)=True:=eq_true (by omega)
 have p1:(2:Nat)^b.1≤2^16:=Nat.pow_le_pow_right (by omega) (by omega)
 have p2:(2:Nat)^b.2≤2^16:=Nat.pow_le_pow_right (by omega) (by omega)
 have k1:=l0 b.1
 have k2:=l0 b.2
 have o1:=eL dK (a:=st b.1) (b:=2^b.2) (by omega) (by omega)
 have q1:=kW (x:=x) (st:=st) (k:=b.1) (by omega)
 have s1:=uU (x:=x) (st:=st) (k:=b.1) (v:=st b.1|||2^b.2) (by omega)
 have q2:=kW (x:=x) (st:=addS st b.1 b.2) (k:=b.2) (by omega)
 have r2:addS st b.1 b.2 b.2=st b.2:=by unfold addS uF;rw[if_neg (fun h=>hb.2.2 h.symm)]
 have o2:=eL dK (a:=st b.2) (b:=2^b.1) (by omega) (by omega)
 have s2:=uU (x:=x) (st:=addS st b.1 b.2) (k:=b.2) (v:=st b.2|||2^b.1) (by omega)
 rw[show uF st b.1 (st b.1|||2^b.2)=addS st b.1 b.2 from rfl]at s1
 rw[show uF (addS st b.1 b.2) b.2 (st b.2|||2^b.1)=addS (addS st b.1 b.2) b.2 b.1 by rw[addS.eq_def (addS st b.1 b.2),r2]]at s2
 rw[r2]at q2
 have z1:=eC x st
 have z2:=eC x (addS st b.1 b.2)
 have t1:(6+b.1+1≤22)=True:=eq_true (by omega)
 have t2:(6+b.2+1≤22)=True:=eq_true (by omega)
 generalize addS (addS st b.1 b.2) b.2 b.1=st2 at *
 generalize addS st b.1 b.2=st1 at *
 unfold aDe
 dsimp only
 (sym=>(simp[Za,Zb,Zc,Zd,Ze,Zf,Zh,Zi,Zl,Zm,Zu,Zv,Z1,Z2,Z7,Z8,Z9,ZH,ZI,ZK,ZL,ZM,ZN,ZO,ZR,ZS,ZU,ZV,Yb,Yh,Yi,Yk,Yo,Yt,Yx,Yy,Y9,YB,YE,YP,YX,YY,Xc,Xe,Xj,Xs,Xw,Xy,Wp,Wr,Wx,Wy,Wz,W0,W3,W4,W5,W6,W7,W9,WA,WB,WE,WF,WH,WI,WJ,WK,WL,WM,WN,WO,WP,WQ,WR,WS,WV,WW,Vc,Vf,Vg,Vh,Vj,Vk,Vl,Vm,VN,VO,VP,VQ,VR,VW,VX,VY,VZ,Ua,Uc,Ud,Ue,Uf,Ug,Uh,Uj,Un,Uo,Uq,Us,Uw,Ux,Uz,U0,U1,U2,U3,U4,U5,U6,U7,UE,Th,Ti,Tj,Tk,Tl,Tm,Tn,Tp,Tw,Tx,Tz,T1,T2,T5,T8,T9,TA,TL,TN,S7,SL,a1,a2,hx,e1,e2,n1,n2,m1,m2,o1,o2,q1,q2,s1,s2,z1,z2,t1,t2];all_goals tactic=>exact rfl))
abbrev gL1 (x:Vn) (st:Nat→Nat):XH:=[some (.blk true (.cells true (fQ x st)))]
theorem aFV {x:Vn} (ok:x.Ok) {i:Nat} (hi:i<x.ps.length) :
 aW 0 [5,55,56,57] (execW aA 24 0 none (match aDd with | .loop _ a=>a|c=>c) (aY [5,55,56,57] [.pt 0 0,rP (x.ps.map pI),I x.ps.length,I (i:Nat)]) (gL1 x (stP x i)))=some ([.pt 0 0,rP (x.ps.map pI),I x.ps.length,I (i+1:Nat)],gL1 x (stP x (i+1))):=by
 obtain⟨b,hx⟩:=bU hi
 have hb:=ok.p b (List.mem_of_getElem? hx)
 have hF:=ok.F16
 have hp:=cB hF
 have a1:=eJ hi
 have a2:=eP hi (by have:=ok.np;omega)
 have l0:=jO ok i
 have up:stP x (i+1)=addS (stP x i) b.2.1 b.2.2:=mE hx _
 rw[up]
 generalize stP x i=st at *
 have e2:=w62 (j:=b.2.2) (by omega)
 have n1:((0:Int)≤b.2.1)=True:=eq_true (by omega)
 have m1:((b.2.1:Int)<16)=True:=eq_true (by omega)
 have p2:(2:Nat)^b.2.2≤2^16:=Nat.pow_le_pow_right (by omega) (by omega)
 have k1:=l0 b.2.1
 have o1:=eL dK (a:=st b.2.1) (b:=2^b.2.2) (by omega) (by omega)
 have q1:=kW (x:=x) (st:=st) (k:=b.2.1) (by omega)
 have s1:=uU (x:=x) (st:=st) (k:=b.2.1) (v:=st b.2.1|||2^b.2.2) (by omega)
 rw[show uF st b.2.1 (st b.2.1|||2^b.2.2)=addS st b.2.1 b.2.2 from rfl]at s1
 have z1:=eC x st
 have t1:(6+b.2.1+1≤22)=True:=eq_true (by omega)
 generalize addS st b.2.1 b.2.2=st1 at *
 unfold aDd
 dsimp only
 (sym=>(simp[Za,Zb,Zc,Zd,Ze,Zf,Zg,Zh,Zk,Zl,Zm,Zu,Zv,Z1,Z2,Z7,Z8,Z9,ZH,ZI,ZK,ZL,ZM,ZN,ZO,ZR,ZS,ZU,ZV,Yb,Yh,Yi,Yk,Yo,Yt,Yx,Yy,YP,YX,YY,Xc,Xe,Xj,Xs,Xw,Xy,Wp,Wr,Wx,Wy,Wz,W0,W3,W4,W5,W6,W7,W9,WA,WE,WF,WH,WI,WJ,WK,WL,WM,WN,WO,WP,WQ,WR,WS,WV,WW,Vc,Vf,Vg,Vh,Vj,Vk,Vl,Vm,Vs,Vu,Vv,Vx,Vy,V0,VN,VO,VP,VQ,VR,VW,VX,VY,VZ,Ua,Uc,Ud,Ue,Uf,Ug,Uh,Uj,Un,Uo,Uq,Us,Uw,Ux,Uz,U0,U1,U2,U3,U4,U5,U6,U7,UE,Th,Ti,Tj,Tk,Tl,Tm,Tn,Tp,Tw,Tx,Tz,T1,T2,T5,T8,T9,TA,TL,TN,S7,SL,SQ,SS,SU,SW,SX,SY,a1,a2,hx,e2,n1,m1,o1,q1,s1,z1,t1];all_goals tactic=>exact rfl))
theorem aMj (x:Vn):fQ x (fun _=>0)=[I x.F,rB (x.bs.map bI),rP (x.ps.map pI),I x.sick,I x.nur,I x.fix,I 0,I 0,I 0,I 0,I 0,I 0,I 0,I 0,I 0,I 0,I 0,I 0,I 0,I 0,I 0,I 0]:=rfl
theorem w56 {x:Vn} (ok:x.Ok) (h23:runW aA 29 [.agg x.c] []=some (I 0,[])) :
 runW aA 24 [.agg x.c] []=some (.tup [.pt 0 0,I 0],[some (.blk true (.cells true (fQ x (eH x))))]):=by
 have rd:=fun i (hi:i<x.bs.length)=>aFW ok hi
 have rd2:=fun i (hi:i<x.ps.length)=>aFV ok hi
 have z:=Tg (n:=(x.bs.length:Int))
 have zp:=Tg (n:=(x.ps.length:Int))
 have n1:(x.bs.map bI).length=x.bs.length:=List.length_map ..
 have n2:(x.ps.map pI).length=x.ps.length:=List.length_map ..
 rw[r24 (by simp)];unfold x24;dsimp only
 sym =>
  simp[Za,Zb,Zd,Ze,Zf,Zg,Zh,Zj,Zl,Zm,Zo,Zu,Zy,Zz,Z2,Z7,ZF,ZH,ZP,ZQ,ZU,ZV,Yb,Yc,Ys,YU,YY,Xa,Xc,Xj,Xl,Xm,Xs,Xu,Xw,Wd,Wf,Wh,Wr,Wy,Wz,W0,W4,W5,W6,W7,W8,W9,WH,WK,WM,WR,WS,Vf,Vg,Vh,Vs,Vu,Vv,Vx,Vy,V0,VL,VQ,VS,VV,VW,VX,VY,VZ,Ua,Ud,Ue,Uf,Uj,Um,Us,Ux,U1,U2,U3,U4,U5,U6,U7,UC,UD,UE,UF,UG,UH,UR,US,Th,Ti,Tl,Tm,Tq,Tw,Tx,Tz,T1,T2,T9,TA,SQ,SS,SU,SW,SX,SY,h23]
  tactic =>
   unfold aDe
   rw[aI x.bs.length (fun i=>[.pt 0 0,.pt 1 0,rB (x.bs.map bI),I x.bs.length,I (i:Nat)]) (fun i=>gL x (stB x i))]
   ·rw[show stB x x.bs.length=stP x 0 from rfl]
    generalize hst:stP x 0=st
    sym =>
     simp[Za,Zb,Zf,Zh,Zl,Zm,Zu,Z2,Z7,ZF,ZH,Yb,Yc,Yt,Wy,Wz,W0,W9,VN,VQ,VS,Uf,Uy,Tg,Th,Ti,Tm,Tw,Tx,T0,T1,T2,T3,T7,T9,TA,z,zp]
     tactic =>
      unfold aDd
      rw[aI x.ps.length (fun i=>[.pt 0 0,rP (x.ps.map pI),I x.ps.length,I (i:Nat)]) (fun i=>gL1 x (stP x i))]
      ·rw[show stP x x.ps.length=eH x from rfl]
       generalize eH x=st2
       (sym=>(simp[Za,Zb,Zf,Zh,Zl,Zm,Zu,Z2,Yt,YY,Xb,Xe,Xs,Xv,Xy,XK,XM,XP,Wd,Wg,Wj,Wy,WA,WE,WF,WH,WI,WJ,WL,WN,WO,WP,WQ,WV,WW,Vc,Vs,V6,V7,V9,VA,VB,VC,VF,VG,VH,VI,VJ,VN,VQ,VS,VX,VZ,Ua,Uc,Uh,Uw,Uy,U2,U3,U4,U5,U8,U9,UC,UD,Tg,Tw,Tx,Ty,T0,T2,T3,T7,T9,TA,TN,S8,zp];all_goals tactic=>exact rfl))
      ·rw[hst]
       (sym=>(simp[Za,YA,YY,Xc,Xe,Xs,Xw,Xy,Wy,WA,WE,WF,WH,WI,WJ,WL,WN,WO,WP,WQ,WV,WW,Vc,VN,VO,VP,VW,VX,VZ,Ua,Uc,Uh,Uw,U2,U3,U4,U5,T8,TN,zp];all_goals tactic=>exact rfl))
      ·exact rd2
      ·rw[show stP x x.ps.length=eH x from rfl]
       generalize eH x=st2
       (sym=>(simp[Za,Zb,Zf,Zh,Zl,Zm,Z2,Yt,VN,VQ,VS,VT,Uy,Tg,Tw,Tx,T0,T2,T3,T9,zp];all_goals tactic=>exact rfl))
   ·rw[show stB x 0=(fun _=>0) from rfl,gL,aMj]
    (sym=>(simp[Za,YA,YY,Xc,Xe,Xs,Xw,Xy,Wy,WA,WB,WE,WF,WH,WI,WJ,WL,WN,WO,WP,WQ,WV,WW,Vc,VO,VP,VW,VX,VY,VZ,Ua,Uc,Uh,Uw,U2,U3,U4,U5,T8,TN,z];all_goals tactic=>exact rfl))
   ·exact rd
   ·generalize stB x x.bs.length=st
    (sym=>(simp[Za,Zb,Zf,Zh,Zl,Zm,Z2,Yt,VN,VQ,VS,VT,Uy,Tg,Tw,Tx,T0,T2,T3,T9,z];all_goals tactic=>exact rfl))
end Go.Proofs.YtmcbhljgkgfanaaDoor
namespace Go.Proofs.YtmcbhljgkgfanaaDoor
open Go Go.DL

def bC (a:Nat):Nat:=(el a).length
theorem oM {p q:Nat→Bool}:∀ l:List Nat,(∀ k∈l,p k=true→q k=true)→(l.filter p).length≤(l.filter q).length
 | [],_=>Nat.le_refl _
 | k::l,h=>by
   have ih:=oM l (fun j hj=>h j (List.mem_cons_of_mem _ hj))
   have hk:=h k List.mem_cons_self
   simp only[List.filter_cons]
   cases hp:p k
   ·cases hq:q k
    ·simpa using ih
    ·simp only[Bool.false_eq_true,if_false,if_true,List.length_cons];omega
   ·rw[hk hp];simpa using ih
theorem tC {p q:Nat→Bool} {i:Nat} (hp:p i=false) (hq:q i=true):∀ l:List Nat,i∈l→(∀ k∈l,p k=true→q k=true)→(l.filter p).length<(l.filter q).length
 | [],hi,_=>by simp at hi
 | k::l,hi,h=>by
   simp only[List.filter_cons]
   by_cases hk:k=i
   ·subst hk
    have:=oM l (fun j hj=>h j (List.mem_cons_of_mem _ hj))
    rw[hp,hq]
    simp only[Bool.false_eq_true,if_false,if_true,List.length_cons];omega
   ·have ih:=tC hp hq l (by rcases List.mem_cons.1 hi with rfl|h;exact absurd rfl hk;exact h) (fun j hj=>h j (List.mem_cons_of_mem _ hj))
    have hk:=h k List.mem_cons_self
    cases hp:p k
    ·cases hq:q k
     ·simpa using ih
     ·simp only[Bool.false_eq_true,if_false,if_true,List.length_cons];omega
    ·rw[hk hp];simpa using ih
def sub (a b:Nat):Prop:=∀ i,a.testBit i=true→b.testBit i=true
theorem dN (a:Nat):sub a a:=fun _ h=>h
theorem rZ {a b c:Nat} (h:sub a b) (g:sub b c):sub a c:=fun i hi=>g i (h i hi)
theorem aJY (a k:Nat):sub a (a|||2^k):=fun i hi=>by rw[fJ,hi];rfl
theorem jE {a b:Nat} (h:sub a b) (g:sub b a):a=b:=by
 apply Nat.eq_of_testBit_eq
 intro i
 rw[Bool.eq_iff_iff]
 exact⟨h i,g i⟩
theorem mK {a b:Nat} (h:sub a b):bC a≤bC b:=oM _ fun k _ hk=>h k hk
theorem aDX {a b i:Nat} (h:sub a b) (hi:i<16) (ha:a.testBit i=false) (hb:b.testBit i=true):bC a<bC b:=tC ha hb _ (List.mem_range.2 hi) fun k _ hk=>h k hk
theorem mL (a:Nat):bC a≤16:=pY a
theorem iE {a i:Nat} (ha:a<65536) (hi:a.testBit i=true):i<16:=eZ (F:=16) ha hi
theorem aAF {a b:Nat} (h:sub a b) (hb:b<65536) (hc:bC b≤bC a):a=b:=by
 refine jE h fun i hi=>?_
 cases ha:a.testBit i
 ·have:=aDX h (iE hb hi) ha hi
  omega
 ·rfl
theorem aHx {a F:Nat} (ha:a<2^F) (hF:F≤16):bC a≤F:=by
 have e:el a=(List.range F).filter (a.testBit ·):=by
  unfold el
  rw[show (16:Nat)=F+(16-F) by omega,List.range_add,List.filter_append]
  rw[(List.filter_eq_nil_iff (l:=List.map (F + ·) (List.range (16-F)))).2,List.append_nil]
  intro k hk
  rw[List.mem_map]at hk
  obtain⟨j,_,rfl⟩:=hk
  rw[xQ ha (by omega)];simp
 rw[bC,e]
 have:=List.length_filter_le (fun k=>a.testBit k) (List.range F)
 simpa using this
theorem aAG:bC 0=0:=rfl
theorem aHv {a i:Nat} (hi:i<16) (h:a.testBit i=true):0<bC a:=by
 have:=aDX (a:=0) (b:=a) (fun _ h=>by simp at h) hi (by simp) h
 omega
theorem aAE {a b:Nat} (h:∀ i,a.testBit i=true→b.testBit i=false):bC (a|||b)=bC a+bC b:=by
 unfold bC el
 rw[←tB h]
 congr 2
 funext k
 rw[Nat.testBit_or]
theorem aBN {i:Nat} (hi:i<16):bC (2^i)=1:=by
 match i,hi with
 | 0,_=>rfl
 | 1,_=>rfl
 | 2,_=>rfl
 | 3,_=>rfl
 | 4,_=>rfl
 | 5,_=>rfl
 | 6,_=>rfl
 | 7,_=>rfl
 | 8,_=>rfl
 | 9,_=>rfl
 | 10,_=>rfl
 | 11,_=>rfl
 | 12,_=>rfl
 | 13,_=>rfl
 | 14,_=>rfl
 | 15,_=>rfl
 | _+16,h=>exact absurd h (by omega)
theorem qU (i j:Nat):(2^i).testBit j=decide (i=j):=by rw[Nat.testBit_two_pow]
theorem kN {a i:Nat} (hi:i<16) (ha:a.testBit i=false):bC (a|||2^i)=bC a+1:=by
 rw[aAE,aBN hi]
 intro j hj
 rw[qU]
 have:i≠j:=fun h=>by rw[h,hj]at ha;simp at ha
 simp[this]
inductive Rch (st:Nat→Nat) (s cl:Nat):Nat→Prop
 | base {f:Nat}:s.testBit f=true→cl.testBit f=false→Rch st s cl f
 | step {a b:Nat}:Rch st s cl a→(st a).testBit b=true→cl.testBit b=false→Rch st s cl b
theorem Rch.free {st:Nat→Nat} {s cl f:Nat} (h:Rch st s cl f):cl.testBit f=false:=by cases h<;>assumption
theorem Rch.lt {st:Nat→Nat} {s cl f F:Nat} (hs:s<2^F) (hst:∀ k,st k<2^F) (h:Rch st s cl f):f<F:=by
 cases h with
 | base h _=>exact eZ hs h
 | step _ h _=>exact eZ (hst _) h
def Clo (st:Nat→Nat) (cl m:Nat):Prop:=∀ a b,m.testBit a=true→(st a).testBit b=true→cl.testBit b=false→m.testBit b=true
theorem Rch.sub {st:Nat→Nat} {s cl m f:Nat} (h0:∀ i,s.testBit i=true→cl.testBit i=false→m.testBit i=true) (hc:Clo st cl m) (h:Rch st s cl f):m.testBit f=true:=by
 induction h with
 | base h g=>exact h0 _ h g
 | step _ h g ih=>exact hc _ _ ih h g
theorem Rch.mono {st st':Nat→Nat} {s s' cl cl' f:Nat} (h0:Go.Proofs.YtmcbhljgkgfanaaDoor.sub s s') (h1:∀ k,Go.Proofs.YtmcbhljgkgfanaaDoor.sub (st k) (st' k)) (h2:Go.Proofs.YtmcbhljgkgfanaaDoor.sub cl' cl) (h:Rch st s cl f):Rch st' s' cl' f:=by
 have g:∀ i,cl.testBit i=false→cl'.testBit i=false:=fun i hi=>by
  cases h:cl'.testBit i
  ·rfl
  ·rw[h2 i h]at hi;simp at hi
 induction h with
 | base h q=>exact .base (h0 _ h) (g _ q)
 | step _ h q ih=>exact .step ih (h1 _ _ h) (g _ q)
theorem aMq {F:Nat} {M:Nat→Nat} {P:Nat→Prop} (hF:F≤16) (hl:∀ k,M k<2^F) (hm:∀ k,sub (M k) (M (k+1))) (hp:∀ k,M (k+1)=M k→P (M k)) (hk:∀ k,P (M k)→P (M (k+1))) (hfull:P (2^F-1)):P (M F):=by
 have up:∀ k,P (M k)∨k≤bC (M k):=by
  intro k
  induction k with
  | zero=>exact .inr (Nat.zero_le _)
  | succ k ih =>
    rcases ih with ih|ih
    ·exact .inl (hk k ih)
    ·by_cases e:M (k+1)=M k
     ·exact .inl (hk k (hp k e))
     ·right
      have h16:M (k+1)<65536:=Nat.lt_of_lt_of_le (hl _) (cB hF)
      by_cases hc:bC (M (k+1))≤bC (M k)
      ·exact absurd (aAF (hm k) h16 hc).symm e
      ·omega
 rcases up F with h|h
 ·exact h
 ·have e:M F=2^F-1:=by
   refine aAF ?_ ?_ ?_
   ·intro i hi
    rw[Nat.testBit_two_pow_sub_one]
    simpa using eZ (hl F) hi
   ·have:=cB hF
    have:=Nat.two_pow_pos F
    omega
   ·have:=aHx (a:=2^F-1) (F:=F) (by have:=Nat.two_pow_pos F;omega) hF
    omega
  rw[e];exact hfull
end Go.Proofs.YtmcbhljgkgfanaaDoor
namespace Go.Proofs.YtmcbhljgkgfanaaDoor
open Go Go.DL
set_option maxRecDepth 100000
set_option maxHeartbeats 4000000
theorem aFI {σ:Type} (n:Nat) (Inv:Nat→σ→Prop) (St:Nat→σ→σ→Prop) (s0:σ) (h0:Inv 0 s0) (hs:∀ i s,i<n→Inv i s→∃ s',Inv (i+1) s'∧St i s s'):∃ F:Nat→σ,F 0=s0∧(∀ i,i≤n→Inv i (F i))∧∀ i,i<n→St i (F i) (F (i+1)):=by
 induction n with
 | zero=>exact⟨fun _=>s0,rfl,fun i hi=>by obtain rfl:i=0:=(by omega);exact h0,fun i hi=>by omega⟩
 | succ n ih =>
   obtain⟨F,h1,h2,h3⟩:=ih fun i s hi=>hs i s (by omega)
   obtain⟨s',h4,h5⟩:=hs n (F n) (by omega) (h2 n (Nat.le_refl _))
   refine⟨fun i=>if i≤n then F i else s',(if_pos (Nat.zero_le n)).trans h1,fun i hi=>?_,fun i hi=>?_⟩
   ·dsimp only
    by_cases h:i≤n
    ·rw[if_pos h];exact h2 i h
    ·obtain rfl:i=n+1:=by omega
     rw[if_neg h];exact h4
   ·dsimp only
    by_cases h:i+1≤n
    ·rw[if_pos h,if_pos (by omega)];exact h3 i (by omega)
    ·obtain rfl:i=n:=by omega
     rw[if_neg h,if_pos (Nat.le_refl _)];exact h5
abbrev gV (M:Nat) (ci:Int) (l:List AV):XH:=[cI M,some (.blk true (.cells true [I ci])),some (.blk false (.cells true [.pt 3 0])),some (.blk true (.cells true l)),some (.blk false (.cells true [.fn (.func 51) [] [.pt 0 0,.pt 1 0,.pt 2 0,.pt 4 0]]))]
abbrev gX (K:Nat) (M:Nat) (ci:Int) (l:List AV):XH:=[some (.loop K 0 [.pt 1 0] .ready),some (.blk false (.cells true [.fn (.func 51) [] [.pt 2 0,.pt 3 0,.pt 4 0,.pt 1 0]])),cI M,some (.blk true (.cells true [I ci])),some (.blk false (.cells true [.pt 5 0])),some (.blk true (.cells true l))]
theorem aJG (K M:Nat) (ci:Int) (l:List AV):aEZ 6 (gX K M ci l):=by
 refine⟨fun _=>rfl,fun _ _=>rfl,fun _=>rfl,?_,?_⟩
 ·intro a e h0 h1
  (sym=>(simp[Xe,Xh,Xi,Xy,XI,XJ,WA,WF,WH,WJ,WL,WM,WN,WO,WP,WV,WW,WX,WY,Vb,Vc,Vd,Ve,VO,VP,VW,VX,VY,VZ,Ua,Ub,Uc,Uw,U1,U2,U3,U4,U5,T8,h0,h1];all_goals tactic=>exact rfl))
 ·intro a
  (sym=>(simp[Za,Xb,Xe,Xh,Xv,Xy,XI,XM,Wg,WA,WF,WH,WJ,WL,WM,WN,WO,WP,WV,WW,WX,WY,Vb,Vc,Vd,Ve,Vs,V9,VA,VB,VW,VX,VY,VZ,Ua,Ub,Uc,Uw,U1,U2,U3,U4,U5,U8,UC,S8];all_goals tactic=>exact rfl))
structure aMF (st:Nat→Nat) (cl M M' f:Nat):Prop where
 sub:sub M M'
 lt:M'<65536
 has:cl.testBit f=true∨M'.testBit f=true
 new:∀ a,M'.testBit a=true→M.testBit a=false→Rch st (2^f) cl a∧∀ b,(st a).testBit b=true→cl.testBit b=false→M'.testBit b=true
def Clr (ci:Int) (cl:Nat):Prop:=∀ f:Nat,f<16→runW aA 11 [I ci,I f] []=some (.bool (cl.testBit f),[])
def xU (l:List AV) (ci:Int) (M M' f:Nat):Prop:=runW aA 51 [I (f:Nat),.pt 0 0,.pt 1 0,.pt 2 0,.pt 4 0] (gV M ci l)=some (.tup [],gV M' ci l)
theorem aMI {l:List AV} {ci:Int} {M M' v:Nat} (h:xU l ci M M' v):Yd (gX 51 M ci l) (gX 51 M' ci l) v true:=by
 unfold xU at h
 have y:runYW aA (.fn (.yield 0) [] []) [I (v:Nat)] (gX 51 M ci l)=some (.bool true,gX 51 M' ci l):=by
  rw[gR (K:=51) (d:=x51) (site:=0) (vs:=[.pt 1 0]) rfl rfl (by rfl) rfl]
  (sym=>(simp[Za,Zb,Zf,Zg,Zh,Zj,Zl,Zm,Zu,ZH,ZP,ZQ,ZU,ZV,YY,YZ,Xe,Xh,Xs,Xt,Xv,Xy,XI,XK,Wd,Wy,Wz,W0,W3,W6,W7,W9,WA,WB,WC,WE,WF,WG,WH,WI,WJ,WK,WL,WM,WN,WO,WP,WR,WS,WT,WV,WW,WX,WY,Vb,Vc,Vd,Ve,Vf,Vg,Vh,Vi,Vs,Vu,Vv,Vw,V8,VB,VN,VW,VX,VY,VZ,Ua,Ub,Uc,Ud,Ue,Uh,Uv,Uw,U1,U2,U3,U4,U5,UP,UQ,Th,Ti,Tm,T1,T5,T9,Sl,Sm,Sn,Sp,Sz,S2,S3,S4,S8,SQ,SS,SV,SW,SX,SY,h];all_goals tactic=>exact rfl))
 intro a
 (sym=>(simp[YY,Xe,Xh,Xi,Xs,Xt,Xy,XI,XJ,Wy,W3,W6,W7,W9,WA,WB,WC,WE,WG,WH,WI,WJ,WK,WM,WN,WR,WS,WT,WV,WW,WX,WY,Vc,Vd,Ve,Vf,Vg,Vh,Vi,VW,VX,VY,VZ,Ua,Ud,Ue,Uh,Uv,Uw,U1,U2,U3,U4,U5,Sy,y];all_goals tactic=>exact rfl))
theorem aFj {st:Nat→Nat} {l:List AV} {ci:Int} {cl:Nat} {M0:Nat} (h0:M0<65536) (a:Nat) (hv:∀ M v,M<65536→sub M0 M→v∈el a→∃ M',aMF st cl M M' v∧xU l ci M M' v) :
 ∃ F:Nat→Nat,F 0=M0∧(∀ i v,(el a)[i]?=some v→xU l ci (F i) (F (i+1)) v)∧sub M0 (F (el a).length)∧F (el a).length<65536∧(∀ v∈el a,cl.testBit v=true∨(F (el a).length).testBit v=true) ∧
   (∀ b,(F (el a).length).testBit b=true→M0.testBit b=false→(∃ v∈el a,Rch st (2^v) cl b)∧∀ c,(st b).testBit c=true→cl.testBit c=false→(F (el a).length).testBit c=true):=by
 obtain⟨F,f0,f1,f2⟩:=aFI (el a).length
  (fun i M=>sub M0 M∧M<65536∧(∀ j v,j<i→(el a)[j]?=some v→cl.testBit v=true∨M.testBit v=true) ∧
   (∀ b,M.testBit b=true→M0.testBit b=false→(∃ v∈el a,Rch st (2^v) cl b)∧∀ c,(st b).testBit c=true→cl.testBit c=false→M.testBit c=true))
  (fun i M M'=>∀ v,(el a)[i]?=some v→xU l ci M M' v) M0
  ⟨dN _,h0,fun j v hj=>absurd hj (by omega),fun b h1 h2=>by rw[h1]at h2;simp at h2⟩
  (by
   rintro i M hi ⟨g1,g2,g3,g4⟩
   obtain⟨v,hx⟩:=bU hi
   have hm:=List.mem_of_getElem? hx
   obtain⟨M',p,k⟩:=hv M v g2 g1 hm
   refine⟨M',⟨rZ g1 p.sub,p.lt,?_,?_⟩,fun w hw=>by rw[hx]at hw;rw[←Option.some.inj hw];exact k⟩
   ·intro j w hj hw
    by_cases e:j=i
    ·subst e
     rw[hx]at hw
     rw[←Option.some.inj hw];exact p.has
    ·rcases g3 j w (by omega) hw with h|h
     ·exact .inl h
     ·exact .inr (p.sub _ h)
   ·intro b h1 h2
    cases hb:M.testBit b
    ·have:=p.new b h1 hb
     exact⟨⟨v,hm,this.1⟩,this.2⟩
    ·obtain⟨q1,q2⟩:=g4 b hb h2
     exact⟨q1,fun c hc hd=>p.sub _ (q2 c hc hd)⟩)
 obtain⟨e1,e2,e3,e4⟩:=f1 _ (Nat.le_refl _)
 refine⟨F,f0,fun i v hx=>f2 i (dZ hx) v hx,e1,e2,?_,e4⟩
 intro v hm
 obtain⟨j,hj⟩:=List.getElem?_of_mem hm
 exact e3 j v (dZ hj) hj
theorem aIy {st:Nat→Nat} {cl f v b:Nat} (hf:cl.testBit f=false) (hv:(st f).testBit v=true) (h:Rch st (2^v) cl b):Rch st (2^f) cl b:=by
 induction h with
 | base h g =>
   rw[qU]at h
   obtain rfl:=of_decide_eq_true h
   exact .step (.base (by rw[qU];simp) hf) hv g
 | step _ h g ih=>exact .step ih h g
theorem w84 {l:List AV} {st:Nat→Nat} {ci:Int} {cl:Nat} (hl:∀ k,k<16→l[6+k]?=some (I (st k))) (hst:∀ k,st k<65536) (hc:Clr ci cl) :
 ∀ n M f,M<65536→f<16→16≤bC M+n→∃ M',aMF st cl M M' f∧xU l ci M M' f:=by
 intro n
 induction n with
 | zero =>
   intro M f hM hf hn
   have e1:=w60 (a:=M) (j:=f) (by omega) (by omega)
   cases h:M.testBit f
   ·have:=kN hf h
    have:=mL (M|||2^f)
    omega
   ·refine⟨M,⟨dN _,hM,.inr h,fun a h1 h2=>by rw[h1]at h2;simp at h2⟩,?_⟩
    rw[h]at e1
    unfold xU
    rw[r51 (by simp)];unfold x51;dsimp only
    (sym=>(simp[Za,Zb,Zf,Zg,Zj,Zl,Zm,Zp,Zt,Zu,Zx,ZH,ZP,ZQ,ZU,ZV,ZW,YY,Xb,Xe,Xh,Xs,Xt,Xv,Xy,XI,XM,Wd,Wg,Wj,Wy,Wz,W0,W7,W8,W9,WA,WF,WH,WJ,WK,WL,WM,WN,WO,WP,WR,WS,WV,WW,WX,Vb,Vc,Vd,Vf,Vg,Vh,Vs,Vu,Vv,Vx,Vy,V0,V6,V7,V9,VA,VB,VC,VE,VG,VL,VQ,VR,VV,VW,VX,VY,VZ,Ua,Ub,Uc,Ud,Ue,Uw,U1,U2,U3,U4,U5,U8,UC,UD,Th,Ti,Tm,Tx,Ty,T2,T4,T9,TA,S8,SQ,SS,SU,SW,SX,SY,e1];all_goals tactic=>exact rfl))
 | succ n ih =>
   intro M f hM hf hn
   have e1:=w60 (a:=M) (j:=f) (by omega) (by omega)
   have e2:=hc f hf
   cases h:M.testBit f
   ·cases h2:cl.testBit f
    ·rw[h]at e1
     rw[h2]at e2
     have e3:=w62 (j:=f) (by omega)
     have hp:2^f<65536:=Nat.pow_lt_pow_of_lt (a:=2) (n:=f) (m:=16) (by omega) hf
     have o1:=eL dK (a:=M) (b:=2^f) (by omega) (Nat.lt_trans hp (by omega))
     have hM1:M|||2^f<65536:=Nat.or_lt_two_pow (n:=16) hM hp
     have hcu:=kN hf h
     obtain⟨F,f0,f1,f2,f3,f4,f5⟩:=aFj (st:=st) (l:=l) (ci:=ci) (cl:=cl) hM1 (st f) (fun M' v h1 h2 h3=>ih M' v h1 (fK.1 h3).1 (by have:=mK h2;omega))
     have ea:=rI (n:=6) (G:=fun i=>gX 51 (F i) ci l) (hst f) (fun i _=>aJG 51 _ _ _) (fun i v hx=>aMI (f1 i v hx))
     rw[f0]at ea
     have w8:=w80 (a:=st f)
     have k1:=hl f hf
     have n1:((0:Int)≤f)=True:=eq_true (by omega)
     have m1:((f:Int)<16)=True:=eq_true (by omega)
     refine⟨F (el (st f)).length,⟨rZ (aJY M f) f2,f3,.inr (f2 f (by rw[fJ];simp)),?_⟩,?_⟩
     ·intro a h3 h4
      by_cases ha:f=a
      ·subst ha
       refine⟨.base (by rw[qU];simp) h2,fun b hb hd=>?_⟩
       rcases f4 b (fK.2 ⟨iE (hst f) hb,hb⟩)with q|q
       ·rw[hd]at q;simp at q
       ·exact q
      ·obtain⟨⟨v,hv,q1⟩,q2⟩:=f5 a h3 (by rw[fJ,h4];simp[ha])
       exact⟨aIy h2 (fK.1 hv).2 q1,q2⟩
     ·unfold xU
      generalize M|||2^f=M1 at *
      generalize F (el (st f)).length=M2 at *
      have ea:runW aA 37 [.fn (.yield 0) [] [],.pt 6 0] [some (.loop 51 0 [.pt 1 0] .ready),some (.blk false (.cells true [.fn (.func 51) [] [.pt 2 0,.pt 3 0,.pt 4 0,.pt 1 0]])),cI M1,some (.blk true (.cells true [I ci])),some (.blk false (.cells true [.pt 5 0])),some (.blk true (.cells true l)),cI (st f)] =
       some (.tup [],[some (.loop 51 0 [.pt 1 0] .ready),some (.blk false (.cells true [.fn (.func 51) [] [.pt 2 0,.pt 3 0,.pt 4 0,.pt 1 0]])),cI M2,some (.blk true (.cells true [I ci])),some (.blk false (.cells true [.pt 5 0])),some (.blk true (.cells true l)),some (.blk true (.cells true [.int .i64 0]))]):=ea
      rw[r51 (by simp)];unfold x51;dsimp only
      (sym=>(simp[Za,Zb,Zc,Ze,Zf,Zg,Zh,Zi,Zj,Zl,Zm,Zp,Zr,Zu,Zx,Z1,Z2,Z7,Z8,ZH,ZI,ZK,ZL,ZN,ZO,ZP,ZQ,ZR,ZS,ZU,ZV,ZX,Yb,Yo,Yx,Yy,YP,YX,YY,Xb,Xe,Xh,Xi,Xj,Xs,Xt,Xv,Xy,XI,XJ,XM,Wd,Wg,Wj,Wp,Wx,Wy,Wz,W0,W3,W4,W6,W7,W8,W9,WA,WB,WC,WE,WF,WG,WH,WI,WJ,WK,WL,WM,WN,WO,WP,WR,WS,WT,WV,WW,WX,WY,Vb,Vc,Vd,Ve,Vf,Vg,Vh,Vi,Vj,Vk,Vl,Vm,Vs,Vu,Vv,Vx,Vy,V0,V5,V7,V9,VA,VB,VC,VE,VG,VL,VQ,VS,VV,VW,VX,VY,VZ,Ua,Ub,Uc,Ud,Ue,Uh,Uj,Un,Uo,Uq,Us,Uv,Uw,Uz,U0,U1,U2,U3,U4,U5,U6,U7,U8,UC,UD,UE,Th,Ti,Tm,Tn,Tp,Tw,Tx,Tz,T1,T2,T5,T9,TA,TL,Sl,Sm,Sq,Sr,Ss,Su,Sv,Sw,S7,S8,SL,SQ,SS,SU,SW,SX,SY,e1,e2,e3,o1,w8,k1,n1,m1,ea];all_goals tactic=>exact rfl))
    ·refine⟨M,⟨dN _,hM,.inl h2,fun a h1 h2=>by rw[h1]at h2;simp at h2⟩,?_⟩
     rw[h]at e1
     rw[h2]at e2
     unfold xU
     rw[r51 (by simp)];unfold x51;dsimp only
     (sym=>(simp[Za,Zb,Zf,Zg,Zj,Zl,Zm,Zp,Zr,Zu,Zx,ZH,ZP,ZQ,ZU,ZV,ZX,YY,Xb,Xe,Xh,Xs,Xt,Xv,Xy,XI,XM,Wd,Wg,Wj,Wy,Wz,W0,W7,W8,W9,WA,WF,WH,WJ,WK,WL,WM,WN,WO,WP,WR,WS,WV,WW,WX,Vb,Vc,Vd,Vf,Vg,Vh,Vs,Vu,Vv,Vx,Vy,V0,V6,V7,V9,VA,VB,VC,VE,VG,VL,VQ,VR,VV,VW,VX,VY,VZ,Ua,Ub,Uc,Ud,Ue,Uw,U1,U2,U3,U4,U5,U8,UC,UD,Th,Ti,Tm,Tx,Ty,T2,T4,T9,TA,S8,SQ,SS,SU,SW,SX,SY,e1,e2];all_goals tactic=>exact rfl))
   ·refine⟨M,⟨dN _,hM,.inr h,fun a h1 h2=>by rw[h1]at h2;simp at h2⟩,?_⟩
    rw[h]at e1
    unfold xU
    rw[r51 (by simp)];unfold x51;dsimp only
    (sym=>(simp[Za,Zb,Zf,Zg,Zj,Zl,Zm,Zp,Zt,Zu,Zx,ZH,ZP,ZQ,ZU,ZV,ZW,YY,Xb,Xe,Xh,Xs,Xt,Xv,Xy,XI,XM,Wd,Wg,Wj,Wy,Wz,W0,W7,W8,W9,WA,WF,WH,WJ,WK,WL,WM,WN,WO,WP,WR,WS,WV,WW,WX,Vb,Vc,Vd,Vf,Vg,Vh,Vs,Vu,Vv,Vx,Vy,V0,V6,V7,V9,VA,VB,VC,VE,VG,VL,VQ,VR,VV,VW,VX,VY,VZ,Ua,Ub,Uc,Ud,Ue,Uw,U1,U2,U3,U4,U5,U8,UC,UD,Th,Ti,Tm,Tx,Ty,T2,T4,T9,TA,S8,SQ,SS,SU,SW,SX,SY,e1];all_goals tactic=>exact rfl))
def pP (st:Nat→Nat) (cl:Nat) (m a:Nat):Nat:=if m.testBit a then m|||kY (st a) cl else m
def aLM (st:Nat→Nat) (cl:Nat) (m:Nat):Nat:=(List.range 16).foldl (pP st cl) m
def qT (st:Nat→Nat) (s cl:Nat):Nat→Nat
 | 0=>kY s cl
 | n+1=>aLM st cl (qT st s cl n)
def jT (st:Nat→Nat) (s cl:Nat):Nat:=qT st s cl 16
section
variable {st:Nat→Nat} {s cl:Nat} (hst:∀ k,st k<65536) (hs:s<65536) (hcl:cl<65536)
theorem aBj (m a:Nat):sub m (pP st cl m a):=fun i hi=>by
 unfold pP
 split
 ·rw[Nat.testBit_or,hi];rfl
 ·exact hi
include hst in
theorem aIz {m:Nat} (a:Nat) (h:m<65536):pP st cl m a<65536:=by
 unfold pP
 split
 ·exact Nat.or_lt_two_pow (n:=16) h (Nat.lt_of_le_of_lt (jB _ _) (hst a))
 ·exact h
theorem tA (l:List Nat) (m:Nat):sub m (l.foldl (pP st cl) m):=by
 induction l generalizing m with
 | nil=>exact dN _
 | cons a l ih=>exact rZ (aBj m a) (ih _)
include hst in
theorem aGW (l:List Nat) {m:Nat} (h:m<65536):l.foldl (pP st cl) m<65536:=by
 induction l generalizing m with
 | nil=>exact h
 | cons a l ih=>exact ih (aIz hst a h)
include hst hs in
theorem uO:∀ n,qT st s cl n<2^16
 | 0=>Nat.lt_of_le_of_lt (jB _ _) hs
 | n+1=>aGW hst _ (uO n)
include hcl in
theorem aGp:∀ n i,(qT st s cl n).testBit i=true→Rch st s cl i:=by
 have main:∀ (l:List Nat) (m:Nat),(∀ i,m.testBit i=true→Rch st s cl i)→∀ i,(l.foldl (pP st cl) m).testBit i=true→Rch st s cl i:=by
  intro l
  induction l with
  | nil=>intro m h;exact h
  | cons a l ih =>
    intro m h
    refine ih _ fun i hi=>?_
    unfold pP at hi
    split at hi
    ·next ha =>
     rw[Nat.testBit_or,Bool.or_eq_true]at hi
     rcases hi with hi|hi
     ·exact h i hi
     ·rw[bX (by omega)]at hi
      simp only[Bool.and_eq_true,Bool.not_eq_true']at hi
      exact .step (h a ha) hi.1 hi.2.2
    ·exact h i hi
 intro n
 induction n with
 | zero =>
   intro i hi
   rw[qT,bX (by omega)]at hi
   simp only[Bool.and_eq_true,Bool.not_eq_true']at hi
   exact .base hi.1 hi.2.2
 | succ n ih=>exact main _ _ ih
include hst hcl in
theorem aEC {m:Nat} (hm:m<65536) (h:aLM st cl m=m):Clo st cl m:=by
 intro a b ha hb hc
 have h16:=iE hm ha
 have main:∀ (l:List Nat) (m:Nat),m.testBit a=true→a∈l→(l.foldl (pP st cl) m).testBit b=true:=by
  intro l
  induction l with
  | nil=>intro m _ h;simp at h
  | cons k l ih =>
    intro m hm hk
    by_cases e:a=k
    ·subst e
     refine tA l _ b ?_
     unfold pP
     rw[if_pos hm,Nat.testBit_or,bX (by omega),hb,hc]
     have:=iE (hst a) hb
     simp;omega
    ·exact ih _ (aBj m k a hm) (by rcases List.mem_cons.1 hk with h|h;exact absurd h e;exact h)
 have:=main (List.range 16) m ha (List.mem_range.2 h16)
 rw[show (List.range 16).foldl (pP st cl) m=m from h]at this
 exact this
include hst hs hcl in
theorem lV (i:Nat):(jT st s cl).testBit i=true↔Rch st s cl i:=by
 constructor
 ·exact aGp hcl 16 i
 ·intro h
  refine h.sub (m:=jT st s cl) (fun j hj hc=>?_) ?_
  ·have:∀ n,(qT st s cl n).testBit j=true:=by
    intro n
    induction n with
    | zero =>
      rw[qT,bX (by omega),hj,hc]
      have:=iE hs hj
      simp;omega
    | succ n ih=>exact tA _ _ j ih
   exact this 16
  ·refine aMq (F:=16) (M:=qT st s cl) (P:=Clo st cl) (by omega) (uO hst hs) (fun k=>tA _ _) (fun k hk=>aEC hst hcl (uO hst hs k) hk) (fun k hk=>?_) ?_
   ·have e:qT st s cl (k+1)=qT st s cl k:=by
     have hin:∀ (l:List Nat),l.foldl (pP st cl) (qT st s cl k)=qT st s cl k:=by
      intro l
      induction l with
      | nil=>rfl
      | cons a l ih =>
        have:pP st cl (qT st s cl k) a=qT st s cl k:=by
         unfold pP
         split
         ·next ha =>
          refine jE (fun i hi=>?_) (fun i hi=>by rw[Nat.testBit_or,hi];rfl)
          rw[Nat.testBit_or,Bool.or_eq_true]at hi
          rcases hi with hi|hi
          ·exact hi
          ·rw[bX (by omega)]at hi
           simp only[Bool.and_eq_true,Bool.not_eq_true']at hi
           exact hk a i ha hi.1 hi.2.2
         ·rfl
        rw[List.foldl_cons,this,ih]
     exact hin _
    rw[e];exact hk
   ·intro a b _ hb _
    rw[Nat.testBit_two_pow_sub_one]
    simpa using iE (hst a) hb
include hst hs in
theorem aEB:jT st s cl<65536:=uO hst hs 16
end
theorem w78 {l:List AV} {st:Nat→Nat} {ci:Int} {s cl:Nat} (hl:∀ k,k<16→l[6+k]?=some (I (st k))) (h3:l[3]?=some (I s)) (hst:∀ k,st k<65536) (hs:s<65536) (hcl:cl<65536) (hc:Clr ci cl) :
 runW aA 35 [.pt 0 0,I ci] [some (.blk true (.cells true l))]=some (I (jT st s cl:Nat),[some (.blk true (.cells true l))]):=by
 obtain⟨F,f0,f1,f2,f3,f4,f5⟩:=aFj (st:=st) (l:=l) (ci:=ci) (cl:=cl) (M0:=0) (by omega) s (fun M' v h1 h2 h3=>w84 hl hst hc 16 M' v h1 (fK.1 h3).1 (by omega))
 have er:F (el s).length=jT st s cl:=by
  apply Nat.eq_of_testBit_eq
  intro i
  rw[Bool.eq_iff_iff,lV hst hs hcl]
  constructor
  ·intro h
   obtain⟨⟨v,hv,q⟩,_⟩:=f5 i h (by simp)
   refine q.mono (fun j hj=>?_) (fun _=>dN _) (dN _)
   rw[qU]at hj
   rw[←of_decide_eq_true hj];exact(fK.1 hv).2
  ·intro h
   refine h.sub (fun j hj hd=>?_) (fun a b ha hb hd=>(f5 a ha (by simp)).2 b hb hd)
   rcases f4 j (fK.2 ⟨iE hs hj,hj⟩)with q|q
   ·rw[hd]at q;simp at q
   ·exact q
 have ea:=rI (n:=6) (G:=fun i=>gX 35 (F i) ci l) hs (fun i _=>aJG 35 _ _ _) (fun i v hx=>by
  have h:=f1 i v hx
  generalize F i=M at *
  generalize F (i+1)=M' at *
  unfold xU at h
  have y:runYW aA (.fn (.yield 0) [] []) [I (v:Nat)] (gX 35 M ci l)=some (.bool true,gX 35 M' ci l):=by
   rw[gR (K:=35) (d:=x35) (site:=0) (vs:=[.pt 1 0]) rfl rfl (by rfl) rfl]
   (sym=>(simp[Za,Zb,Zf,Zg,Zh,Zj,Zl,Zm,Zu,ZH,ZP,ZQ,ZU,ZV,YY,YZ,Xe,Xh,Xs,Xt,Xv,Xy,XI,XK,Wd,Wy,Wz,W0,W3,W6,W7,W9,WA,WB,WC,WE,WF,WG,WH,WI,WJ,WK,WL,WM,WN,WO,WP,WR,WS,WT,WV,WW,WX,WY,Vb,Vc,Vd,Ve,Vf,Vg,Vh,Vi,Vs,Vu,Vv,Vw,V8,VB,VN,VW,VX,VY,VZ,Ua,Ub,Uc,Ud,Ue,Uh,Uv,Uw,U1,U2,U3,U4,U5,UP,UQ,Th,Ti,Tm,T1,T5,T9,Sl,Sm,Sn,Sp,Sz,S2,S3,S4,S8,SQ,SS,SV,SW,SX,SY,h];all_goals tactic=>exact rfl))
  intro a
  (sym=>(simp[YY,Xe,Xh,Xi,Xs,Xt,Xy,XI,XJ,Wy,W3,W6,W7,W9,WA,WB,WC,WE,WG,WH,WI,WJ,WK,WM,WN,WR,WS,WT,WV,WW,WX,WY,Vc,Vd,Ve,Vf,Vg,Vh,Vi,VW,VX,VY,VZ,Ua,Ud,Ue,Uh,Uv,Uw,U1,U2,U3,U4,U5,Sy,y];all_goals tactic=>exact rfl)))
 rw[f0]at ea
 have w8:=w80 (a:=s)
 rw[er]at ea
 generalize jT st s cl=M2 at *
 have ea:runW aA 37 [.fn (.yield 0) [] [],.pt 6 0] [some (.loop 35 0 [.pt 1 0] .ready),some (.blk false (.cells true [.fn (.func 51) [] [.pt 2 0,.pt 3 0,.pt 4 0,.pt 1 0]])),some (.blk true (.cells true [.int .i64 0])),some (.blk true (.cells true [I ci])),some (.blk false (.cells true [.pt 5 0])),some (.blk true (.cells true l)),cI s] =
  some (.tup [],[some (.loop 35 0 [.pt 1 0] .ready),some (.blk false (.cells true [.fn (.func 51) [] [.pt 2 0,.pt 3 0,.pt 4 0,.pt 1 0]])),cI M2,some (.blk true (.cells true [I ci])),some (.blk false (.cells true [.pt 5 0])),some (.blk true (.cells true l)),some (.blk true (.cells true [.int .i64 0]))]):=ea
 rw[r35 (by simp)];unfold x35;dsimp only
 (sym=>(simp[Za,Zb,Zc,Zf,Zh,Zl,Zm,Zo,Zu,Zv,Zw,Zy,Z1,Z7,ZH,ZL,ZM,ZP,ZQ,ZU,ZV,Yb,YX,YY,Xe,Xh,Xi,Xj,Xo,Xq,Xr,Xs,Xv,Xy,XI,XJ,XK,Wd,Wj,Wp,Wu,Ww,Wy,Wz,W0,W3,W4,W6,W7,W8,W9,WA,WB,WC,WE,WG,WH,WI,WJ,WK,WL,WM,WN,WO,WP,WR,WS,WT,WV,WW,WX,WY,Vb,Vc,Vd,Ve,Vf,Vg,Vh,Vi,Vs,V6,V7,V9,VA,VB,VC,VD,VG,VH,VI,VJ,VL,VV,VW,VX,VY,VZ,Ua,Ub,Uc,Ud,Ue,Uh,Uj,Ul,Us,Uv,Uw,U1,U2,U3,U4,U5,U6,U7,UC,UD,UE,UR,US,Th,Ti,Tm,Tn,Tp,Tq,Tx,Ty,T1,T2,T5,T9,TA,Sl,Sm,Sq,Sr,Ss,Su,Sv,Sw,S8,w8,h3,ea];all_goals tactic=>exact rfl))
def sB (st:Nat→Nat) (s nur cl:Nat):Bool:=decide (jT st s cl&&&nur=0)
theorem yU:∀ l:List AV,(∀ e∈l,cN e e=true)→eI l l=true
 | [],_=>by simp[eI]
 | x::l,h=>by
   have:=yU l (fun e he=>h e (List.mem_cons_of_mem _ he))
   simp[eI,this,h x List.mem_cons_self]
theorem sG:∀ l:List (List AV),(∀ e∈l,eI e e=true)→qL l l=true
 | [],_=>by simp[qL]
 | x::l,h=>by
   have:=sG l (fun e he=>h e (List.mem_cons_of_mem _ he))
   simp[qL,this,h x List.mem_cons_self]
theorem aGH (x:Vn) (st:Nat→Nat):eI (fQ x st) (fQ x st)=true:=by
 refine yU _ fun e he=>?_
 rw[fQ,List.mem_append]at he
 rcases he with he|he
 ·simp only[List.mem_cons,List.not_mem_nil,or_false]at he
  rcases he with rfl|rfl|rfl|rfl|rfl|rfl
  ·simp[cN]
  ·rw[cN]
   refine sG _ fun r hr=>?_
   rw[List.mem_map]at hr
   obtain⟨b,_,rfl⟩:=hr
   simp[eI,cN]
  ·rw[cN]
   refine sG _ fun r hr=>?_
   rw[List.mem_map]at hr
   obtain⟨b,_,rfl⟩:=hr
   simp[eI,cN]
  ·simp[cN]
  ·simp[cN]
  ·simp[cN]
 ·rw[List.mem_map]at he
  obtain⟨b,_,rfl⟩:=he
  simp[cN]
theorem w57 {l:List AV} {st:Nat→Nat} {ci:Int} {s nur cl:Nat} (hsm:eI l l=true) (hl:∀ k,k<16→l[6+k]?=some (I (st k))) (h3:l[3]?=some (I s)) (h4:l[4]?=some (I nur)) (hst:∀ k,st k<65536) (hs:s<65536) (hn:nur<65536) (hcl:cl<65536) (hc:Clr ci cl) :
 runW aA 25 [.pt 0 0,I ci] [some (.blk true (.cells true l))]=some (.bool (sB st s nur cl),[some (.blk true (.cells true l))]):=by
 have e:=w78 hl h3 hst hs hcl hc
 have hr:=aEB (cl:=cl) hst hs
 have b1:=rO dK (a:=jT st s cl) (b:=nur) (by omega) (by omega)
 unfold sB
 generalize jT st s cl=R at *
 by_cases h:R&&&nur=0
 ·have c1:(((R&&&nur:Nat):Int)=0)=True:=eq_true (by omega)
  rw[decide_eq_true h]
  rw[r25 (by simp)];unfold x25;dsimp only
  (sym=>(simp[Za,Zb,Zd,Ze,Zf,Zg,Zh,Zk,Zl,Zm,Zu,Z1,Z2,Z7,ZI,ZK,ZN,ZR,ZS,ZU,ZV,Yb,Yn,Yr,YX,YY,YZ,Xe,Xs,Xt,Xy,XK,XL,XP,Wd,We,Wj,Wy,Wz,W0,W3,W6,W7,W8,WA,WC,WE,WH,WI,WJ,WK,WL,WM,WN,WO,WP,WR,WS,WT,WV,WW,Vb,Vc,Vf,Vg,Vh,Vi,Vk,Vl,Vm,Vo,Vs,Vu,Vv,Vw,V6,V7,V9,VA,VB,VC,VD,VG,VH,VI,VJ,VL,VV,VW,VX,VZ,Ua,Ub,Uc,Ud,Ue,Uj,Um,Uq,Uw,Ux,Uz,U0,U1,U2,U3,U4,U5,UC,UD,Th,Ti,Tm,Tw,Tx,Ty,T2,T9,TA,S8,SD,SQ,SS,SV,SW,SX,SY,e,b1,h4,c1,hsm];all_goals tactic=>exact rfl))
 ·have c1:(((R&&&nur:Nat):Int)=0)=False:=eq_false (by omega)
  rw[decide_eq_false h]
  rw[r25 (by simp)];unfold x25;dsimp only
  (sym=>(simp[Za,Zb,Zd,Ze,Zf,Zg,Zh,Zk,Zl,Zm,Zu,Z1,Z2,Z7,ZI,ZK,ZN,ZR,ZS,ZU,ZV,Yb,Yn,Yr,YX,YY,YZ,Xe,Xs,Xt,Xy,XK,XL,XP,Wd,We,Wj,Wy,Wz,W0,W3,W6,W7,W8,WA,WC,WE,WH,WI,WJ,WK,WL,WM,WN,WO,WP,WR,WS,WT,WV,WW,Vb,Vc,Vf,Vg,Vh,Vi,Vk,Vl,Vm,Vo,Vs,Vu,Vv,Vw,V6,V7,V9,VA,VB,VC,VD,VG,VH,VI,VJ,VL,VV,VW,VX,VZ,Ua,Ub,Uc,Ud,Ue,Uj,Um,Uq,Uw,Uy,Uz,U0,U1,U2,U3,U4,U5,UC,UD,Th,Ti,Tm,Tw,Tx,Ty,T2,T9,TA,S8,SD,SQ,SS,SV,SW,SX,SY,e,b1,h4,c1,hsm];all_goals tactic=>exact rfl))
def bMt (b:Nat×Nat) (a c:Nat):Bool:=(b.1==a&&b.2==c)||(b.1==c&&b.2==a)
def pMt (p:Nat×Nat×Nat) (a c:Nat):Bool:=p.2.1==a&&p.2.2==c
section
variable {x:Vn} (ok:x.Ok) {a c:Nat}
include ok in
end
theorem xS (st:Nat→Nat) (u v a c:Nat):(addS st u v a).testBit c=((st a).testBit c||(u==a&&v==c)):=by
 unfold addS uF
 split
 ·next h=>subst h;rw[fJ,show (v==c)=decide (v=c) from by rw[Bool.eq_iff_iff];simp];simp
 ·next h =>
  have:(u==a)=false:=by simp;omega
  rw[this];simp
theorem wW {α:Type} {f:(Nat→Nat)→α→Nat→Nat} {m:α→Bool} {a c:Nat} (hf:∀ st y,(f st y a).testBit c=((st a).testBit c||m y)):∀ (l:List α) (st:Nat→Nat),(l.foldl f st a).testBit c=((st a).testBit c||l.any m)
 | [],st=>by simp
 | y::l,st=>by rw[List.foldl_cons,wW hf l,hf,List.any_cons,Bool.or_assoc]
theorem aHU (x:Vn) (a c:Nat):(stB x x.bs.length a).testBit c=x.bs.any fun b=>bMt b a c:=by
 unfold stB
 rw[List.take_length,wW (m:=fun b=>bMt b a c)]
 ·simp
 ·intro st y
  rw[xS,xS,bMt,Bool.or_assoc,Bool.and_comm (y.2==a)]
theorem aAh (x:Vn) (a c:Nat):(eH x a).testBit c=((x.bs.any fun b=>bMt b a c)||x.ps.any fun p=>pMt p a c):=by
 unfold eH stP
 rw[List.take_length,wW (m:=fun p=>pMt p a c),aHU]
 intro st y
 rw[xS,pMt]
def jH (a b:Int):Int:=Int.tmod a b
def lR (a b:Int):Int:=Int.tdiv a b
def aGn (z:Bool) (k:IntKind) (v:Int):Option AV:=if z then none else some (.int k v)
theorem aK (k:IntKind) (v:Int):aGn false k v=some (.int k v):=rfl
theorem aE {k:IntKind} {a b:Int}:eU .rem k a k b=aGn (decide (b=0)) k (jH a b):=by
 by_cases h:b=0<;>simp[eU,aGn,h,jH]
theorem aF {k:IntKind} {a b:Int}:eU .quo k a k b=aGn (decide (b=0)) k (k.wrap (lR a b)):=by
 by_cases h:b=0<;>simp[eU,aGn,h,lR]
theorem bZ (a b:Nat):lR (a:Int) (b:Int)=((a/b:Nat):Int):=by rw[lR,Int.tdiv_eq_ediv_of_nonneg (by omega)];exact(Int.natCast_ediv a b).symm
theorem bO (a b:Nat):jH (a:Int) (b:Int)=((a%b:Nat):Int):=by rw[jH,Int.tmod_eq_emod_of_nonneg (by omega)];exact(Int.natCast_emod a b).symm
def flC (fl:Nat→Nat→Int):List AV:=(List.range 1156).map fun k=>I (fl (k/34) (k%34))
def hO (v:AV) (fl:Nat→Nat→Int):List AV:=v::flC fl
theorem aMd (l:List Nat) (f:Nat→Int):mP (l.map fun k=>I (f k))=[]:=by
 induction l with
 | nil=>simp[mP]
 | cons a l ih=>rw[List.map_cons,mP,ih];rfl
theorem aLK (s:Nat→Option Nat) (l:List Nat) (f:Nat→Int):lA s (l.map fun k=>I (f k))=l.map fun k=>I (f k):=by
 induction l with
 | nil=>simp[lA]
 | cons a l ih=>rw[List.map_cons,lA,ih];rfl
theorem aJH (l:List Nat) (f:Nat→Int):eN (l.map fun k=>I (f k))=true:=by
 induction l with
 | nil=>simp[eN]
 | cons a l ih=>rw[List.map_cons,eN,ih];rfl
theorem aMv (b:Nat) (cs:List AV) (l:List Nat) (f:Nat→Int):uY b cs (l.map fun k=>I (f k))=l.map fun k=>I (f k):=by
 induction l with
 | nil=>simp[uY]
 | cons a l ih=>rw[List.map_cons,uY,ih];rfl
theorem aP {v:AV} {fl:Nat→Nat→Int}:mP (hO v fl)=yG v:=by rw[hO,mP,flC,aMd (List.range 1156) (fun k=>fl (k/34) (k%34)),List.append_nil]
theorem aO {s:Nat→Option Nat} {v:AV} {fl:Nat→Nat→Int}:lA s (hO v fl)=hO (rnA s v) fl:=by rw[hO,lA,flC,aLK s (List.range 1156) (fun k=>fl (k/34) (k%34))];rfl
theorem aQ {v:AV} {fl:Nat→Nat→Int}:eN (hO v fl)=gG v:=by rw[hO,eN,flC,aJH (List.range 1156) (fun k=>fl (k/34) (k%34)),Bool.and_true]
theorem aR {b:Nat} {cs:List AV} {v:AV} {fl:Nat→Nat→Int}:uY b cs (hO v fl)=hO (zM b cs v) fl:=by rw[hO,uY,flC,aMv b cs (List.range 1156) (fun k=>fl (k/34) (k%34))];rfl
theorem aZ {v:AV} {fl:Nat→Nat→Int}:(hO v fl)[0]?=some v:=rfl
theorem aIY (fl:Nat→Nat→Int):(flC fl).length=1156:=by simp[flC]
theorem aJ {v:AV} {fl:Nat→Nat→Int}:(hO v fl).length=1157:=by rw[hO,List.length_cons,aIY]
theorem bS {v:AV} {fl:Nat→Nat→Int} {a b:Nat} (ha:a<34) (hb:b<34):(hO v fl)[1+a*34+b]?=some (I (fl a b)):=by
 rw[show 1+a*34+b=(a*34+b)+1 by omega,hO,List.getElem?_cons_succ,flC,List.getElem?_map,List.getElem?_range (by omega),Option.map_some]
 rw[show (a*34+b)/34=a by omega,show (a*34+b)%34=b by omega]
def kP (fl:Nat→Nat→Int) (a b:Nat) (v:Int):Nat→Nat→Int:=fun c d=>if c=a∧d=b then v else fl c d
theorem qX {v:AV} {fl:Nat→Nat→Int} {a b:Nat} {n:Int} (ha:a<34) (hb:b<34):bQ (hO v fl) (1+a*34+b) [I n]=hO v (kP fl a b n):=by
 rw[jQ (by rw[aJ];omega)]
 apply List.ext_getElem?
 intro j
 rw[List.getElem?_set,aJ]
 by_cases hj:1+a*34+b=j
 ·subst hj
  rw[if_pos rfl,if_pos (by omega),bS ha hb,kP,if_pos ⟨rfl,rfl⟩]
 ·rw[if_neg hj]
  by_cases h0:j=0
  ·subst h0;rfl
  ·by_cases h:j<1157
   ·obtain⟨c,d,hc,hd,rfl⟩:∃ c d,c<34∧d<34∧j=1+c*34+d:=⟨(j-1)/34,(j-1)%34,by omega,by omega,by omega⟩
    rw[bS hc hd,bS hc hd,kP,if_neg (by rintro ⟨rfl,rfl⟩;exact hj rfl)]
   ·rw[List.getElem?_eq_none (by rw[aJ];omega),List.getElem?_eq_none (by rw[aJ];omega)]
def bT (st:Nat→Nat) (s nur fix a b:Nat):Int :=
 if a=32 then (if b%2=0∧b<32∧s.testBit (b/2)=true then 16 else 0)
 else if b=33 then (if a%2=1∧a<32∧nur.testBit (a/2)=true then 16 else 0)
 else if 32≤a∨32≤b then 0
 else if a%2=0∧b=a+1 then (if fix.testBit (a/2)=true then 16 else 1)
 else if a%2=1∧b%2=0∧(st (a/2)).testBit (b/2)=true then 16 else 0
structure aCW (l:List AV) (st:Nat→Nat) (F s nur fix:Nat):Prop where
 k:∀ k,k<16→l[6+k]?=some (I (st k))
 l0:l[0]?=some (I F)
 l3:l[3]?=some (I s)
 l4:l[4]?=some (I nur)
 l5:l[5]?=some (I fix)
 F16:F≤16
 st:∀ k,st k<65536
 s:s<65536
 nur:nur<65536
 fix:fix<65536
theorem aPi {x:Vn} (ok:x.Ok):aCW (fQ x (eH x)) (eH x) x.F x.sick x.nur x.fix:=by
 have hp:=cB ok.F16
 have:=ok.s
 have:=ok.n
 have:=ok.f
 exact⟨fun k hk=>kW hk,rfl,rfl,rfl,rfl,ok.F16,fun k=>Nat.lt_of_lt_of_le (jO ok _ k) hp,by omega,by omega,by omega⟩
def FlB (fl:Nat→Nat→Int):Prop:=∀ a b,0≤fl a b∧fl a b≤100
def cR (st:Nat→Nat) (s nur fix:Nat) (fl:Nat→Nat→Int) (a b:Nat):Int:=bT st s nur fix a b-fl a b+fl b a
abbrev gN (l:List AV) (fl:Nat→Nat→Int):XH:=[some (.blk false (.cells true (hO (.pt 1 0) fl))),some (.blk true (.cells true l))]
section
variable {l:List AV} {st:Nat→Nat} {F s nur fix:Nat} (h:aCW l st F s nur fix) {fl:Nat→Nat→Int} (hf:FlB fl) {a b:Nat} (ha:a<34) (hb:b<34)
include h hf ha hb
theorem aGh (c:a=32∧b%2=0∧b<32) (hv:(s).testBit (b/2)=true):runW aA 40 [.pt 0 0,I a,I b] (gN l fl)=some (I (cR st s nur fix fl a b),gN l fl):=by
 have hcap:bT st s nur fix a b=16:=by
  unfold bT
  rw[hv,if_pos c.1,if_pos ⟨c.2.1,c.2.2,rfl⟩]
 have f1:=hf a b
 have f2:=hf b a
 have hs:=h.s
 have hn:=h.nur
 have hx:=h.fix
 have hk:=h.st (a/2)
 have u1:IntKind.i64.wrap (16-fl a b)=16-fl a b:=aD (by omega) (by omega)
 have u2:IntKind.i64.wrap (16-fl a b+fl b a)=16-fl a b+fl b a:=aD (by omega) (by omega)
 have t1:jH (a:Int) 2=((a%2:Nat):Int):=bO a 2
 have t2:jH (b:Int) 2=((b%2:Nat):Int):=bO b 2
 have t3:lR (a:Int) 2=((a/2:Nat):Int):=bZ a 2
 have t4:lR (b:Int) 2=((b/2:Nat):Int):=bZ b 2
 have t5:IntKind.i64.wrap ((a/2:Nat):Int)=((a/2:Nat):Int):=aD (by omega) (by omega)
 have t6:IntKind.i64.wrap ((b/2:Nat):Int)=((b/2:Nat):Int):=aD (by omega) (by omega)
 have v1:((0:Int)≤a)=True:=eq_true (by omega)
 have v2:((a:Int)<34)=True:=eq_true (by omega)
 have v3:((0:Int)≤b)=True:=eq_true (by omega)
 have v4:((b:Int)<34)=True:=eq_true (by omega)
 have k1:=bS (v:=.pt 1 0) (fl:=fl) ha hb
 have k2:=bS (v:=.pt 1 0) (fl:=fl) hb ha
 have c_a32:((a:Int)=32)=True:=eq_true (by omega)
 have c_be:(((b%2:Nat):Int)=0)=True:=eq_true (by omega)
 have c_b32:((b:Int)<32)=True:=eq_true (by omega)
 have e:=w60 (a:=s) (j:=b/2) (by omega) (by omega)
 rw[hv]at e
 have q:=h.l3
 unfold cR
 rw[hcap]
 generalize hA:a/2=a2 at *
 generalize hB:b/2=b2 at *
 generalize hA2:a%2=a3 at *
 generalize hB2:b%2=b3 at *
 rw[r40 (by simp)];unfold x40;dsimp only
 (sym=>(simp[aE,aF,aK,aP,aO,aQ,aR,aZ,aJ,Za,Zb,Zf,Zh,Zi,Zl,Zm,Zp,Zq,Zu,Zx,Z1,Z2,Z7,Z8,ZH,ZI,ZK,ZP,ZQ,ZU,ZV,ZW,Yb,Yk,Yl,Yr,Yt,Yx,Yy,YP,YX,YY,Xe,Xs,Xt,Xy,XK,Wd,Wj,Wy,Wz,W0,W7,W8,WA,WF,WH,WJ,WK,WL,WM,WN,WO,WP,WR,WS,WV,WW,WX,Vb,Vc,Vd,Vf,Vg,Vh,Vs,V6,V7,V9,VA,VB,VC,VD,VG,VH,VI,VJ,VL,VQ,VR,VV,VW,VX,VZ,Ua,Ub,Uc,Ud,Ue,Us,Uw,Ux,Uy,U1,U2,U3,U4,U5,UC,UD,Th,Ti,Tm,Tw,Tx,Ty,T1,T2,T5,T9,TA,TL,S8,SN,u1,u2,t1,t2,t3,t4,t5,t6,v1,v2,v3,v4,k1,k2,c_a32,c_be,c_b32,e,q];all_goals tactic=>exact rfl))
theorem aGi (c:a=32∧b%2=0∧b<32) (hv:(s).testBit (b/2)=false):runW aA 40 [.pt 0 0,I a,I b] (gN l fl)=some (I (cR st s nur fix fl a b),gN l fl):=by
 have hcap:bT st s nur fix a b=0:=by
  unfold bT
  rw[hv,if_pos c.1,if_neg (by simp)]
 have f1:=hf a b
 have f2:=hf b a
 have hs:=h.s
 have hn:=h.nur
 have hx:=h.fix
 have hk:=h.st (a/2)
 have u1:IntKind.i64.wrap (0-fl a b)=0-fl a b:=aD (by omega) (by omega)
 have u2:IntKind.i64.wrap (0-fl a b+fl b a)=0-fl a b+fl b a:=aD (by omega) (by omega)
 have t1:jH (a:Int) 2=((a%2:Nat):Int):=bO a 2
 have t2:jH (b:Int) 2=((b%2:Nat):Int):=bO b 2
 have t3:lR (a:Int) 2=((a/2:Nat):Int):=bZ a 2
 have t4:lR (b:Int) 2=((b/2:Nat):Int):=bZ b 2
 have t5:IntKind.i64.wrap ((a/2:Nat):Int)=((a/2:Nat):Int):=aD (by omega) (by omega)
 have t6:IntKind.i64.wrap ((b/2:Nat):Int)=((b/2:Nat):Int):=aD (by omega) (by omega)
 have v1:((0:Int)≤a)=True:=eq_true (by omega)
 have v2:((a:Int)<34)=True:=eq_true (by omega)
 have v3:((0:Int)≤b)=True:=eq_true (by omega)
 have v4:((b:Int)<34)=True:=eq_true (by omega)
 have k1:=bS (v:=.pt 1 0) (fl:=fl) ha hb
 have k2:=bS (v:=.pt 1 0) (fl:=fl) hb ha
 have c_a32:((a:Int)=32)=True:=eq_true (by omega)
 have c_be:(((b%2:Nat):Int)=0)=True:=eq_true (by omega)
 have c_b32:((b:Int)<32)=True:=eq_true (by omega)
 have e:=w60 (a:=s) (j:=b/2) (by omega) (by omega)
 rw[hv]at e
 have q:=h.l3
 unfold cR
 rw[hcap]
 generalize hA:a/2=a2 at *
 generalize hB:b/2=b2 at *
 generalize hA2:a%2=a3 at *
 generalize hB2:b%2=b3 at *
 rw[r40 (by simp)];unfold x40;dsimp only
 (sym=>(simp[aE,aF,aK,aP,aO,aQ,aR,aZ,aJ,Za,Zb,Zf,Zh,Zi,Zl,Zm,Zp,Zq,Zu,Zx,Z1,Z2,Z7,Z8,ZH,ZI,ZK,ZP,ZQ,ZU,ZV,ZW,Yb,Yk,Yl,Yr,Yt,Yx,Yy,YP,YX,YY,Xe,Xs,Xt,Xy,XK,Wd,Wj,Wy,Wz,W0,W7,W8,WA,WF,WH,WJ,WK,WL,WM,WN,WO,WP,WR,WS,WV,WW,WX,Vb,Vc,Vd,Vf,Vg,Vh,Vs,V6,V7,V9,VA,VB,VC,VD,VG,VH,VI,VJ,VL,VQ,VR,VS,VV,VW,VX,VZ,Ua,Ub,Uc,Ud,Ue,Us,Uw,Ux,Uy,U1,U2,U3,U4,U5,UC,UD,Th,Ti,Tm,Tw,Tx,Ty,Tz,T1,T2,T5,T9,TA,TL,S8,SN,u1,u2,t1,t2,t3,t4,t5,t6,v1,v2,v3,v4,k1,k2,c_a32,c_be,c_b32,e,q];all_goals tactic=>exact rfl))
theorem aIu (c:a=32∧b%2=0∧¬b<32):runW aA 40 [.pt 0 0,I a,I b] (gN l fl)=some (I (cR st s nur fix fl a b),gN l fl):=by
 have hcap:bT st s nur fix a b=0:=by
  unfold bT
  split<;>(try split)<;>(try split)<;>(try split)<;>(try split)<;>first|rfl|(exfalso;simp at *;omega)|(exfalso;omega)
 have f1:=hf a b
 have f2:=hf b a
 have hs:=h.s
 have hn:=h.nur
 have hx:=h.fix
 have hk:=h.st (a/2)
 have u1:IntKind.i64.wrap (0-fl a b)=0-fl a b:=aD (by omega) (by omega)
 have u2:IntKind.i64.wrap (0-fl a b+fl b a)=0-fl a b+fl b a:=aD (by omega) (by omega)
 have t1:jH (a:Int) 2=((a%2:Nat):Int):=bO a 2
 have t2:jH (b:Int) 2=((b%2:Nat):Int):=bO b 2
 have t3:lR (a:Int) 2=((a/2:Nat):Int):=bZ a 2
 have t4:lR (b:Int) 2=((b/2:Nat):Int):=bZ b 2
 have t5:IntKind.i64.wrap ((a/2:Nat):Int)=((a/2:Nat):Int):=aD (by omega) (by omega)
 have t6:IntKind.i64.wrap ((b/2:Nat):Int)=((b/2:Nat):Int):=aD (by omega) (by omega)
 have v1:((0:Int)≤a)=True:=eq_true (by omega)
 have v2:((a:Int)<34)=True:=eq_true (by omega)
 have v3:((0:Int)≤b)=True:=eq_true (by omega)
 have v4:((b:Int)<34)=True:=eq_true (by omega)
 have k1:=bS (v:=.pt 1 0) (fl:=fl) ha hb
 have k2:=bS (v:=.pt 1 0) (fl:=fl) hb ha
 have c_a32:((a:Int)=32)=True:=eq_true (by omega)
 have c_be:(((b%2:Nat):Int)=0)=True:=eq_true (by omega)
 have c_b32:((b:Int)<32)=False:=eq_false (by omega)
 unfold cR
 rw[hcap]
 generalize hA:a/2=a2 at *
 generalize hB:b/2=b2 at *
 generalize hA2:a%2=a3 at *
 generalize hB2:b%2=b3 at *
 rw[r40 (by simp)];unfold x40;dsimp only
 (sym=>(simp[aE,aF,aK,aP,aO,aQ,aR,aZ,aJ,Za,Zb,Zf,Zh,Zi,Zl,Zm,Zp,Zq,Zs,Zu,Zx,Z1,Z2,Z7,Z8,ZI,ZK,ZW,ZX,Yb,Yk,Yl,Yr,Yt,Yx,Yy,YP,YX,YY,Xe,Xs,Xy,XK,Wd,Wj,Wy,Wz,W0,W8,WA,WF,WH,WJ,WL,WM,WN,WO,WP,WV,WW,WX,Vb,Vc,Vd,Vs,V6,V7,V9,VA,VB,VC,VD,VG,VH,VI,VJ,VL,VQ,VR,VS,VV,VW,VX,VZ,Ua,Ub,Uc,Ud,Ue,Us,Uw,Ux,Uy,U1,U2,U3,UC,UD,Th,Ti,Tm,Tw,Tx,Ty,Tz,T1,T2,T5,T9,TA,TL,S8,SN,u1,u2,t1,t2,t3,t4,t5,t6,v1,v2,v3,v4,k1,k2,c_a32,c_be,c_b32];all_goals tactic=>exact rfl))
theorem aIt (c:a=32∧¬b%2=0):runW aA 40 [.pt 0 0,I a,I b] (gN l fl)=some (I (cR st s nur fix fl a b),gN l fl):=by
 have hcap:bT st s nur fix a b=0:=by
  unfold bT
  split<;>(try split)<;>(try split)<;>(try split)<;>(try split)<;>first|rfl|(exfalso;simp at *;omega)|(exfalso;omega)
 have f1:=hf a b
 have f2:=hf b a
 have hs:=h.s
 have hn:=h.nur
 have hx:=h.fix
 have hk:=h.st (a/2)
 have u1:IntKind.i64.wrap (0-fl a b)=0-fl a b:=aD (by omega) (by omega)
 have u2:IntKind.i64.wrap (0-fl a b+fl b a)=0-fl a b+fl b a:=aD (by omega) (by omega)
 have t1:jH (a:Int) 2=((a%2:Nat):Int):=bO a 2
 have t2:jH (b:Int) 2=((b%2:Nat):Int):=bO b 2
 have t3:lR (a:Int) 2=((a/2:Nat):Int):=bZ a 2
 have t4:lR (b:Int) 2=((b/2:Nat):Int):=bZ b 2
 have t5:IntKind.i64.wrap ((a/2:Nat):Int)=((a/2:Nat):Int):=aD (by omega) (by omega)
 have t6:IntKind.i64.wrap ((b/2:Nat):Int)=((b/2:Nat):Int):=aD (by omega) (by omega)
 have v1:((0:Int)≤a)=True:=eq_true (by omega)
 have v2:((a:Int)<34)=True:=eq_true (by omega)
 have v3:((0:Int)≤b)=True:=eq_true (by omega)
 have v4:((b:Int)<34)=True:=eq_true (by omega)
 have k1:=bS (v:=.pt 1 0) (fl:=fl) ha hb
 have k2:=bS (v:=.pt 1 0) (fl:=fl) hb ha
 have c_a32:((a:Int)=32)=True:=eq_true (by omega)
 have c_be:(((b%2:Nat):Int)=0)=False:=eq_false (by omega)
 unfold cR
 rw[hcap]
 generalize hA:a/2=a2 at *
 generalize hB:b/2=b2 at *
 generalize hA2:a%2=a3 at *
 generalize hB2:b%2=b3 at *
 rw[r40 (by simp)];unfold x40;dsimp only
 (sym=>(simp[aE,aF,aK,aP,aO,aQ,aR,aZ,aJ,Za,Zb,Zf,Zh,Zi,Zl,Zm,Zp,Zs,Zu,Zx,Z1,Z2,Z7,Z8,ZI,ZK,ZX,Yb,Yk,Yl,Yr,Yx,Yy,YP,YX,YY,Xe,Xs,Xy,XK,Wd,Wj,Wy,Wz,W0,W8,WA,WF,WH,WJ,WL,WM,WN,WO,WP,WV,WW,WX,Vb,Vc,Vd,Vs,V6,V7,V9,VA,VB,VC,VD,VG,VH,VI,VJ,VL,VQ,VR,VS,VV,VW,VX,VZ,Ua,Ub,Uc,Ud,Ue,Us,Uw,Ux,Uy,U1,U2,U3,UC,UD,Th,Ti,Tm,Tw,Tx,Ty,Tz,T1,T2,T5,T9,TA,TL,S8,SN,u1,u2,t1,t2,t3,t4,t5,t6,v1,v2,v3,v4,k1,k2,c_a32,c_be];all_goals tactic=>exact rfl))
theorem aGf (c:a≠32∧b=33∧a%2=1∧a<32) (hv:(nur).testBit (a/2)=true):runW aA 40 [.pt 0 0,I a,I b] (gN l fl)=some (I (cR st s nur fix fl a b),gN l fl):=by
 have hcap:bT st s nur fix a b=16:=by
  unfold bT
  rw[hv,if_neg c.1,if_pos c.2.1,if_pos ⟨c.2.2.1,c.2.2.2,rfl⟩]
 have f1:=hf a b
 have f2:=hf b a
 have hs:=h.s
 have hn:=h.nur
 have hx:=h.fix
 have hk:=h.st (a/2)
 have u1:IntKind.i64.wrap (16-fl a b)=16-fl a b:=aD (by omega) (by omega)
 have u2:IntKind.i64.wrap (16-fl a b+fl b a)=16-fl a b+fl b a:=aD (by omega) (by omega)
 have t1:jH (a:Int) 2=((a%2:Nat):Int):=bO a 2
 have t2:jH (b:Int) 2=((b%2:Nat):Int):=bO b 2
 have t3:lR (a:Int) 2=((a/2:Nat):Int):=bZ a 2
 have t4:lR (b:Int) 2=((b/2:Nat):Int):=bZ b 2
 have t5:IntKind.i64.wrap ((a/2:Nat):Int)=((a/2:Nat):Int):=aD (by omega) (by omega)
 have t6:IntKind.i64.wrap ((b/2:Nat):Int)=((b/2:Nat):Int):=aD (by omega) (by omega)
 have v1:((0:Int)≤a)=True:=eq_true (by omega)
 have v2:((a:Int)<34)=True:=eq_true (by omega)
 have v3:((0:Int)≤b)=True:=eq_true (by omega)
 have v4:((b:Int)<34)=True:=eq_true (by omega)
 have k1:=bS (v:=.pt 1 0) (fl:=fl) ha hb
 have k2:=bS (v:=.pt 1 0) (fl:=fl) hb ha
 have c_a32:((a:Int)=32)=False:=eq_false (by omega)
 have c_b33:((b:Int)=33)=True:=eq_true (by omega)
 have c_ao:(((a%2:Nat):Int)=1)=True:=eq_true (by omega)
 have c_al:((a:Int)<32)=True:=eq_true (by omega)
 have e:=w60 (a:=nur) (j:=a/2) (by omega) (by omega)
 rw[hv]at e
 have q:=h.l4
 unfold cR
 rw[hcap]
 generalize hA:a/2=a2 at *
 generalize hB:b/2=b2 at *
 generalize hA2:a%2=a3 at *
 generalize hB2:b%2=b3 at *
 rw[r40 (by simp)];unfold x40;dsimp only
 (sym=>(simp[aE,aF,aK,aP,aO,aQ,aR,aZ,aJ,Za,Zb,Zf,Zh,Zi,Zl,Zm,Zp,Zq,Zu,Zx,Z1,Z2,Z7,Z8,ZH,ZI,ZK,ZP,ZQ,ZU,ZV,ZW,Yb,Yk,Yl,Yr,Yt,Yx,Yy,YP,YX,YY,Xe,Xs,Xt,Xy,XK,Wd,Wj,Wy,Wz,W0,W7,W8,WA,WF,WH,WJ,WK,WL,WM,WN,WO,WP,WR,WS,WV,WW,WX,Vb,Vc,Vd,Vf,Vg,Vh,Vs,V6,V7,V9,VA,VB,VC,VD,VG,VH,VI,VJ,VL,VQ,VR,VS,VV,VW,VX,VZ,Ua,Ub,Uc,Ud,Ue,Us,Uw,Ux,Uy,U1,U2,U3,U4,U5,UC,UD,Th,Ti,Tm,Tw,Tx,Ty,T1,T2,T5,T9,TA,TL,S8,SN,u1,u2,t1,t2,t3,t4,t5,t6,v1,v2,v3,v4,k1,k2,c_a32,c_b33,c_ao,c_al,e,q];all_goals tactic=>exact rfl))
theorem aGg (c:a≠32∧b=33∧a%2=1∧a<32) (hv:(nur).testBit (a/2)=false):runW aA 40 [.pt 0 0,I a,I b] (gN l fl)=some (I (cR st s nur fix fl a b),gN l fl):=by
 have hcap:bT st s nur fix a b=0:=by
  unfold bT
  rw[hv,if_neg c.1,if_pos c.2.1,if_neg (by simp)]
 have f1:=hf a b
 have f2:=hf b a
 have hs:=h.s
 have hn:=h.nur
 have hx:=h.fix
 have hk:=h.st (a/2)
 have u1:IntKind.i64.wrap (0-fl a b)=0-fl a b:=aD (by omega) (by omega)
 have u2:IntKind.i64.wrap (0-fl a b+fl b a)=0-fl a b+fl b a:=aD (by omega) (by omega)
 have t1:jH (a:Int) 2=((a%2:Nat):Int):=bO a 2
 have t2:jH (b:Int) 2=((b%2:Nat):Int):=bO b 2
 have t3:lR (a:Int) 2=((a/2:Nat):Int):=bZ a 2
 have t4:lR (b:Int) 2=((b/2:Nat):Int):=bZ b 2
 have t5:IntKind.i64.wrap ((a/2:Nat):Int)=((a/2:Nat):Int):=aD (by omega) (by omega)
 have t6:IntKind.i64.wrap ((b/2:Nat):Int)=((b/2:Nat):Int):=aD (by omega) (by omega)
 have v1:((0:Int)≤a)=True:=eq_true (by omega)
 have v2:((a:Int)<34)=True:=eq_true (by omega)
 have v3:((0:Int)≤b)=True:=eq_true (by omega)
 have v4:((b:Int)<34)=True:=eq_true (by omega)
 have k1:=bS (v:=.pt 1 0) (fl:=fl) ha hb
 have k2:=bS (v:=.pt 1 0) (fl:=fl) hb ha
 have c_a32:((a:Int)=32)=False:=eq_false (by omega)
 have c_b33:((b:Int)=33)=True:=eq_true (by omega)
 have c_ao:(((a%2:Nat):Int)=1)=True:=eq_true (by omega)
 have c_al:((a:Int)<32)=True:=eq_true (by omega)
 have e:=w60 (a:=nur) (j:=a/2) (by omega) (by omega)
 rw[hv]at e
 have q:=h.l4
 unfold cR
 rw[hcap]
 generalize hA:a/2=a2 at *
 generalize hB:b/2=b2 at *
 generalize hA2:a%2=a3 at *
 generalize hB2:b%2=b3 at *
 rw[r40 (by simp)];unfold x40;dsimp only
 (sym=>(simp[aE,aF,aK,aP,aO,aQ,aR,aZ,aJ,Za,Zb,Zf,Zh,Zi,Zl,Zm,Zp,Zq,Zu,Zx,Z1,Z2,Z7,Z8,ZH,ZI,ZK,ZP,ZQ,ZU,ZV,ZW,Yb,Yk,Yl,Yr,Yt,Yx,Yy,YP,YX,YY,Xe,Xs,Xt,Xy,XK,Wd,Wj,Wy,Wz,W0,W7,W8,WA,WF,WH,WJ,WK,WL,WM,WN,WO,WP,WR,WS,WV,WW,WX,Vb,Vc,Vd,Vf,Vg,Vh,Vs,V6,V7,V9,VA,VB,VC,VD,VG,VH,VI,VJ,VL,VQ,VR,VS,VV,VW,VX,VZ,Ua,Ub,Uc,Ud,Ue,Us,Uw,Ux,Uy,U1,U2,U3,U4,U5,UC,UD,Th,Ti,Tm,Tw,Tx,Ty,Tz,T1,T2,T5,T9,TA,TL,S8,SN,u1,u2,t1,t2,t3,t4,t5,t6,v1,v2,v3,v4,k1,k2,c_a32,c_b33,c_ao,c_al,e,q];all_goals tactic=>exact rfl))
theorem aIs (c:a≠32∧b=33∧a%2=1∧¬a<32):runW aA 40 [.pt 0 0,I a,I b] (gN l fl)=some (I (cR st s nur fix fl a b),gN l fl):=by
 have hcap:bT st s nur fix a b=0:=by
  unfold bT
  split<;>(try split)<;>(try split)<;>(try split)<;>(try split)<;>first|rfl|(exfalso;simp at *;omega)|(exfalso;omega)
 have f1:=hf a b
 have f2:=hf b a
 have hs:=h.s
 have hn:=h.nur
 have hx:=h.fix
 have hk:=h.st (a/2)
 have u1:IntKind.i64.wrap (0-fl a b)=0-fl a b:=aD (by omega) (by omega)
 have u2:IntKind.i64.wrap (0-fl a b+fl b a)=0-fl a b+fl b a:=aD (by omega) (by omega)
 have t1:jH (a:Int) 2=((a%2:Nat):Int):=bO a 2
 have t2:jH (b:Int) 2=((b%2:Nat):Int):=bO b 2
 have t3:lR (a:Int) 2=((a/2:Nat):Int):=bZ a 2
 have t4:lR (b:Int) 2=((b/2:Nat):Int):=bZ b 2
 have t5:IntKind.i64.wrap ((a/2:Nat):Int)=((a/2:Nat):Int):=aD (by omega) (by omega)
 have t6:IntKind.i64.wrap ((b/2:Nat):Int)=((b/2:Nat):Int):=aD (by omega) (by omega)
 have v1:((0:Int)≤a)=True:=eq_true (by omega)
 have v2:((a:Int)<34)=True:=eq_true (by omega)
 have v3:((0:Int)≤b)=True:=eq_true (by omega)
 have v4:((b:Int)<34)=True:=eq_true (by omega)
 have k1:=bS (v:=.pt 1 0) (fl:=fl) ha hb
 have k2:=bS (v:=.pt 1 0) (fl:=fl) hb ha
 have c_a32:((a:Int)=32)=False:=eq_false (by omega)
 have c_b33:((b:Int)=33)=True:=eq_true (by omega)
 have c_ao:(((a%2:Nat):Int)=1)=True:=eq_true (by omega)
 have c_al:((a:Int)<32)=False:=eq_false (by omega)
 unfold cR
 rw[hcap]
 generalize hA:a/2=a2 at *
 generalize hB:b/2=b2 at *
 generalize hA2:a%2=a3 at *
 generalize hB2:b%2=b3 at *
 rw[r40 (by simp)];unfold x40;dsimp only
 (sym=>(simp[aE,aF,aK,aP,aO,aQ,aR,aZ,aJ,Za,Zb,Zf,Zh,Zi,Zl,Zm,Zp,Zq,Zs,Zu,Zx,Z1,Z2,Z7,Z8,ZI,ZK,ZW,ZX,Yb,Yk,Yl,Yr,Yt,Yx,Yy,YP,YX,YY,Xe,Xs,Xy,XK,Wd,Wj,Wy,Wz,W0,W8,WA,WF,WH,WJ,WL,WM,WN,WO,WP,WV,WW,WX,Vb,Vc,Vd,Vs,V6,V7,V9,VA,VB,VC,VD,VG,VH,VI,VJ,VL,VQ,VR,VS,VV,VW,VX,VZ,Ua,Ub,Uc,Ud,Ue,Us,Uw,Ux,Uy,U1,U2,U3,UC,UD,Th,Ti,Tm,Tw,Tx,Ty,Tz,T1,T2,T5,T9,TA,TL,S8,SN,u1,u2,t1,t2,t3,t4,t5,t6,v1,v2,v3,v4,k1,k2,c_a32,c_b33,c_ao,c_al];all_goals tactic=>exact rfl))
theorem aIr (c:a≠32∧b=33∧¬a%2=1):runW aA 40 [.pt 0 0,I a,I b] (gN l fl)=some (I (cR st s nur fix fl a b),gN l fl):=by
 have hcap:bT st s nur fix a b=0:=by
  unfold bT
  split<;>(try split)<;>(try split)<;>(try split)<;>(try split)<;>first|rfl|(exfalso;simp at *;omega)|(exfalso;omega)
 have f1:=hf a b
 have f2:=hf b a
 have hs:=h.s
 have hn:=h.nur
 have hx:=h.fix
 have hk:=h.st (a/2)
 have u1:IntKind.i64.wrap (0-fl a b)=0-fl a b:=aD (by omega) (by omega)
 have u2:IntKind.i64.wrap (0-fl a b+fl b a)=0-fl a b+fl b a:=aD (by omega) (by omega)
 have t1:jH (a:Int) 2=((a%2:Nat):Int):=bO a 2
 have t2:jH (b:Int) 2=((b%2:Nat):Int):=bO b 2
 have t3:lR (a:Int) 2=((a/2:Nat):Int):=bZ a 2
 have t4:lR (b:Int) 2=((b/2:Nat):Int):=bZ b 2
 have t5:IntKind.i64.wrap ((a/2:Nat):Int)=((a/2:Nat):Int):=aD (by omega) (by omega)
 have t6:IntKind.i64.wrap ((b/2:Nat):Int)=((b/2:Nat):Int):=aD (by omega) (by omega)
 have v1:((0:Int)≤a)=True:=eq_true (by omega)
 have v2:((a:Int)<34)=True:=eq_true (by omega)
 have v3:((0:Int)≤b)=True:=eq_true (by omega)
 have v4:((b:Int)<34)=True:=eq_true (by omega)
 have k1:=bS (v:=.pt 1 0) (fl:=fl) ha hb
 have k2:=bS (v:=.pt 1 0) (fl:=fl) hb ha
 have c_a32:((a:Int)=32)=False:=eq_false (by omega)
 have c_b33:((b:Int)=33)=True:=eq_true (by omega)
 have c_ao:(((a%2:Nat):Int)=1)=False:=eq_false (by omega)
 unfold cR
 rw[hcap]
 generalize hA:a/2=a2 at *
 generalize hB:b/2=b2 at *
 generalize hA2:a%2=a3 at *
 generalize hB2:b%2=b3 at *
 rw[r40 (by simp)];unfold x40;dsimp only
 (sym=>(simp[aE,aF,aK,aP,aO,aQ,aR,aZ,aJ,Za,Zb,Zf,Zh,Zi,Zl,Zm,Zp,Zs,Zu,Zx,Z1,Z2,Z7,Z8,ZI,ZK,ZX,Yb,Yk,Yl,Yr,Yx,Yy,YP,YX,YY,Xe,Xs,Xy,XK,Wd,Wj,Wy,Wz,W0,W8,WA,WF,WH,WJ,WL,WM,WN,WO,WP,WV,WW,WX,Vb,Vc,Vd,Vs,V6,V7,V9,VA,VB,VC,VD,VG,VH,VI,VJ,VL,VQ,VR,VS,VV,VW,VX,VZ,Ua,Ub,Uc,Ud,Ue,Us,Uw,Ux,Uy,U1,U2,U3,UC,UD,Th,Ti,Tm,Tw,Tx,Ty,Tz,T1,T2,T5,T9,TA,TL,S8,SN,u1,u2,t1,t2,t3,t4,t5,t6,v1,v2,v3,v4,k1,k2,c_a32,c_b33,c_ao];all_goals tactic=>exact rfl))
theorem aIq (c:a≠32∧b≠33∧32≤a):runW aA 40 [.pt 0 0,I a,I b] (gN l fl)=some (I (cR st s nur fix fl a b),gN l fl):=by
 have hcap:bT st s nur fix a b=0:=by
  unfold bT
  split<;>(try split)<;>(try split)<;>(try split)<;>(try split)<;>first|rfl|(exfalso;simp at *;omega)|(exfalso;omega)
 have f1:=hf a b
 have f2:=hf b a
 have hs:=h.s
 have hn:=h.nur
 have hx:=h.fix
 have hk:=h.st (a/2)
 have u1:IntKind.i64.wrap (0-fl a b)=0-fl a b:=aD (by omega) (by omega)
 have u2:IntKind.i64.wrap (0-fl a b+fl b a)=0-fl a b+fl b a:=aD (by omega) (by omega)
 have t1:jH (a:Int) 2=((a%2:Nat):Int):=bO a 2
 have t2:jH (b:Int) 2=((b%2:Nat):Int):=bO b 2
 have t3:lR (a:Int) 2=((a/2:Nat):Int):=bZ a 2
 have t4:lR (b:Int) 2=((b/2:Nat):Int):=bZ b 2
 have t5:IntKind.i64.wrap ((a/2:Nat):Int)=((a/2:Nat):Int):=aD (by omega) (by omega)
 have t6:IntKind.i64.wrap ((b/2:Nat):Int)=((b/2:Nat):Int):=aD (by omega) (by omega)
 have v1:((0:Int)≤a)=True:=eq_true (by omega)
 have v2:((a:Int)<34)=True:=eq_true (by omega)
 have v3:((0:Int)≤b)=True:=eq_true (by omega)
 have v4:((b:Int)<34)=True:=eq_true (by omega)
 have k1:=bS (v:=.pt 1 0) (fl:=fl) ha hb
 have k2:=bS (v:=.pt 1 0) (fl:=fl) hb ha
 have c_a32:((a:Int)=32)=False:=eq_false (by omega)
 have c_b33:((b:Int)=33)=False:=eq_false (by omega)
 have c_ag:(32≤(a:Int))=True:=eq_true (by omega)
 unfold cR
 rw[hcap]
 generalize hA:a/2=a2 at *
 generalize hB:b/2=b2 at *
 generalize hA2:a%2=a3 at *
 generalize hB2:b%2=b3 at *
 rw[r40 (by simp)];unfold x40;dsimp only
 (sym=>(simp[aE,aF,aK,aP,aO,aQ,aR,aZ,aJ,Za,Zb,Zf,Zh,Zi,Zl,Zm,Zp,Zt,Zu,Zx,Z1,Z2,Z7,Z8,ZI,ZK,ZW,Yb,Yk,Yl,Yr,Yw,Yx,Yy,YP,YX,YY,Xe,Xs,Xy,XK,Wd,Wj,Wy,Wz,W0,W8,WA,WF,WH,WJ,WL,WM,WN,WO,WP,WV,WW,WX,Vb,Vc,Vd,Vs,V6,V7,V9,VA,VB,VC,VD,VG,VH,VI,VJ,VL,VQ,VR,VS,VV,VW,VX,VZ,Ua,Ub,Uc,Ud,Ue,Us,Uw,Ux,Uy,U1,U2,U3,UC,UD,Th,Ti,Tm,Tw,Tx,Ty,Tz,T1,T2,T5,T9,TA,TL,S8,SN,u1,u2,t1,t2,t3,t4,t5,t6,v1,v2,v3,v4,k1,k2,c_a32,c_b33,c_ag];all_goals tactic=>exact rfl))
theorem aIp (c:a≠32∧b≠33∧¬32≤a∧32≤b):runW aA 40 [.pt 0 0,I a,I b] (gN l fl)=some (I (cR st s nur fix fl a b),gN l fl):=by
 have hcap:bT st s nur fix a b=0:=by
  unfold bT
  split<;>(try split)<;>(try split)<;>(try split)<;>(try split)<;>first|rfl|(exfalso;simp at *;omega)|(exfalso;omega)
 have f1:=hf a b
 have f2:=hf b a
 have hs:=h.s
 have hn:=h.nur
 have hx:=h.fix
 have hk:=h.st (a/2)
 have u1:IntKind.i64.wrap (0-fl a b)=0-fl a b:=aD (by omega) (by omega)
 have u2:IntKind.i64.wrap (0-fl a b+fl b a)=0-fl a b+fl b a:=aD (by omega) (by omega)
 have t1:jH (a:Int) 2=((a%2:Nat):Int):=bO a 2
 have t2:jH (b:Int) 2=((b%2:Nat):Int):=bO b 2
 have t3:lR (a:Int) 2=((a/2:Nat):Int):=bZ a 2
 have t4:lR (b:Int) 2=((b/2:Nat):Int):=bZ b 2
 have t5:IntKind.i64.wrap ((a/2:Nat):Int)=((a/2:Nat):Int):=aD (by omega) (by omega)
 have t6:IntKind.i64.wrap ((b/2:Nat):Int)=((b/2:Nat):Int):=aD (by omega) (by omega)
 have v1:((0:Int)≤a)=True:=eq_true (by omega)
 have v2:((a:Int)<34)=True:=eq_true (by omega)
 have v3:((0:Int)≤b)=True:=eq_true (by omega)
 have v4:((b:Int)<34)=True:=eq_true (by omega)
 have k1:=bS (v:=.pt 1 0) (fl:=fl) ha hb
 have k2:=bS (v:=.pt 1 0) (fl:=fl) hb ha
 have c_a32:((a:Int)=32)=False:=eq_false (by omega)
 have c_b33:((b:Int)=33)=False:=eq_false (by omega)
 have c_ag:(32≤(a:Int))=False:=eq_false (by omega)
 have c_bg:(32≤(b:Int))=True:=eq_true (by omega)
 unfold cR
 rw[hcap]
 generalize hA:a/2=a2 at *
 generalize hB:b/2=b2 at *
 generalize hA2:a%2=a3 at *
 generalize hB2:b%2=b3 at *
 rw[r40 (by simp)];unfold x40;dsimp only
 (sym=>(simp[aE,aF,aK,aP,aO,aQ,aR,aZ,aJ,Za,Zb,Zf,Zh,Zi,Zl,Zm,Zp,Zr,Zu,Zx,Z1,Z2,Z7,Z8,ZI,ZK,ZX,Yb,Yk,Yl,Yr,Yw,Yx,Yy,YP,YX,YY,Xe,Xs,Xy,XK,Wd,Wj,Wy,Wz,W0,W8,WA,WF,WH,WJ,WL,WM,WN,WO,WP,WV,WW,WX,Vb,Vc,Vd,Vs,V6,V7,V9,VA,VB,VC,VD,VG,VH,VI,VJ,VL,VQ,VR,VS,VV,VW,VX,VZ,Ua,Ub,Uc,Ud,Ue,Us,Uw,Ux,Uy,U1,U2,U3,UC,UD,Th,Ti,Tm,Tw,Tx,Ty,Tz,T1,T2,T5,T9,TA,TL,S8,SN,u1,u2,t1,t2,t3,t4,t5,t6,v1,v2,v3,v4,k1,k2,c_a32,c_b33,c_ag,c_bg];all_goals tactic=>exact rfl))
theorem aGd (c:a≠32∧b≠33∧¬32≤a∧¬32≤b∧a%2=0∧b=a+1) (hv:(fix).testBit (a/2)=true):runW aA 40 [.pt 0 0,I a,I b] (gN l fl)=some (I (cR st s nur fix fl a b),gN l fl):=by
 have hcap:bT st s nur fix a b=16:=by
  unfold bT
  rw[hv,if_neg c.1,if_neg c.2.1,if_neg (by omega),if_pos ⟨c.2.2.2.2.1,c.2.2.2.2.2⟩,if_pos rfl]
 have f1:=hf a b
 have f2:=hf b a
 have hs:=h.s
 have hn:=h.nur
 have hx:=h.fix
 have hk:=h.st (a/2)
 have u1:IntKind.i64.wrap (16-fl a b)=16-fl a b:=aD (by omega) (by omega)
 have u2:IntKind.i64.wrap (16-fl a b+fl b a)=16-fl a b+fl b a:=aD (by omega) (by omega)
 have t1:jH (a:Int) 2=((a%2:Nat):Int):=bO a 2
 have t2:jH (b:Int) 2=((b%2:Nat):Int):=bO b 2
 have t3:lR (a:Int) 2=((a/2:Nat):Int):=bZ a 2
 have t4:lR (b:Int) 2=((b/2:Nat):Int):=bZ b 2
 have t5:IntKind.i64.wrap ((a/2:Nat):Int)=((a/2:Nat):Int):=aD (by omega) (by omega)
 have t6:IntKind.i64.wrap ((b/2:Nat):Int)=((b/2:Nat):Int):=aD (by omega) (by omega)
 have v1:((0:Int)≤a)=True:=eq_true (by omega)
 have v2:((a:Int)<34)=True:=eq_true (by omega)
 have v3:((0:Int)≤b)=True:=eq_true (by omega)
 have v4:((b:Int)<34)=True:=eq_true (by omega)
 have k1:=bS (v:=.pt 1 0) (fl:=fl) ha hb
 have k2:=bS (v:=.pt 1 0) (fl:=fl) hb ha
 have w1:IntKind.i64.wrap ((a:Int)+1)=(a:Int)+1:=aD (by omega) (by omega)
 have c_a32:((a:Int)=32)=False:=eq_false (by omega)
 have c_b33:((b:Int)=33)=False:=eq_false (by omega)
 have c_ag:(32≤(a:Int))=False:=eq_false (by omega)
 have c_bg:(32≤(b:Int))=False:=eq_false (by omega)
 have c_ae:(((a%2:Nat):Int)=0)=True:=eq_true (by omega)
 have c_ba:((b:Int)=(a:Int)+1)=True:=eq_true (by omega)
 have e:=w60 (a:=fix) (j:=a/2) (by omega) (by omega)
 rw[hv]at e
 have q:=h.l5
 unfold cR
 rw[hcap]
 generalize hA:a/2=a2 at *
 generalize hB:b/2=b2 at *
 generalize hA2:a%2=a3 at *
 generalize hB2:b%2=b3 at *
 rw[r40 (by simp)];unfold x40;dsimp only
 (sym=>(simp[aE,aF,aK,aP,aO,aQ,aR,aZ,aJ,Za,Zb,Zf,Zh,Zi,Zl,Zm,Zp,Zq,Zr,Zu,Zx,Z1,Z2,Z7,Z8,ZH,ZI,ZK,ZP,ZQ,ZU,ZV,ZW,ZX,Yb,Yk,Yl,Yr,Yw,Yx,Yy,YP,YX,YY,Xe,Xs,Xt,Xy,XK,Wd,Wj,Wy,Wz,W0,W7,W8,WA,WF,WH,WJ,WK,WL,WM,WN,WO,WP,WR,WS,WV,WW,WX,Vb,Vc,Vd,Vf,Vg,Vh,Vs,V6,V7,V9,VA,VB,VC,VD,VG,VH,VI,VJ,VL,VQ,VR,VS,VV,VW,VX,VZ,Ua,Ub,Uc,Ud,Ue,Us,Uw,Ux,Uy,U1,U2,U3,U4,U5,UC,UD,Th,Ti,Tm,Tw,Tx,Ty,T1,T2,T5,T9,TA,TL,S8,SN,u1,u2,t1,t2,t3,t4,t5,t6,v1,v2,v3,v4,k1,k2,w1,c_a32,c_b33,c_ag,c_bg,c_ae,c_ba,e,q];all_goals tactic=>exact rfl))
theorem aGe (c:a≠32∧b≠33∧¬32≤a∧¬32≤b∧a%2=0∧b=a+1) (hv:(fix).testBit (a/2)=false):runW aA 40 [.pt 0 0,I a,I b] (gN l fl)=some (I (cR st s nur fix fl a b),gN l fl):=by
 have hcap:bT st s nur fix a b=1:=by
  unfold bT
  rw[hv,if_neg c.1,if_neg c.2.1,if_neg (by omega),if_pos ⟨c.2.2.2.2.1,c.2.2.2.2.2⟩,if_neg (by simp)]
 have f1:=hf a b
 have f2:=hf b a
 have hs:=h.s
 have hn:=h.nur
 have hx:=h.fix
 have hk:=h.st (a/2)
 have u1:IntKind.i64.wrap (1-fl a b)=1-fl a b:=aD (by omega) (by omega)
 have u2:IntKind.i64.wrap (1-fl a b+fl b a)=1-fl a b+fl b a:=aD (by omega) (by omega)
 have t1:jH (a:Int) 2=((a%2:Nat):Int):=bO a 2
 have t2:jH (b:Int) 2=((b%2:Nat):Int):=bO b 2
 have t3:lR (a:Int) 2=((a/2:Nat):Int):=bZ a 2
 have t4:lR (b:Int) 2=((b/2:Nat):Int):=bZ b 2
 have t5:IntKind.i64.wrap ((a/2:Nat):Int)=((a/2:Nat):Int):=aD (by omega) (by omega)
 have t6:IntKind.i64.wrap ((b/2:Nat):Int)=((b/2:Nat):Int):=aD (by omega) (by omega)
 have v1:((0:Int)≤a)=True:=eq_true (by omega)
 have v2:((a:Int)<34)=True:=eq_true (by omega)
 have v3:((0:Int)≤b)=True:=eq_true (by omega)
 have v4:((b:Int)<34)=True:=eq_true (by omega)
 have k1:=bS (v:=.pt 1 0) (fl:=fl) ha hb
 have k2:=bS (v:=.pt 1 0) (fl:=fl) hb ha
 have w1:IntKind.i64.wrap ((a:Int)+1)=(a:Int)+1:=aD (by omega) (by omega)
 have c_a32:((a:Int)=32)=False:=eq_false (by omega)
 have c_b33:((b:Int)=33)=False:=eq_false (by omega)
 have c_ag:(32≤(a:Int))=False:=eq_false (by omega)
 have c_bg:(32≤(b:Int))=False:=eq_false (by omega)
 have c_ae:(((a%2:Nat):Int)=0)=True:=eq_true (by omega)
 have c_ba:((b:Int)=(a:Int)+1)=True:=eq_true (by omega)
 have e:=w60 (a:=fix) (j:=a/2) (by omega) (by omega)
 rw[hv]at e
 have q:=h.l5
 unfold cR
 rw[hcap]
 generalize hA:a/2=a2 at *
 generalize hB:b/2=b2 at *
 generalize hA2:a%2=a3 at *
 generalize hB2:b%2=b3 at *
 rw[r40 (by simp)];unfold x40;dsimp only
 (sym=>(simp[aE,aF,aK,aP,aO,aQ,aR,aZ,aJ,Za,Zb,Zf,Zh,Zi,Zl,Zm,Zp,Zq,Zr,Zu,Zx,Z1,Z2,Z7,Z8,ZH,ZI,ZK,ZP,ZQ,ZU,ZV,ZW,ZX,Yb,Yk,Yl,Yr,Yw,Yx,Yy,YP,YX,YY,Xe,Xs,Xt,Xy,XK,Wd,Wj,Wy,Wz,W0,W7,W8,WA,WF,WH,WJ,WK,WL,WM,WN,WO,WP,WR,WS,WV,WW,WX,Vb,Vc,Vd,Vf,Vg,Vh,Vs,V6,V7,V9,VA,VB,VC,VD,VG,VH,VI,VJ,VL,VQ,VR,VS,VV,VW,VX,VZ,Ua,Ub,Uc,Ud,Ue,Us,Uw,Ux,Uy,U1,U2,U3,U4,U5,UC,UD,Th,Ti,Tm,Tw,Tx,Ty,Tz,T1,T2,T5,T9,TA,TL,S8,SN,u1,u2,t1,t2,t3,t4,t5,t6,v1,v2,v3,v4,k1,k2,w1,c_a32,c_b33,c_ag,c_bg,c_ae,c_ba,e,q];all_goals tactic=>exact rfl))
theorem aIo (c:a≠32∧b≠33∧¬32≤a∧¬32≤b∧a%2=0∧¬b=a+1):runW aA 40 [.pt 0 0,I a,I b] (gN l fl)=some (I (cR st s nur fix fl a b),gN l fl):=by
 have hcap:bT st s nur fix a b=0:=by
  unfold bT
  split<;>(try split)<;>(try split)<;>(try split)<;>(try split)<;>first|rfl|(exfalso;simp at *;omega)|(exfalso;omega)
 have f1:=hf a b
 have f2:=hf b a
 have hs:=h.s
 have hn:=h.nur
 have hx:=h.fix
 have hk:=h.st (a/2)
 have u1:IntKind.i64.wrap (0-fl a b)=0-fl a b:=aD (by omega) (by omega)
 have u2:IntKind.i64.wrap (0-fl a b+fl b a)=0-fl a b+fl b a:=aD (by omega) (by omega)
 have t1:jH (a:Int) 2=((a%2:Nat):Int):=bO a 2
 have t2:jH (b:Int) 2=((b%2:Nat):Int):=bO b 2
 have t3:lR (a:Int) 2=((a/2:Nat):Int):=bZ a 2
 have t4:lR (b:Int) 2=((b/2:Nat):Int):=bZ b 2
 have t5:IntKind.i64.wrap ((a/2:Nat):Int)=((a/2:Nat):Int):=aD (by omega) (by omega)
 have t6:IntKind.i64.wrap ((b/2:Nat):Int)=((b/2:Nat):Int):=aD (by omega) (by omega)
 have v1:((0:Int)≤a)=True:=eq_true (by omega)
 have v2:((a:Int)<34)=True:=eq_true (by omega)
 have v3:((0:Int)≤b)=True:=eq_true (by omega)
 have v4:((b:Int)<34)=True:=eq_true (by omega)
 have k1:=bS (v:=.pt 1 0) (fl:=fl) ha hb
 have k2:=bS (v:=.pt 1 0) (fl:=fl) hb ha
 have w1:IntKind.i64.wrap ((a:Int)+1)=(a:Int)+1:=aD (by omega) (by omega)
 have c_a32:((a:Int)=32)=False:=eq_false (by omega)
 have c_b33:((b:Int)=33)=False:=eq_false (by omega)
 have c_ag:(32≤(a:Int))=False:=eq_false (by omega)
 have c_bg:(32≤(b:Int))=False:=eq_false (by omega)
 have c_ae:(((a%2:Nat):Int)=0)=True:=eq_true (by omega)
 have c_ba:((b:Int)=(a:Int)+1)=False:=eq_false (by omega)
 have c_ao:(((a%2:Nat):Int)=1)=False:=eq_false (by omega)
 unfold cR
 rw[hcap]
 generalize hA:a/2=a2 at *
 generalize hB:b/2=b2 at *
 generalize hA2:a%2=a3 at *
 generalize hB2:b%2=b3 at *
 rw[r40 (by simp)];unfold x40;dsimp only
 (sym=>(simp[aE,aF,aK,aP,aO,aQ,aR,aZ,aJ,Za,Zb,Zf,Zh,Zi,Zl,Zm,Zp,Zq,Zr,Zs,Zu,Zx,Z1,Z2,Z7,Z8,ZI,ZK,ZW,ZX,Yb,Yk,Yl,Yr,Yw,Yx,Yy,YP,YX,YY,Xe,Xs,Xy,XK,Wd,Wj,Wy,Wz,W0,W8,WA,WF,WH,WJ,WL,WM,WN,WO,WP,WV,WW,WX,Vb,Vc,Vd,Vs,V6,V7,V9,VA,VB,VC,VD,VG,VH,VI,VJ,VL,VQ,VS,VV,VW,VX,VZ,Ua,Ub,Uc,Ud,Ue,Us,Uw,Ux,Uy,U1,U2,U3,UC,UD,Th,Ti,Tm,Tw,Tx,Ty,Tz,T1,T2,T5,T9,TA,TL,S8,SN,u1,u2,t1,t2,t3,t4,t5,t6,v1,v2,v3,v4,k1,k2,w1,c_a32,c_b33,c_ag,c_bg,c_ae,c_ba,c_ao];all_goals tactic=>exact rfl))
theorem aGb (c:a≠32∧b≠33∧¬32≤a∧¬32≤b∧a%2=1∧b%2=0) (hv:(st (a/2)).testBit (b/2)=true):runW aA 40 [.pt 0 0,I a,I b] (gN l fl)=some (I (cR st s nur fix fl a b),gN l fl):=by
 have hcap:bT st s nur fix a b=16:=by
  unfold bT
  rw[hv,if_neg c.1,if_neg c.2.1,if_neg (by omega),if_neg (by omega),if_pos ⟨c.2.2.2.2.1,c.2.2.2.2.2,rfl⟩]
 have f1:=hf a b
 have f2:=hf b a
 have hs:=h.s
 have hn:=h.nur
 have hx:=h.fix
 have hk:=h.st (a/2)
 have u1:IntKind.i64.wrap (16-fl a b)=16-fl a b:=aD (by omega) (by omega)
 have u2:IntKind.i64.wrap (16-fl a b+fl b a)=16-fl a b+fl b a:=aD (by omega) (by omega)
 have t1:jH (a:Int) 2=((a%2:Nat):Int):=bO a 2
 have t2:jH (b:Int) 2=((b%2:Nat):Int):=bO b 2
 have t3:lR (a:Int) 2=((a/2:Nat):Int):=bZ a 2
 have t4:lR (b:Int) 2=((b/2:Nat):Int):=bZ b 2
 have t5:IntKind.i64.wrap ((a/2:Nat):Int)=((a/2:Nat):Int):=aD (by omega) (by omega)
 have t6:IntKind.i64.wrap ((b/2:Nat):Int)=((b/2:Nat):Int):=aD (by omega) (by omega)
 have v1:((0:Int)≤a)=True:=eq_true (by omega)
 have v2:((a:Int)<34)=True:=eq_true (by omega)
 have v3:((0:Int)≤b)=True:=eq_true (by omega)
 have v4:((b:Int)<34)=True:=eq_true (by omega)
 have k1:=bS (v:=.pt 1 0) (fl:=fl) ha hb
 have k2:=bS (v:=.pt 1 0) (fl:=fl) hb ha
 have c_a32:((a:Int)=32)=False:=eq_false (by omega)
 have c_b33:((b:Int)=33)=False:=eq_false (by omega)
 have c_ag:(32≤(a:Int))=False:=eq_false (by omega)
 have c_bg:(32≤(b:Int))=False:=eq_false (by omega)
 have c_ae:(((a%2:Nat):Int)=0)=False:=eq_false (by omega)
 have c_ao:(((a%2:Nat):Int)=1)=True:=eq_true (by omega)
 have c_be:(((b%2:Nat):Int)=0)=True:=eq_true (by omega)
 have e:=w60 (a:=st (a/2)) (j:=b/2) (by omega) (by omega)
 rw[hv]at e
 have q:=h.k (a/2) (by omega)
 have v5:((0:Int)≤((a/2:Nat):Int))=True:=eq_true (by omega)
 have v6:(((a/2:Nat):Int)<16)=True:=eq_true (by omega)
 unfold cR
 rw[hcap]
 generalize hA:a/2=a2 at *
 generalize hB:b/2=b2 at *
 generalize hA2:a%2=a3 at *
 generalize hB2:b%2=b3 at *
 rw[r40 (by simp)];unfold x40;dsimp only
 (sym=>(simp[aE,aF,aK,aP,aO,aQ,aR,aZ,aJ,Za,Zb,Zf,Zh,Zi,Zl,Zm,Zp,Zq,Zr,Zs,Zu,Zx,Z1,Z2,Z7,Z8,ZH,ZI,ZK,ZP,ZQ,ZU,ZV,ZW,ZX,Yb,Yk,Yl,Yr,Yw,Yx,Yy,YP,YX,YY,Xe,Xs,Xt,Xy,XK,Wd,Wj,Wy,Wz,W0,W7,W8,WA,WF,WH,WJ,WK,WL,WM,WN,WO,WP,WR,WS,WV,WW,WX,Vb,Vc,Vd,Vf,Vg,Vh,Vs,V6,V7,V9,VA,VB,VC,VD,VG,VH,VI,VJ,VL,VQ,VR,VS,VV,VW,VX,VZ,Ua,Ub,Uc,Ud,Ue,Us,Uw,Ux,Uy,U1,U2,U3,U4,U5,UC,UD,Th,Ti,Tm,Tw,Tx,Ty,T1,T2,T5,T9,TA,TL,S8,SL,SN,u1,u2,t1,t2,t3,t4,t5,t6,v1,v2,v3,v4,k1,k2,c_a32,c_b33,c_ag,c_bg,c_ae,c_ao,c_be,e,q,v5,v6];all_goals tactic=>exact rfl))
theorem aGc (c:a≠32∧b≠33∧¬32≤a∧¬32≤b∧a%2=1∧b%2=0) (hv:(st (a/2)).testBit (b/2)=false):runW aA 40 [.pt 0 0,I a,I b] (gN l fl)=some (I (cR st s nur fix fl a b),gN l fl):=by
 have hcap:bT st s nur fix a b=0:=by
  unfold bT
  rw[hv,if_neg c.1,if_neg c.2.1,if_neg (by omega),if_neg (by omega),if_neg (by simp)]
 have f1:=hf a b
 have f2:=hf b a
 have hs:=h.s
 have hn:=h.nur
 have hx:=h.fix
 have hk:=h.st (a/2)
 have u1:IntKind.i64.wrap (0-fl a b)=0-fl a b:=aD (by omega) (by omega)
 have u2:IntKind.i64.wrap (0-fl a b+fl b a)=0-fl a b+fl b a:=aD (by omega) (by omega)
 have t1:jH (a:Int) 2=((a%2:Nat):Int):=bO a 2
 have t2:jH (b:Int) 2=((b%2:Nat):Int):=bO b 2
 have t3:lR (a:Int) 2=((a/2:Nat):Int):=bZ a 2
 have t4:lR (b:Int) 2=((b/2:Nat):Int):=bZ b 2
 have t5:IntKind.i64.wrap ((a/2:Nat):Int)=((a/2:Nat):Int):=aD (by omega) (by omega)
 have t6:IntKind.i64.wrap ((b/2:Nat):Int)=((b/2:Nat):Int):=aD (by omega) (by omega)
 have v1:((0:Int)≤a)=True:=eq_true (by omega)
 have v2:((a:Int)<34)=True:=eq_true (by omega)
 have v3:((0:Int)≤b)=True:=eq_true (by omega)
 have v4:((b:Int)<34)=True:=eq_true (by omega)
 have k1:=bS (v:=.pt 1 0) (fl:=fl) ha hb
 have k2:=bS (v:=.pt 1 0) (fl:=fl) hb ha
 have c_a32:((a:Int)=32)=False:=eq_false (by omega)
 have c_b33:((b:Int)=33)=False:=eq_false (by omega)
 have c_ag:(32≤(a:Int))=False:=eq_false (by omega)
 have c_bg:(32≤(b:Int))=False:=eq_false (by omega)
 have c_ae:(((a%2:Nat):Int)=0)=False:=eq_false (by omega)
 have c_ao:(((a%2:Nat):Int)=1)=True:=eq_true (by omega)
 have c_be:(((b%2:Nat):Int)=0)=True:=eq_true (by omega)
 have e:=w60 (a:=st (a/2)) (j:=b/2) (by omega) (by omega)
 rw[hv]at e
 have q:=h.k (a/2) (by omega)
 have v5:((0:Int)≤((a/2:Nat):Int))=True:=eq_true (by omega)
 have v6:(((a/2:Nat):Int)<16)=True:=eq_true (by omega)
 unfold cR
 rw[hcap]
 generalize hA:a/2=a2 at *
 generalize hB:b/2=b2 at *
 generalize hA2:a%2=a3 at *
 generalize hB2:b%2=b3 at *
 rw[r40 (by simp)];unfold x40;dsimp only
 (sym=>(simp[aE,aF,aK,aP,aO,aQ,aR,aZ,aJ,Za,Zb,Zf,Zh,Zi,Zl,Zm,Zp,Zq,Zr,Zs,Zu,Zx,Z1,Z2,Z7,Z8,ZH,ZI,ZK,ZP,ZQ,ZU,ZV,ZW,ZX,Yb,Yk,Yl,Yr,Yw,Yx,Yy,YP,YX,YY,Xe,Xs,Xt,Xy,XK,Wd,Wj,Wy,Wz,W0,W7,W8,WA,WF,WH,WJ,WK,WL,WM,WN,WO,WP,WR,WS,WV,WW,WX,Vb,Vc,Vd,Vf,Vg,Vh,Vs,V6,V7,V9,VA,VB,VC,VD,VG,VH,VI,VJ,VL,VQ,VS,VV,VW,VX,VZ,Ua,Ub,Uc,Ud,Ue,Us,Uw,Ux,Uy,U1,U2,U3,U4,U5,UC,UD,Th,Ti,Tm,Tw,Tx,Ty,Tz,T1,T2,T5,T9,TA,TL,S8,SL,SN,u1,u2,t1,t2,t3,t4,t5,t6,v1,v2,v3,v4,k1,k2,c_a32,c_b33,c_ag,c_bg,c_ae,c_ao,c_be,e,q,v5,v6];all_goals tactic=>exact rfl))
theorem aIn (c:a≠32∧b≠33∧¬32≤a∧¬32≤b∧a%2=1∧¬b%2=0):runW aA 40 [.pt 0 0,I a,I b] (gN l fl)=some (I (cR st s nur fix fl a b),gN l fl):=by
 have hcap:bT st s nur fix a b=0:=by
  unfold bT
  split<;>(try split)<;>(try split)<;>(try split)<;>(try split)<;>first|rfl|(exfalso;simp at *;omega)|(exfalso;omega)
 have f1:=hf a b
 have f2:=hf b a
 have hs:=h.s
 have hn:=h.nur
 have hx:=h.fix
 have hk:=h.st (a/2)
 have u1:IntKind.i64.wrap (0-fl a b)=0-fl a b:=aD (by omega) (by omega)
 have u2:IntKind.i64.wrap (0-fl a b+fl b a)=0-fl a b+fl b a:=aD (by omega) (by omega)
 have t1:jH (a:Int) 2=((a%2:Nat):Int):=bO a 2
 have t2:jH (b:Int) 2=((b%2:Nat):Int):=bO b 2
 have t3:lR (a:Int) 2=((a/2:Nat):Int):=bZ a 2
 have t4:lR (b:Int) 2=((b/2:Nat):Int):=bZ b 2
 have t5:IntKind.i64.wrap ((a/2:Nat):Int)=((a/2:Nat):Int):=aD (by omega) (by omega)
 have t6:IntKind.i64.wrap ((b/2:Nat):Int)=((b/2:Nat):Int):=aD (by omega) (by omega)
 have v1:((0:Int)≤a)=True:=eq_true (by omega)
 have v2:((a:Int)<34)=True:=eq_true (by omega)
 have v3:((0:Int)≤b)=True:=eq_true (by omega)
 have v4:((b:Int)<34)=True:=eq_true (by omega)
 have k1:=bS (v:=.pt 1 0) (fl:=fl) ha hb
 have k2:=bS (v:=.pt 1 0) (fl:=fl) hb ha
 have c_a32:((a:Int)=32)=False:=eq_false (by omega)
 have c_b33:((b:Int)=33)=False:=eq_false (by omega)
 have c_ag:(32≤(a:Int))=False:=eq_false (by omega)
 have c_bg:(32≤(b:Int))=False:=eq_false (by omega)
 have c_ae:(((a%2:Nat):Int)=0)=False:=eq_false (by omega)
 have c_ao:(((a%2:Nat):Int)=1)=True:=eq_true (by omega)
 have c_be:(((b%2:Nat):Int)=0)=False:=eq_false (by omega)
 unfold cR
 rw[hcap]
 generalize hA:a/2=a2 at *
 generalize hB:b/2=b2 at *
 generalize hA2:a%2=a3 at *
 generalize hB2:b%2=b3 at *
 rw[r40 (by simp)];unfold x40;dsimp only
 (sym=>(simp[aE,aF,aK,aP,aO,aQ,aR,aZ,aJ,Za,Zb,Zf,Zh,Zi,Zl,Zm,Zp,Zq,Zr,Zs,Zu,Zx,Z1,Z2,Z7,Z8,ZI,ZK,ZW,ZX,Yb,Yk,Yl,Yr,Yw,Yx,Yy,YP,YX,YY,Xe,Xs,Xy,XK,Wd,Wj,Wy,Wz,W0,W8,WA,WF,WH,WJ,WL,WM,WN,WO,WP,WV,WW,WX,Vb,Vc,Vd,Vs,V6,V7,V9,VA,VB,VC,VD,VG,VH,VI,VJ,VL,VQ,VS,VV,VW,VX,VZ,Ua,Ub,Uc,Ud,Ue,Us,Uw,Ux,Uy,U1,U2,U3,UC,UD,Th,Ti,Tm,Tw,Tx,Ty,Tz,T1,T2,T5,T9,TA,TL,S8,SN,u1,u2,t1,t2,t3,t4,t5,t6,v1,v2,v3,v4,k1,k2,c_a32,c_b33,c_ag,c_bg,c_ae,c_ao,c_be];all_goals tactic=>exact rfl))
theorem w89:runW aA 40 [.pt 0 0,I a,I b] (gN l fl)=some (I (cR st s nur fix fl a b),gN l fl):=by
 by_cases p1:a=32
 ·by_cases p2:b%2=0
  ·by_cases p3:b<32
   ·cases hv:s.testBit (b/2)
    ·exact aGi h hf ha hb (by omega) hv
    ·exact aGh h hf ha hb (by omega) hv
   ·exact aIu h hf ha hb (by omega)
  ·exact aIt h hf ha hb (by omega)
 ·by_cases p2:b=33
  ·by_cases p3:a%2=1
   ·by_cases p4:a<32
    ·cases hv:nur.testBit (a/2)
     ·exact aGg h hf ha hb (by omega) hv
     ·exact aGf h hf ha hb (by omega) hv
    ·exact aIs h hf ha hb (by omega)
   ·exact aIr h hf ha hb (by omega)
  ·by_cases p3:32≤a
   ·exact aIq h hf ha hb (by omega)
   ·by_cases p4:32≤b
    ·exact aIp h hf ha hb (by omega)
    ·by_cases p5:a%2=0
     ·by_cases p6:b=a+1
      ·cases hv:fix.testBit (a/2)
       ·exact aGe h hf ha hb (by omega) hv
       ·exact aGd h hf ha hb (by omega) hv
      ·exact aIo h hf ha hb (by omega)
     ·by_cases p6:b%2=0
      ·cases hv:(st (a/2)).testBit (b/2)
       ·exact aGc h hf ha hb (by omega) hv
       ·exact aGb h hf ha hb (by omega) hv
      ·exact aIn h hf ha hb (by omega)
end
def aAv (m:Nat→Bool):List AV:=(List.range 34).map fun k=>.bool (m k)
def fI (m:Nat→Bool) (a:Nat):Nat→Bool:=fun c=>if c=a then true else m c
theorem dA {m:Nat→Bool}:(aAv m).length=34:=by simp[aAv]
theorem pR {m:Nat→Bool} {a:Nat} (ha:a<34):(aAv m)[a]?=some (.bool (m a)):=by
 rw[aAv,List.getElem?_map,List.getElem?_range ha];rfl
theorem aIL {m:Nat→Bool} {a:Nat} (ha:a<34):bQ (aAv m) a [.bool true]=aAv (fI m a):=by
 rw[jQ (by rw[dA];omega)]
 apply List.ext_getElem?
 intro j
 rw[List.getElem?_set,dA]
 by_cases hj:a=j
 ·subst hj
  rw[if_pos rfl,if_pos ha,pR ha,fI,if_pos rfl]
 ·rw[if_neg hj]
  by_cases h:j<34
  ·rw[pR h,pR h,fI,if_neg (by omega)]
  ·rw[List.getElem?_eq_none (by rw[dA];omega),List.getElem?_eq_none (by rw[dA];omega)]
def aCR (m:Nat→Bool):Nat:=((List.range 34).filter m).length
theorem aJf (m:Nat→Bool):aCR m≤34:=by
 have:=List.length_filter_le m (List.range 34)
 simpa [aCR]using this
def aAg (m m':Nat→Bool):Prop:=∀ c,m c=true→m' c=true
theorem aEn (m:Nat→Bool):aAg m m:=fun _ h=>h
theorem vQ {m m' m'':Nat→Bool} (h:aAg m m') (g:aAg m' m''):aAg m m'':=fun c hc=>g c (h c hc)
theorem nB (m:Nat→Bool) (a:Nat):aAg m (fI m a):=fun c hc=>by unfold fI;split<;>first|rfl|exact hc
theorem aES {m m':Nat→Bool} (h:aAg m m'):aCR m≤aCR m':=oM _ fun k _ hk=>h k hk
theorem aBI {m:Nat→Bool} {a:Nat} (ha:a<34) (h:m a=false):aCR m<aCR (fI m a) :=
 tC h (by simp[fI]) _ (List.mem_range.2 ha) fun k _ hk=>nB m a k hk
def push (fl:Nat→Nat→Int) (a b:Nat):Nat→Nat→Int:=if 0<fl b a then kP fl b a (fl b a-1) else kP fl a b (fl a b+1)
section
variable (cap:Nat→Nat→Int)
def vX (fl:Nat→Nat→Int) (a b:Nat):Int:=cap a b-fl a b+fl b a
inductive Aug (fl:Nat→Nat→Int):(Nat→Bool)→Nat→(Nat→Nat→Int)→Prop
 | sink {m:Nat→Bool}:Aug fl m 33 fl
 | step {m:Nat→Bool} {a b:Nat} {fl':Nat→Nat→Int}:m a=false→a<33→b<34→0<vX cap fl a b→Aug fl (fI m a) b fl'→Aug fl m a (push fl' a b)
variable {cap}
theorem Aug.mono {fl fl':Nat→Nat→Int} {m m':Nat→Bool} {a:Nat} (h:Aug cap fl m a fl') (hs:aAg m' m):Aug cap fl m' a fl':=by
 induction h generalizing m' with
 | sink=>exact .sink
 | @step m a b fl' h1 h2 h3 h4 _ ih =>
   refine .step ?_ h2 h3 h4 (ih ?_)
   ·cases h:m' a
    ·rfl
    ·rw[hs _ h]at h1;simp at h1
   ·intro c hc
    unfold fI at hc ⊢
    split
    ·rfl
    ·next hn=>rw[if_neg hn]at hc;exact hs c hc
theorem aED {fl:Nat→Nat→Int} {a b c d:Nat} (h1:¬(c=a∧d=b)) (h2:¬(c=b∧d=a)):push fl a b c d=fl c d:=by
 unfold push
 split
 ·unfold kP;rw[if_neg h2]
 ·unfold kP;rw[if_neg h1]
theorem Aug.free {fl fl':Nat→Nat→Int} {m:Nat→Bool} {a:Nat} (h:Aug cap fl m a fl'):a=33∨m a=false:=by
 cases h with
 | sink=>exact .inl rfl
 | step h _ _ _ _=>exact .inr h
theorem Aug.same {fl fl':Nat→Nat→Int} {m:Nat→Bool} {a:Nat} (h:Aug cap fl m a fl') (h33:m 33=false):∀ c d,m c=true∨m d=true→fl' c d=fl c d:=by
 induction h with
 | sink=>exact fun _ _ _=>rfl
 | @step m a b fl' h1 h2 h3 h4 h5 ih =>
   intro c d hcd
   have hb:=h5.free
   have n33:fI m a 33=false:=by unfold fI;rw[if_neg (by omega)];exact h33
   have hmb:m b=false:=by
    rcases hb with rfl|hb
    ·exact h33
    ·cases e:m b
     ·rfl
     ·rw[nB m a b e]at hb;simp at hb
   rw[aED,ih n33 c d]
   ·rcases hcd with h|h
    ·exact .inl (nB m a c h)
    ·exact .inr (nB m a d h)
   ·rintro ⟨rfl,rfl⟩
    rcases hcd with h|h
    ·rw[h]at h1;simp at h1
    ·rw[h]at hmb;simp at hmb
   ·rintro ⟨rfl,rfl⟩
    rcases hcd with h|h
    ·rw[h]at hmb;simp at hmb
    ·rw[h]at h1;simp at h1
structure aCX (cap:Nat→Nat→Int) (fl:Nat→Nat→Int) (m m':Nat→Bool) (a:Nat):Prop where
 sub:aAg m m'
 has:m' a=true
 last:m' 33=false
 new:∀ c,m' c=true→m c=false→∀ b,b<34→0<vX cap fl c b→m' b=true
end
abbrev gK (m:Nat→Bool) (fl:Nat→Nat→Int) (l:List AV):XH:=[some (.blk true (.cells true (aAv m))),some (.blk false (.cells true [.pt 2 0])),some (.blk false (.cells true (hO (.pt 3 0) fl))),some (.blk true (.cells true l)),some (.blk false (.cells true [.fn (.func 39) [] [.pt 0 0,.pt 1 0,.pt 4 0]]))]
abbrev sK (a i:Nat):List AV:=[I (a:Nat),.pt 0 0,.pt 1 0,.pt 4 0,I (i:Nat)]
section
variable {l:List AV} {st:Nat→Nat} {F s nur fix:Nat} (h:aCW l st F s nur fix) {fl:Nat→Nat→Int} (hf:FlB fl) {m:Nat→Bool} {a i:Nat} (ha:a<34) (hi:i<34)
include hi in
theorem aFR (hm:m i=true):aW 5 [0,1,2,3,11] (execW aA 39 5 none (match gJ with | .loop _ a=>a|c=>c) (aY [0,1,2,3,11] (sK a i)) (gK m fl l))=some (sK a (i+1),gK m fl l):=by
 have a1:((i:Int)<34)=True:=eq_true (by omega)
 have a2:IntKind.i64.wrap ((i:Int)+1)=(i:Int)+1:=aD (by omega) (by omega)
 have v1:((0:Int)≤i)=True:=eq_true (by omega)
 have k1:=pR (m:=m) hi
 rw[hm]at k1
 unfold gJ
 dsimp only
 (sym=>(simp[aP,aO,aQ,aR,aZ,aJ,Za,Zb,Zf,Zg,Zh,Zj,Zl,Zm,Zp,Zt,Zu,Zx,Z2,Z8,ZH,ZW,Yk,Yt,Yx,Yy,YP,YY,Xe,Xh,Xs,Xy,XI,XP,Wy,Wz,W0,WA,WF,WH,WJ,WL,WM,WN,WO,WP,WV,WW,WX,Vb,Vc,Vd,Vs,Vu,Vv,Vx,Vy,Vz,VN,VO,VP,VQ,VR,VW,VX,VY,VZ,Ua,Ub,Uc,Us,Uw,Ux,U1,U2,U3,U4,U5,U8,U9,Th,Ti,Tm,Tw,Tx,Tz,T0,T1,T2,T3,T7,T8,T9,TA,TL,TM,S8,SN,SQ,SS,SU,SW,SX,SY,a1,a2,v1,k1];all_goals tactic=>exact rfl))
include h hf ha hi in
theorem aFQ (hm:m i=false) (hr:cR st s nur fix fl a i≤0):aW 5 [0,1,2,3,11] (execW aA 39 5 none (match gJ with | .loop _ a=>a|c=>c) (aY [0,1,2,3,11] (sK a i)) (gK m fl l))=some (sK a (i+1),gK m fl l):=by
 have a1:((i:Int)<34)=True:=eq_true (by omega)
 have a2:IntKind.i64.wrap ((i:Int)+1)=(i:Int)+1:=aD (by omega) (by omega)
 have v1:((0:Int)≤i)=True:=eq_true (by omega)
 have k1:=pR (m:=m) hi
 have e:=w89 h hf ha hi
 rw[hm]at k1
 generalize cR st s nur fix fl a i=r at *
 have c1:(r≤0)=True:=eq_true hr
 unfold gJ
 dsimp only
 (sym=>(simp[aP,aO,aQ,aR,aZ,aJ,Za,Zb,Zf,Zg,Zh,Zj,Zl,Zm,Zp,Zr,Zt,Zu,Zx,Z2,Z8,ZH,ZP,ZQ,ZU,ZV,ZW,ZX,Yk,Yt,Yu,Yx,Yy,YP,YY,Xe,Xh,Xs,Xy,XI,XP,Wy,Wz,W0,W3,W6,W7,W9,WA,WB,WC,WE,WF,WG,WH,WI,WJ,WK,WL,WM,WN,WO,WP,WR,WS,WT,WV,WW,WX,Vb,Vc,Vd,Vf,Vg,Vh,Vi,Vs,Vu,Vv,Vx,Vy,Vz,VN,VO,VP,VQ,VR,VW,VX,VY,VZ,Ua,Ub,Uc,Ud,Ue,Uh,Us,Uw,Ux,U1,U2,U3,U4,U5,U8,U9,Th,Ti,Tm,Tw,Tx,Tz,T0,T1,T2,T3,T7,T8,T9,TA,TL,TM,S8,SN,SQ,SS,SU,SW,SX,SY,a1,a2,v1,k1,e,c1];all_goals tactic=>exact rfl))
include h hf ha hi in
theorem aFP {m':Nat→Bool} (hm:m i=false) (hr:0<cR st s nur fix fl a i) (hk:runW aA 39 [I (i:Nat),.pt 0 0,.pt 1 0,.pt 4 0] (gK m fl l)=some (.bool false,gK m' fl l)) :
 aW 5 [0,1,2,3,11] (execW aA 39 5 none (match gJ with | .loop _ a=>a|c=>c) (aY [0,1,2,3,11] (sK a i)) (gK m fl l))=some (sK a (i+1),gK m' fl l):=by
 have a1:((i:Int)<34)=True:=eq_true (by omega)
 have a2:IntKind.i64.wrap ((i:Int)+1)=(i:Int)+1:=aD (by omega) (by omega)
 have v1:((0:Int)≤i)=True:=eq_true (by omega)
 have k1:=pR (m:=m) hi
 have e:=w89 h hf ha hi
 rw[hm]at k1
 generalize cR st s nur fix fl a i=r at *
 have c1:(r≤0)=False:=eq_false (by omega)
 unfold gJ
 dsimp only
 (sym=>(simp[aP,aO,aQ,aR,aZ,aJ,Za,Zb,Zf,Zg,Zh,Zj,Zl,Zm,Zp,Zr,Zu,Zx,Z2,Z4,Z8,ZH,ZP,ZQ,ZU,ZV,ZX,ZY,Yk,Yt,Yu,Yx,Yy,YP,YY,Xe,Xh,Xs,Xt,Xy,XI,XP,Wy,Wz,W0,W3,W6,W7,W9,WA,WB,WC,WE,WF,WG,WH,WI,WJ,WK,WL,WM,WN,WO,WP,WR,WS,WT,WV,WW,WX,Vb,Vc,Vd,Vf,Vg,Vh,Vi,Vs,Vu,Vv,Vx,Vy,Vz,VN,VO,VP,VQ,VR,VW,VX,VY,VZ,Ua,Ub,Uc,Ud,Ue,Uh,Un,Us,Uv,Uw,Ux,Uy,U1,U2,U3,U4,U5,U8,U9,Th,Ti,Tm,Tw,Tx,Tz,T0,T1,T2,T3,T7,T8,T9,TA,TL,TM,S8,SN,SQ,SS,SU,SW,SX,SY,a1,a2,v1,k1,e,c1,hk];all_goals tactic=>exact rfl))
include h hf ha hi in
theorem aKw {m':Nat→Bool} {fl1:Nat→Nat→Int} (hf1:FlB fl1) (hm:m i=false) (hr:0<cR st s nur fix fl a i) (hk:runW aA 39 [I (i:Nat),.pt 0 0,.pt 1 0,.pt 4 0] (gK m fl l)=some (.bool true,gK m' fl1 l)):∃ e hh,
 execW aA 39 5 none (match gJ with | .loop _ a=>a|c=>c) (aY [0,1,2,3,11] (sK a i)) (gK m fl l)=some (.ret,e,hh)∧bL none [(5,none)] false 5 (some (.ret,e,hh))=some (.bool true,gK m' (push fl1 a i) l):=by
 have a1:((i:Int)<34)=True:=eq_true (by omega)
 have a3:((a:Int)<34)=True:=eq_true (by omega)
 have v1:((0:Int)≤i)=True:=eq_true (by omega)
 have v2:((0:Int)≤a)=True:=eq_true (by omega)
 have k1:=pR (m:=m) hi
 have e:=w89 h hf ha hi
 have f1:=hf1 i a
 have f2:=hf1 a i
 rw[hm]at k1
 have n1:=bS (v:=.pt 3 0) (fl:=fl1) hi ha
 have n2:=bS (v:=.pt 3 0) (fl:=fl1) ha hi
 have s1:=qX (v:=.pt 3 0) (fl:=fl1) (n:=fl1 i a-1) hi ha
 have s2:=qX (v:=.pt 3 0) (fl:=fl1) (n:=fl1 a i+1) ha hi
 have t1:(1+i*34+a+1≤1157)=True:=eq_true (by omega)
 have t2:(1+a*34+i+1≤1157)=True:=eq_true (by omega)
 unfold push
 generalize cR st s nur fix fl a i=r at *
 have c1:(r≤0)=False:=eq_false (by omega)
 by_cases hp:0<fl1 i a
 ·rw[if_pos hp]
  have c2:(0<fl1 i a)=True:=eq_true hp
  have u:IntKind.i64.wrap (fl1 i a-1)=fl1 i a-1:=aD (by omega) (by omega)
  generalize kP fl1 i a (fl1 i a-1)=fl2 at *
  refine jS ?_ ?_
  ·unfold gJ;dsimp only; (sym=>(simp[aP,aO,aQ,aR,aZ,aJ,Za,Zb,Zc,Zf,Zg,Zh,Zi,Zj,Zl,Zm,Zp,Zr,Zu,Zx,Z1,Z2,Z4,Z7,Z8,ZH,ZI,ZK,ZL,ZN,ZO,ZP,ZQ,ZU,ZV,ZX,ZY,Yb,Yl,Yt,Yu,Yv,Yx,Yy,YP,YX,YY,Xe,Xh,Xj,Xs,Xt,Xy,XI,XP,Wp,Wx,Wy,Wz,W0,W3,W6,W7,W9,WA,WB,WC,WE,WG,WH,WI,WJ,WK,WM,WN,WR,WS,WT,WV,WW,WX,Vc,Vd,Vf,Vg,Vh,Vi,Vj,Vs,Vu,Vv,Vx,Vy,Vz,VN,VQ,VR,VS,VU,VW,VX,VY,VZ,Ua,Ud,Ue,Uh,Uj,Um,Un,Uo,Us,Uv,Uw,Ux,Uy,Uz,U0,U1,U2,U3,U4,U5,U6,U7,U8,U9,Th,Ti,Tm,Tn,Tp,Tw,Tx,Ty,Tz,T1,T2,T4,T6,T9,TA,TL,TM,S7,S8,SN,SQ,SS,SU,SW,SX,SY,a1,a3,v1,v2,k1,e,c1,hk,n1,n2,s1,s2,t1,t2,c2,u];all_goals tactic=>exact rfl))
  ·unfold gJ;dsimp only; (sym=>(simp[aP,aO,aQ,aR,aZ,aJ,Za,Zb,Zc,Zf,Zg,Zh,Zi,Zj,Zl,Zm,Zp,Zr,Zu,Zx,Z1,Z2,Z4,Z7,Z8,ZH,ZI,ZK,ZL,ZN,ZO,ZP,ZQ,ZU,ZV,ZX,ZY,Yb,Yl,Yt,Yu,Yv,Yx,Yy,YP,YX,YY,YZ,Xe,Xh,Xj,Xs,Xt,Xy,XI,XL,XP,We,Wp,Wx,Wy,Wz,W0,W3,W6,W7,W9,WA,WB,WC,WE,WF,WG,WH,WI,WJ,WK,WL,WM,WN,WO,WP,WR,WS,WT,WV,WW,WX,Vb,Vc,Vd,Vf,Vg,Vh,Vi,Vj,Vs,Vu,Vv,Vx,Vy,Vz,V6,V7,V9,VA,VB,VC,VD,VG,VH,VI,VJ,VN,VQ,VR,VS,VW,VX,VY,VZ,Ua,Ub,Uc,Ud,Ue,Uh,Uj,Um,Un,Uo,Us,Uv,Uw,Ux,Uy,Uz,U0,U1,U2,U3,U4,U5,U6,U7,U8,U9,Th,Ti,Tm,Tn,Tp,Tw,Tx,Ty,Tz,T1,T2,T4,T6,T9,TA,TL,TM,S7,S8,SN,SQ,SS,SU,SW,SX,SY,a1,a3,v1,v2,k1,e,c1,hk,n1,n2,s1,s2,t1,t2,c2,u];all_goals tactic=>exact rfl))
 ·rw[if_neg hp]
  have c2:(0<fl1 i a)=False:=eq_false hp
  have u:IntKind.i64.wrap (fl1 a i+1)=fl1 a i+1:=aD (by omega) (by omega)
  generalize kP fl1 a i (fl1 a i+1)=fl2 at *
  refine jS ?_ ?_
  ·unfold gJ;dsimp only; (sym=>(simp[aP,aO,aQ,aR,aZ,aJ,Za,Zb,Zc,Zf,Zg,Zh,Zi,Zj,Zl,Zm,Zp,Zr,Zu,Zx,Z1,Z2,Z4,Z7,Z8,ZH,ZI,ZK,ZL,ZN,ZO,ZP,ZQ,ZU,ZV,ZX,ZY,Yb,Yk,Yt,Yu,Yv,Yx,Yy,YP,YX,YY,Xe,Xh,Xj,Xs,Xt,Xy,XI,XP,Wp,Wx,Wy,Wz,W0,W3,W6,W7,W9,WA,WB,WC,WE,WG,WH,WI,WJ,WK,WM,WN,WR,WS,WT,WV,WW,WX,Vc,Vd,Vf,Vg,Vh,Vi,Vj,Vs,Vu,Vv,Vx,Vy,Vz,VN,VQ,VR,VS,VU,VW,VX,VY,VZ,Ua,Ud,Ue,Uh,Uj,Um,Un,Uo,Us,Uv,Uw,Ux,Uy,Uz,U0,U1,U2,U3,U4,U5,U6,U7,U8,U9,Th,Ti,Tm,Tn,Tp,Tw,Tx,Ty,Tz,T1,T2,T4,T6,T9,TA,TL,TM,S7,S8,SN,SQ,SS,SU,SW,SX,SY,a1,a3,v1,v2,k1,e,c1,hk,n1,n2,s1,s2,t1,t2,c2,u];all_goals tactic=>exact rfl))
  ·unfold gJ;dsimp only; (sym=>(simp[aP,aO,aQ,aR,aZ,aJ,Za,Zb,Zc,Zf,Zg,Zh,Zi,Zj,Zl,Zm,Zp,Zr,Zu,Zx,Z1,Z2,Z4,Z7,Z8,ZH,ZI,ZK,ZL,ZN,ZO,ZP,ZQ,ZU,ZV,ZX,ZY,Yb,Yk,Yt,Yu,Yv,Yx,Yy,YP,YX,YY,YZ,Xe,Xh,Xj,Xs,Xt,Xy,XI,XL,XP,We,Wp,Wx,Wy,Wz,W0,W3,W6,W7,W9,WA,WB,WC,WE,WF,WG,WH,WI,WJ,WK,WL,WM,WN,WO,WP,WR,WS,WT,WV,WW,WX,Vb,Vc,Vd,Vf,Vg,Vh,Vi,Vj,Vs,Vu,Vv,Vx,Vy,Vz,V6,V7,V9,VA,VB,VC,VD,VG,VH,VI,VJ,VN,VQ,VR,VS,VW,VX,VY,VZ,Ua,Ub,Uc,Ud,Ue,Uh,Uj,Um,Un,Uo,Us,Uv,Uw,Ux,Uy,Uz,U0,U1,U2,U3,U4,U5,U6,U7,U8,U9,Th,Ti,Tm,Tn,Tp,Tw,Tx,Ty,Tz,T1,T2,T4,T6,T9,TA,TL,TM,S7,S8,SN,SQ,SS,SU,SW,SX,SY,a1,a3,v1,v2,k1,e,c1,hk,n1,n2,s1,s2,t1,t2,c2,u];all_goals tactic=>exact rfl))
end
theorem iN {D:Nat→Option XFn} {K k:Nat} {rd:Option Nat} {L:List Nat} {a:XCode} {e e':aL} {H H':XH} (h:aW k L (some (.normal,e,H))=aW k L (some (.normal,e',H'))):execW D K k rd (.loop L a) e H=execW D K k rd (.loop L a) e' H':=by
 simp only[aW,oSI,Prod.mk.injEq]at h
 rw[eE,eE (e:=e')]
 have e1:jC k L e H=jC k L e' H':=congrArg (aY L) h.1
 rw[e1,h.2]
def FlI (cap fl:Nat→Nat→Int):Prop:=∀ a b,0≤fl a b∧fl a b≤cap a b
theorem Aug.ok {cap fl fl':Nat→Nat→Int} {m:Nat→Bool} {a:Nat} (h:Aug cap fl m a fl') (hf:FlI cap fl) (h33:m 33=false):FlI cap fl':=by
 induction h with
 | sink=>exact hf
 | @step m a b fl' h1 h2 h3 h4 h5 ih =>
   have n33:fI m a 33=false:=by unfold fI;rw[if_neg (by omega)];exact h33
   have ha:fI m a a=true:=by unfold fI;rw[if_pos rfl]
   have ih:=ih n33
   have e1:=h5.same n33 a b (.inl ha)
   have e2:=h5.same n33 b a (.inr ha)
   intro c d
   have i1:=ih b a
   have i2:=ih a b
   unfold vX at h4
   unfold push
   split
   ·unfold kP
    split
    ·next h=>obtain⟨rfl,rfl⟩:=h;omega
    ·exact ih c d
   ·unfold kP
    split
    ·next h=>obtain⟨rfl,rfl⟩:=h;omega
    ·exact ih c d
theorem aJj (st:Nat→Nat) (s nur fix a b:Nat):bT st s nur fix a b≤16:=by
 unfold bT
 split
 ·split<;>omega
 ·split
  ·split<;>omega
  ·split
   ·omega
   ·split
    ·split<;>omega
    ·split<;>omega
theorem FlI.b {st:Nat→Nat} {s nur fix:Nat} {fl:Nat→Nat→Int} (h:FlI (bT st s nur fix) fl):FlB fl:=fun a b=>⟨(h a b).1,by have:=(h a b).2;have:=aJj st s nur fix a b;omega⟩
structure aMG (cap fl:Nat→Nat→Int) (m:Nat→Bool) (a:Nat) (s:Nat×(Nat→Bool)):Prop where
 le:s.1≤34
 sub:aAg (fI m a) s.2
 last:s.2 33=false
 own:∀ b,b<s.1→0<vX cap fl a b→s.2 b=true
 new:∀ c,s.2 c=true→fI m a c=false→∀ b,b<34→0<vX cap fl c b→s.2 b=true
theorem w88 {l:List AV} {st:Nat→Nat} {F s nur fix:Nat} (h:aCW l st F s nur fix) {fl:Nat→Nat→Int} (hf:FlI (bT st s nur fix) fl) :
 ∀ n m a,34≤aCR m+n→a<34→(a=33∨m a=false)→m 33=false →
   ∃ r m' fl',runW aA 39 [I (a:Nat),.pt 0 0,.pt 1 0,.pt 4 0] (gK m fl l)=some (.bool r,gK m' fl' l) ∧
     ((r=true∧Aug (bT st s nur fix) fl m a fl')∨(r=false∧fl'=fl∧aCX (bT st s nur fix) fl m m' a)):=by
 intro n
 induction n with
 | zero =>
   intro m a hn ha hm h33
   have:=aBI (m:=m) (a:=33) (by omega) h33
   have:=aJf (fI m 33)
   omega
 | succ n ih =>
   intro m a hn ha hm h33
   by_cases e33:a=33
   ·subst e33
    refine⟨true,m,fl,?_,.inl ⟨rfl,.sink⟩⟩
    rw[show ((33:Nat):Int)=33 from rfl]
    rw[r39 (by simp)];unfold x39;dsimp only
    (sym=>(simp[aP,aO,aQ,aR,aZ,aJ,dA,Za,Zb,Zf,Zh,Zl,Zm,Zu,Z2,Yr,YZ,Xe,Xh,Xt,Xy,XI,XL,Wd,We,Wj,W8,WA,WF,WH,WJ,WL,WM,WN,WO,WP,WV,WW,WX,Vb,Vc,Vd,Vs,V6,V7,V9,VA,VB,VC,VD,VG,VH,VI,VJ,VL,VQ,VR,VV,VW,VX,VY,VZ,Ua,Ub,Uc,Ud,Ue,Uw,Ux,U1,U2,U3,U4,U5,UC,UD,Tw,Tx,Ty,T2,T4,T9,TA,S8];all_goals tactic=>exact rfl))
   ·have hm:m a=false:=by
     rcases hm with hm|hm
     ·exact absurd hm e33
     ·exact hm
    have hcu:=aBI ha hm
    have n33:fI m a 33=false:=by unfold fI;rw[if_neg (by omega)];exact h33
    have haa:fI m a a=true:=by unfold fI;rw[if_pos rfl]
    have he0:aW 5 [0,1,2,3,11] (some (.normal,aY [0,1,2,3,11] (sK a 0),gK (fI m a) fl l))=some (sK a 0,gK (fI m a) fl l):=by
     (sym=>(simp[aP,aO,aQ,aR,aZ,aJ,dA,YA,YY,Xe,Xh,Xs,Xy,XI,WA,WF,WH,WJ,WL,WM,WN,WO,WP,WV,WW,WX,Vb,Vc,Vd,VN,VO,VP,VW,VX,VY,VZ,Ua,Ub,Uc,Uw,U1,U2,U3,U4,U5,T8];all_goals tactic=>exact rfl))
    have main:∃ q:Nat×(Nat→Bool),aMG (bT st s nur fix) fl m a q∧(q.1=34∨∃ m' fl' e hh,execW aA 39 5 none (match gJ with | .loop _ a=>a|c=>c) (aY [0,1,2,3,11] (sK a q.1)) (gK q.2 fl l)=some (.ret,e,hh)∧bL none [(5,none)] false 5 (some (.ret,e,hh))=some (.bool true,gK m' fl' l)∧Aug (bT st s nur fix) fl m a fl') ∧
     execW aA 39 5 none gJ (aY [0,1,2,3,11] (sK a 0)) (gK (fI m a) fl l)=execW aA 39 5 none (match gJ with | .loop _ a=>a|c=>c) (aY [0,1,2,3,11] (sK a q.1)) (gK q.2 fl l):=by
     unfold gJ
     refine rA (fun q:Nat×(Nat→Bool)=>sK a q.1) (fun q=>gK q.2 fl l) (aMG (bT st s nur fix) fl m a) _ (fun q=>34-q.1) (0,fI m a) he0 ⟨by omega,aEn _,n33,fun b hb=>absurd hb (by omega),fun c h1 h2=>absurd ((show fI m a c=true from h1).symm.trans h2) (by simp)⟩ ?_
     rintro ⟨i,mm⟩ iv
     have hi:=iv.le
     simp only at hi
     by_cases h34:i=34
     ·left
      subst h34
      refine⟨?_,.inl rfl⟩
      show hZ (execW aA 39 5 none _ (aY [0,1,2,3,11] (sK a 34)) (gK mm fl l))=true
      rw[show sK a 34=[I (a:Nat),.pt 0 0,.pt 1 0,.pt 4 0,I 34] from rfl]
      (sym=>(simp[aP,aO,aQ,aR,aZ,aJ,dA,Za,Zb,Zf,Zh,Zl,Zm,Z2,Yt,VN,VQ,VS,VT,Uy,Tw,Tx,T0,T2,T3,T9,TA];all_goals tactic=>exact rfl))
     ·have hi:i<34:=by omega
      cases hmi:mm i
      ·by_cases hr:0<cR st s nur fix fl a i
       ·have hcm:=aES iv.sub
        obtain⟨r,m',fl',q1,q2⟩:=ih mm i (by simp only at hcm;omega) hi (.inr hmi) iv.last
        rcases q2 with ⟨rfl,q2⟩|⟨rfl,rfl,q2⟩
        ·left
         have hb:=(q2.ok hf iv.last).b
         obtain⟨e,hh,p1,p2⟩:=aKw h hf.b ha hi hb hmi hr q1
         refine⟨?_,.inr ⟨m',_,e,hh,p1,p2,.step hm (by omega) hi hr (q2.mono iv.sub)⟩⟩
         exact(congrArg hZ p1).trans rfl
        ·right
         refine⟨(i+1,m'),by show 34-(i+1)<34-i;omega,aFP h hf.b ha hi hmi hr q1,⟨by show i+1≤34;omega,vQ iv.sub q2.sub,q2.last,?_,?_⟩⟩
         ·intro b hb hr2
          by_cases hbi:b=i
          ·subst hbi;exact q2.has
          ·exact q2.sub _ (iv.own b (by simp only at hb ⊢;omega) hr2)
         ·intro c hc hc2 b hb hr2
          cases hcm:mm c
          ·exact q2.new c hc hcm b hb hr2
          ·exact q2.sub _ (iv.new c hcm hc2 b hb hr2)
       ·right
        refine⟨(i+1,mm),by show 34-(i+1)<34-i;omega,aFQ h hf.b ha hi hmi (Int.not_lt.1 hr),⟨by show i+1≤34;omega,iv.sub,iv.last,?_,iv.new⟩⟩
        intro b hb hr2
        by_cases hbi:b=i
        ·subst hbi;exact absurd hr2 hr
        ·exact iv.own b (by simp only at hb ⊢;omega) hr2
      ·right
       refine⟨(i+1,mm),by show 34-(i+1)<34-i;omega,aFR hi hmi,⟨by show i+1≤34;omega,iv.sub,iv.last,?_,iv.new⟩⟩
       intro b hb hr2
       by_cases hbi:b=i
       ·subst hbi;exact hmi
       ·exact iv.own b (by simp only at hb ⊢;omega) hr2
    have c33:((a:Int)=33)=False:=eq_false (by omega)
    have v1:((0:Int)≤a)=True:=eq_true (by omega)
    have v2:((a:Int)<34)=True:=eq_true (by omega)
    have s1:=aIL (m:=m) ha
    have t1:(a+1≤34)=True:=eq_true (by omega)
    obtain⟨⟨i,mm⟩,iv,hq,hrun⟩:=main
    have iv1:=iv.sub
    have iv2:=iv.last
    have iv3:=iv.own
    have iv4:=iv.new
    dsimp only at iv1 iv2 iv3 iv4 hq hrun
    have hsu:=nB m a
    have hca:∀ c,fI m a c=true→m c=false→c=a:=fun c h1 h2=>by
     unfold fI at h1
     split at h1
     ·assumption
     ·rw[h1]at h2;simp at h2
    generalize fI m a=m1 at *
    rcases hq with rfl|⟨m',fl',e,hh,p1,p2,p3⟩
    ·refine⟨false,mm,fl,?_,.inr ⟨rfl,rfl,⟨?_,iv1 _ haa,iv2,?_⟩⟩⟩
     ·rw[show sK a 34=[I (a:Nat),.pt 0 0,.pt 1 0,.pt 4 0,I 34] from rfl]at hrun
      rw[show sK a 0=[I (a:Nat),.pt 0 0,.pt 1 0,.pt 4 0,I 0] from rfl]at hrun he0
      rw[r39 (by simp)];unfold x39;dsimp only
      sym =>
       simp[aP,aO,aQ,aR,aZ,aJ,dA,Za,Zb,Zc,Zf,Zh,Zl,Zm,Zu,Z2,Z8,ZL,ZM,Yr,Yx,Yy,YP,Xk,Wd,Wj,Wq,Wy,W3,W8,VL,VQ,VS,VV,Ud,Ue,Uj,Us,Uy,U6,U7,UC,UD,Tn,Tp,Tw,Tx,Tz,T1,T2,T9,TA,TL,TM,SN,c33,v1,v2,s1,t1]
       tactic =>
        unfold gJ at hrun ⊢
        rw[iN (e':=aY [0,1,2,3,11] [I (a:Nat),.pt 0 0,.pt 1 0,.pt 4 0,I 0]) (H':=gK m1 fl l) (by rw[he0]; (sym=>(simp[aP,aO,aQ,aR,aZ,aJ,dA,Za,YY,Xe,Xh,Xs,Xy,XI,W8,WA,WF,WH,WJ,WL,WM,WN,WO,WP,WV,WW,WX,Vb,Vc,Vd,VL,VO,VP,VW,VX,VY,VZ,Ua,Ub,Uc,Uw,U1,U2,U3,U4,U5,T8];all_goals tactic=>exact rfl))),hrun]
        (sym=>(simp[aP,aO,aQ,aR,aZ,aJ,dA,Za,Zb,Zf,Zh,Zl,Zm,Zu,Z2,Yt,YZ,Xe,Xh,Xt,Xy,XI,XL,We,WA,WF,WH,WJ,WL,WM,WN,WO,WP,WV,WW,WX,Vb,Vc,Vd,Vs,V6,V7,V9,VA,VB,VC,VD,VG,VH,VI,VJ,VN,VQ,VS,VW,VX,VY,VZ,Ua,Ub,Uc,Uw,Uy,U1,U2,U3,U4,U5,Tw,Tx,Ty,T0,T2,T3,T7,T9,TA,S8];all_goals tactic=>exact rfl))
     ·exact vQ hsu iv1
     ·intro c hc hc2 b hb hr
      cases h1:m1 c
      ·exact iv4 c hc h1 b hb hr
      ·obtain rfl:=hca c h1 hc2
       exact iv3 b hb hr
    ·refine⟨true,m',fl',?_,.inl ⟨rfl,p3⟩⟩
     rw[show sK a 0=[I (a:Nat),.pt 0 0,.pt 1 0,.pt 4 0,I 0] from rfl]at hrun he0
     rw[r39 (by simp)];unfold x39;dsimp only
     sym =>
      simp[aP,aO,aQ,aR,aZ,aJ,dA,Za,Zb,Zc,Zf,Zh,Zl,Zm,Zu,Z2,Z8,ZL,ZM,Yr,Yx,Yy,YP,Xk,Wd,Wj,Wq,Wy,W3,W8,VL,VQ,VS,VV,Ud,Ue,Uj,Us,Uy,U6,U7,UC,UD,Tn,Tp,Tw,Tx,Tz,T1,T2,T9,TA,TL,TM,SN,c33,v1,v2,s1,t1]
      tactic =>
       unfold gJ at hrun ⊢
       rw[iN (e':=aY [0,1,2,3,11] [I (a:Nat),.pt 0 0,.pt 1 0,.pt 4 0,I 0]) (H':=gK m1 fl l) (by rw[he0]; (sym=>(simp[aP,aO,aQ,aR,aZ,aJ,dA,Za,YY,Xe,Xh,Xs,Xy,XI,W8,WA,WF,WH,WJ,WL,WM,WN,WO,WP,WV,WW,WX,Vb,Vc,Vd,VL,VO,VP,VW,VX,VY,VZ,Ua,Ub,Uc,Uw,U1,U2,U3,U4,U5,T8];all_goals tactic=>exact rfl))),hrun]
       unfold gJ at p1
       dsimp only at p1
       rw[p1]
       exact p2
end Go.Proofs.YtmcbhljgkgfanaaDoor
