/- Parts of a proof, joined: GT SH Z1 Z2 Z3 Z5 Z6 Y0 Y1 Z4 W1 W2 W3 W4 W5 W6 W7 W8 W9 W10 WA V1 V2 V3 WY WZ PF F0 K1 K2 K3 K4 K5 K6 K7 K8. No statement of the seed is proved here. -/
import Derived.Shelf.Strings.Builder1
import Derived.Shelf.Strings.Builder2
import Derived.Shelf.Strings.OnBuilder
import Derived.Shelf.Strings.Trim
import Derived.Shelf.Small.Utf8
import Derived.Shelf.Small.Strs
import Derived.Shelf.Small.Wraps
import Derived.Shelf.Strings.BuilderF
import Derived.Shelf.Strings.BuilderK
import Derived.Shelf.Strconv.Atoi
import Derived.Shelf.Strconv.Itoa0
import Derived.Shelf.Strconv.Itoa1
import Derived.Shelf.LaysM
import Derived.Shelf.Strconv.Itoa2
import Derived.Shelf.Strconv.Itoa3
import Derived.Shelf.Strconv.AtoiErrFast
import Derived.Shelf.Strconv.ParseIntEmpty
import Derived.Shelf.Strconv.AtoiFail
import Derived.Shelf.Strconv.Clone
import Derived.Shelf.Strconv.SyntaxError
import Derived.Shelf.LaysC
import Derived.Shelf.Strconv.ToError
import Derived.Shelf.Strconv.Lower
import Derived.Shelf.Strconv.ParseUint10
import Derived.Shelf.Strconv.ParseUint10Empty
import Derived.Shelf.Strconv.ParseUint10Any
import Derived.Shelf.Strconv.ParseInt10
import Derived.Shelf.Strconv.AtoiLong
import Derived.Shelf.Strconv.AtoiInnerAll
import Derived.Shelf.Strconv.RangeError
import Derived.Shelf.Strconv.ToErrorRange
import Derived.Shelf.Strconv.AtoiAll
import Derived.Shelf.Strings.Search1
import Derived.Shelf.Strings.Search2
import Derived.Shelf.Strings.Search3
import Derived.Shelf.Strings.Count
import Derived.Shelf.Strings.Shaped
import Derived.Shelf.GgClosure.StringsIndexFunc
import Derived.Ground.GgwProg
import Derived.Shelf.GgClosure.StringsIndexFuncTop
import Derived.Shelf.GgClosure.StringsRunes
import Derived.Shelf.Strings.Prefix
import Derived.Shelf.Strings.Split
import Derived.Shelf.Strings.SplitShaped
import Derived.Shelf.Unicode.Decode
import Derived.Shelf.Strings.Runes
import Derived.Shelf.Strings.RuneCount
import Derived.Shelf.Strings.AsciiSet
import Derived.Shelf.Strings.Explode
import Derived.Shelf.Bits.Mul64
import Derived.Shelf.Strings.Repeat
import Derived.Shelf.Unicode.DecodeSlow
import Derived.Shelf.Unicode.DecodeAny
import Derived.Shelf.Unicode.DecodeLast
import Derived.Shelf.Strings.FuncGrows
import Derived.Shelf.Slices.Turned
import Derived.Test.YtmapgnepfgnphaaGreatDoorProg
import Derived.KernelRfl
import Derived.Test.YtmapgnepfgnphaaGreatDoorH6
set_option linter.unusedSimpArgs false
set_option linter.unusedVariables false
set_option linter.unusedSectionVars false
namespace Go.Proofs.YtmapgnepfgnphaaGreatDoor
open Go Go.DL Go.Proofs.Tryz

def aEQ:List (Nat×XFn):=[(7,x7),(8,x8),(13,x13),(14,x14),(16,x16),(18,x18),(19,x19),(23,x23),(25,x25),(27,x27),(28,x28),(31,x31),(34,x34),(35,x35),(36,x36),(38,x38),(42,x42),(43,x43),(44,x44),(45,x45),(46,x46),(52,x52),(53,x53),(54,x54),(55,x55),(58,x58),(59,x59),(60,x60),(61,x61),(62,x62),(69,x69),(70,x70),(73,x73),(75,x75),(77,x77),(84,x84),(85,x85),(86,x86),(87,x87),(88,x88),(89,x89),(90,x90),(91,x91),(92,x92),(93,x93),(94,x94),(95,x95),(96,x96),(97,x97),(98,x98),(116,x116),(119,x119),(126,x126),(127,x127),(128,x128),(129,x129),(130,x130),(131,x131),(132,x132),(133,x133),(134,x134),(135,x135),(136,x136),(137,x137),(154,x154),(155,x155),(156,x156),(157,x157),(158,x158),(159,x159),(160,x160),(175,x175),(179,x179),(180,x180),(181,x181),(182,x182),(183,x183),(184,x184),(185,x185),(186,x186),(197,x197),(198,x198),(201,x201),(202,x202),(203,x203),(204,x204),(205,x205),(206,x206),(207,x207),(211,x211),(212,x212),(213,x213),(215,x215),(234,x234),(235,x235),(236,x236),(237,x237),(242,x242),(243,x243),(244,x244),(245,x245)]
def aBn:List (Nat×XFn)→Nat→Option XFn
 | [],_=>none
 | (k,d)::r,K=>match Nat.beq K k with
   | true=>some d
   | false=>aBn r K
theorem jO {K:Nat} {d:XFn}:∀ {l:List (Nat×XFn)},aBn l K=some d→(K,d)∈l
 | [],h=>by simp[aBn]at h
 | (k,e)::r,h=>by
   simp only[aBn]at h
   split at h
   ·rename_i hb
    have:=Nat.eq_of_beq_eq_true hb
    simp only[oSI]at h
    subst h this
    exact List.mem_cons_self ..
   ·exact List.mem_cons_of_mem _ (jO h)
theorem aC {P:Nat×XFn→Prop} {p:Nat×XFn} {l:List (Nat×XFn)} (h:P p) (hl:∀ q∈l,P q):∀ q∈p::l,P q:=fun q hq=>by
 rcases List.mem_cons.1 hq with rfl|hq
 ·exact h
 ·exact hl q hq
def aFw:Nat→Option XFn:=aBn aEQ
set_option maxRecDepth 100000
theorem isX:∀ p∈aEQ,aE prog p.1 p.2.fn :=
 aC (P:=fun p=>aE prog p.1 p.2.fn) is7 (aC (P:=fun p=>aE prog p.1 p.2.fn) is8 (aC (P:=fun p=>aE prog p.1 p.2.fn) aTb (aC (P:=fun p=>aE prog p.1 p.2.fn) aTa (aC (P:=fun p=>aE prog p.1 p.2.fn) aSZ (aC (P:=fun p=>aE prog p.1 p.2.fn) aSY (aC (P:=fun p=>aE prog p.1 p.2.fn) aSX (aC (P:=fun p=>aE prog p.1 p.2.fn) aSW (aC (P:=fun p=>aE prog p.1 p.2.fn) aSV (aC (P:=fun p=>aE prog p.1 p.2.fn) aSU (aC (P:=fun p=>aE prog p.1 p.2.fn) aST (aC (P:=fun p=>aE prog p.1 p.2.fn) aSS (aC (P:=fun p=>aE prog p.1 p.2.fn) aSR (aC (P:=fun p=>aE prog p.1 p.2.fn) aSQ (aC (P:=fun p=>aE prog p.1 p.2.fn) aSP (aC (P:=fun p=>aE prog p.1 p.2.fn) aSO (aC (P:=fun p=>aE prog p.1 p.2.fn) aSN (aC (P:=fun p=>aE prog p.1 p.2.fn) aSM (aC (P:=fun p=>aE prog p.1 p.2.fn) aSL (aC (P:=fun p=>aE prog p.1 p.2.fn) aSK (aC (P:=fun p=>aE prog p.1 p.2.fn) aSJ (aC (P:=fun p=>aE prog p.1 p.2.fn) aSI (aC (P:=fun p=>aE prog p.1 p.2.fn) aSH (aC (P:=fun p=>aE prog p.1 p.2.fn) aSG (aC (P:=fun p=>aE prog p.1 p.2.fn) aSF (aC (P:=fun p=>aE prog p.1 p.2.fn) aSE (aC (P:=fun p=>aE prog p.1 p.2.fn) aSD (aC (P:=fun p=>aE prog p.1 p.2.fn) aSC (aC (P:=fun p=>aE prog p.1 p.2.fn) aSB (aC (P:=fun p=>aE prog p.1 p.2.fn) aSA (aC (P:=fun p=>aE prog p.1 p.2.fn) aSz (aC (P:=fun p=>aE prog p.1 p.2.fn) aSy (aC (P:=fun p=>aE prog p.1 p.2.fn) aSx (aC (P:=fun p=>aE prog p.1 p.2.fn) aSw (aC (P:=fun p=>aE prog p.1 p.2.fn) aSv (aC (P:=fun p=>aE prog p.1 p.2.fn) aSu (aC (P:=fun p=>aE prog p.1 p.2.fn) aSt (aC (P:=fun p=>aE prog p.1 p.2.fn) aSs (aC (P:=fun p=>aE prog p.1 p.2.fn) aSr (aC (P:=fun p=>aE prog p.1 p.2.fn) aSq (aC (P:=fun p=>aE prog p.1 p.2.fn) aSp (aC (P:=fun p=>aE prog p.1 p.2.fn) aSo (aC (P:=fun p=>aE prog p.1 p.2.fn) aSn (aC (P:=fun p=>aE prog p.1 p.2.fn) aSm (aC (P:=fun p=>aE prog p.1 p.2.fn) aSl (aC (P:=fun p=>aE prog p.1 p.2.fn) aSk (aC (P:=fun p=>aE prog p.1 p.2.fn) aSj (aC (P:=fun p=>aE prog p.1 p.2.fn) aSi (aC (P:=fun p=>aE prog p.1 p.2.fn) aSh (aC (P:=fun p=>aE prog p.1 p.2.fn) aSg (aC (P:=fun p=>aE prog p.1 p.2.fn) aOn (aC (P:=fun p=>aE prog p.1 p.2.fn) aOm (aC (P:=fun p=>aE prog p.1 p.2.fn) aOl (aC (P:=fun p=>aE prog p.1 p.2.fn) aOk (aC (P:=fun p=>aE prog p.1 p.2.fn) aOj (aC (P:=fun p=>aE prog p.1 p.2.fn) aOi (aC (P:=fun p=>aE prog p.1 p.2.fn) aOh (aC (P:=fun p=>aE prog p.1 p.2.fn) aOg (aC (P:=fun p=>aE prog p.1 p.2.fn) aOf (aC (P:=fun p=>aE prog p.1 p.2.fn) aOe (aC (P:=fun p=>aE prog p.1 p.2.fn) aOd (aC (P:=fun p=>aE prog p.1 p.2.fn) aOc (aC (P:=fun p=>aE prog p.1 p.2.fn) aOb (aC (P:=fun p=>aE prog p.1 p.2.fn) aOa (aC (P:=fun p=>aE prog p.1 p.2.fn) aNZ (aC (P:=fun p=>aE prog p.1 p.2.fn) aNY (aC (P:=fun p=>aE prog p.1 p.2.fn) aNX (aC (P:=fun p=>aE prog p.1 p.2.fn) aNW (aC (P:=fun p=>aE prog p.1 p.2.fn) aNV (aC (P:=fun p=>aE prog p.1 p.2.fn) aNU (aC (P:=fun p=>aE prog p.1 p.2.fn) aNT (aC (P:=fun p=>aE prog p.1 p.2.fn) aNS (aC (P:=fun p=>aE prog p.1 p.2.fn) aNR (aC (P:=fun p=>aE prog p.1 p.2.fn) aNQ (aC (P:=fun p=>aE prog p.1 p.2.fn) aNP (aC (P:=fun p=>aE prog p.1 p.2.fn) aNO (aC (P:=fun p=>aE prog p.1 p.2.fn) aNN (aC (P:=fun p=>aE prog p.1 p.2.fn) aNM (aC (P:=fun p=>aE prog p.1 p.2.fn) aNL (aC (P:=fun p=>aE prog p.1 p.2.fn) aNK (aC (P:=fun p=>aE prog p.1 p.2.fn) aNJ (aC (P:=fun p=>aE prog p.1 p.2.fn) aNI (aC (P:=fun p=>aE prog p.1 p.2.fn) aNH (aC (P:=fun p=>aE prog p.1 p.2.fn) aNG (aC (P:=fun p=>aE prog p.1 p.2.fn) aNF (aC (P:=fun p=>aE prog p.1 p.2.fn) aNE (aC (P:=fun p=>aE prog p.1 p.2.fn) aND (aC (P:=fun p=>aE prog p.1 p.2.fn) aNC (aC (P:=fun p=>aE prog p.1 p.2.fn) aNB (aC (P:=fun p=>aE prog p.1 p.2.fn) aNA (aC (P:=fun p=>aE prog p.1 p.2.fn) aNz (aC (P:=fun p=>aE prog p.1 p.2.fn) aNy (aC (P:=fun p=>aE prog p.1 p.2.fn) aNx (aC (P:=fun p=>aE prog p.1 p.2.fn) aNw (aC (P:=fun p=>aE prog p.1 p.2.fn) aNv (aC (P:=fun p=>aE prog p.1 p.2.fn) aNu (aC (P:=fun p=>aE prog p.1 p.2.fn) aNt (aC (P:=fun p=>aE prog p.1 p.2.fn) aNs (aC (P:=fun p=>aE prog p.1 p.2.fn) aNr (aC (P:=fun p=>aE prog p.1 p.2.fn) aNq (aC (P:=fun p=>aE prog p.1 p.2.fn) aNp (fun _ h=>nomatch h)))))))))))))))))))))))))))))))))))))))))))))))))))))))))))))))))))))))))))))))))))))))))))))))))))))
theorem aRj:∀ p∈aEQ,aR p.2=true :=
 aC (P:=fun p=>aR p.2=true) ok7 (aC (P:=fun p=>aR p.2=true) ok8 (aC (P:=fun p=>aR p.2=true) aSf (aC (P:=fun p=>aR p.2=true) aSe (aC (P:=fun p=>aR p.2=true) aSd (aC (P:=fun p=>aR p.2=true) aSc (aC (P:=fun p=>aR p.2=true) aSb (aC (P:=fun p=>aR p.2=true) aSa (aC (P:=fun p=>aR p.2=true) aRZ (aC (P:=fun p=>aR p.2=true) aRY (aC (P:=fun p=>aR p.2=true) aRX (aC (P:=fun p=>aR p.2=true) aRW (aC (P:=fun p=>aR p.2=true) aRV (aC (P:=fun p=>aR p.2=true) aRU (aC (P:=fun p=>aR p.2=true) aRT (aC (P:=fun p=>aR p.2=true) aRS (aC (P:=fun p=>aR p.2=true) aRR (aC (P:=fun p=>aR p.2=true) aRQ (aC (P:=fun p=>aR p.2=true) aRP (aC (P:=fun p=>aR p.2=true) aRO (aC (P:=fun p=>aR p.2=true) aRN (aC (P:=fun p=>aR p.2=true) aRM (aC (P:=fun p=>aR p.2=true) aRL (aC (P:=fun p=>aR p.2=true) aRK (aC (P:=fun p=>aR p.2=true) aRJ (aC (P:=fun p=>aR p.2=true) aRI (aC (P:=fun p=>aR p.2=true) aRH (aC (P:=fun p=>aR p.2=true) aRG (aC (P:=fun p=>aR p.2=true) aRF (aC (P:=fun p=>aR p.2=true) aRE (aC (P:=fun p=>aR p.2=true) aRD (aC (P:=fun p=>aR p.2=true) aRC (aC (P:=fun p=>aR p.2=true) aRB (aC (P:=fun p=>aR p.2=true) aRA (aC (P:=fun p=>aR p.2=true) aRz (aC (P:=fun p=>aR p.2=true) aRy (aC (P:=fun p=>aR p.2=true) aRx (aC (P:=fun p=>aR p.2=true) aRw (aC (P:=fun p=>aR p.2=true) aRv (aC (P:=fun p=>aR p.2=true) aRu (aC (P:=fun p=>aR p.2=true) aRt (aC (P:=fun p=>aR p.2=true) aRs (aC (P:=fun p=>aR p.2=true) aRr (aC (P:=fun p=>aR p.2=true) aRq (aC (P:=fun p=>aR p.2=true) aRp (aC (P:=fun p=>aR p.2=true) aRo (aC (P:=fun p=>aR p.2=true) aRn (aC (P:=fun p=>aR p.2=true) aRm (aC (P:=fun p=>aR p.2=true) aRl (aC (P:=fun p=>aR p.2=true) aRk (aC (P:=fun p=>aR p.2=true) aNd (aC (P:=fun p=>aR p.2=true) aNc (aC (P:=fun p=>aR p.2=true) aNb (aC (P:=fun p=>aR p.2=true) aNa (aC (P:=fun p=>aR p.2=true) aMZ (aC (P:=fun p=>aR p.2=true) aMY (aC (P:=fun p=>aR p.2=true) aMX (aC (P:=fun p=>aR p.2=true) aMW (aC (P:=fun p=>aR p.2=true) aMV (aC (P:=fun p=>aR p.2=true) aMU (aC (P:=fun p=>aR p.2=true) aMT (aC (P:=fun p=>aR p.2=true) aMS (aC (P:=fun p=>aR p.2=true) aMR (aC (P:=fun p=>aR p.2=true) aMQ (aC (P:=fun p=>aR p.2=true) aMP (aC (P:=fun p=>aR p.2=true) aMO (aC (P:=fun p=>aR p.2=true) aMN (aC (P:=fun p=>aR p.2=true) aMM (aC (P:=fun p=>aR p.2=true) aML (aC (P:=fun p=>aR p.2=true) aMK (aC (P:=fun p=>aR p.2=true) aMJ (aC (P:=fun p=>aR p.2=true) aMI (aC (P:=fun p=>aR p.2=true) aMH (aC (P:=fun p=>aR p.2=true) aMG (aC (P:=fun p=>aR p.2=true) aMF (aC (P:=fun p=>aR p.2=true) aME (aC (P:=fun p=>aR p.2=true) aMD (aC (P:=fun p=>aR p.2=true) aMC (aC (P:=fun p=>aR p.2=true) aMB (aC (P:=fun p=>aR p.2=true) aMA (aC (P:=fun p=>aR p.2=true) aMz (aC (P:=fun p=>aR p.2=true) aMy (aC (P:=fun p=>aR p.2=true) aMx (aC (P:=fun p=>aR p.2=true) aMw (aC (P:=fun p=>aR p.2=true) aMv (aC (P:=fun p=>aR p.2=true) aMu (aC (P:=fun p=>aR p.2=true) aMt (aC (P:=fun p=>aR p.2=true) aMs (aC (P:=fun p=>aR p.2=true) aMr (aC (P:=fun p=>aR p.2=true) aMp (aC (P:=fun p=>aR p.2=true) aMo (aC (P:=fun p=>aR p.2=true) aMn (aC (P:=fun p=>aR p.2=true) aMm (aC (P:=fun p=>aR p.2=true) aMl (aC (P:=fun p=>aR p.2=true) aMk (aC (P:=fun p=>aR p.2=true) aMj (aC (P:=fun p=>aR p.2=true) aMi (aC (P:=fun p=>aR p.2=true) aMh (aC (P:=fun p=>aR p.2=true) aMg (aC (P:=fun p=>aR p.2=true) aMf (aC (P:=fun p=>aR p.2=true) aMe (fun _ h=>nomatch h)))))))))))))))))))))))))))))))))))))))))))))))))))))))))))))))))))))))))))))))))))))))))))))))))))))
theorem stX:∀ p∈aEQ,aB p.2 p.2.body :=
 aC (P:=fun p=>aB p.2 p.2.body) st7 (aC (P:=fun p=>aB p.2 p.2.body) st8 (aC (P:=fun p=>aB p.2 p.2.body) aPF (aC (P:=fun p=>aB p.2 p.2.body) aPE (aC (P:=fun p=>aB p.2 p.2.body) aPD (aC (P:=fun p=>aB p.2 p.2.body) aPC (aC (P:=fun p=>aB p.2 p.2.body) aPB (aC (P:=fun p=>aB p.2 p.2.body) aPA (aC (P:=fun p=>aB p.2 p.2.body) aPz (aC (P:=fun p=>aB p.2 p.2.body) aPy (aC (P:=fun p=>aB p.2 p.2.body) aPx (aC (P:=fun p=>aB p.2 p.2.body) aPw (aC (P:=fun p=>aB p.2 p.2.body) aPv (aC (P:=fun p=>aB p.2 p.2.body) aPu (aC (P:=fun p=>aB p.2 p.2.body) aPt (aC (P:=fun p=>aB p.2 p.2.body) aPs (aC (P:=fun p=>aB p.2 p.2.body) aPr (aC (P:=fun p=>aB p.2 p.2.body) aPq (aC (P:=fun p=>aB p.2 p.2.body) aPp (aC (P:=fun p=>aB p.2 p.2.body) aPo (aC (P:=fun p=>aB p.2 p.2.body) aPn (aC (P:=fun p=>aB p.2 p.2.body) aPm (aC (P:=fun p=>aB p.2 p.2.body) aPl (aC (P:=fun p=>aB p.2 p.2.body) aPk (aC (P:=fun p=>aB p.2 p.2.body) aPj (aC (P:=fun p=>aB p.2 p.2.body) aPi (aC (P:=fun p=>aB p.2 p.2.body) aPh (aC (P:=fun p=>aB p.2 p.2.body) aPg (aC (P:=fun p=>aB p.2 p.2.body) aPf (aC (P:=fun p=>aB p.2 p.2.body) aPe (aC (P:=fun p=>aB p.2 p.2.body) aPd (aC (P:=fun p=>aB p.2 p.2.body) aPc (aC (P:=fun p=>aB p.2 p.2.body) aPb (aC (P:=fun p=>aB p.2 p.2.body) aPa (aC (P:=fun p=>aB p.2 p.2.body) aOZ (aC (P:=fun p=>aB p.2 p.2.body) aOY (aC (P:=fun p=>aB p.2 p.2.body) aOX (aC (P:=fun p=>aB p.2 p.2.body) aOW (aC (P:=fun p=>aB p.2 p.2.body) aOV (aC (P:=fun p=>aB p.2 p.2.body) aOU (aC (P:=fun p=>aB p.2 p.2.body) aOT (aC (P:=fun p=>aB p.2 p.2.body) aOS (aC (P:=fun p=>aB p.2 p.2.body) aOR (aC (P:=fun p=>aB p.2 p.2.body) aOQ (aC (P:=fun p=>aB p.2 p.2.body) aOP (aC (P:=fun p=>aB p.2 p.2.body) aOO (aC (P:=fun p=>aB p.2 p.2.body) aON (aC (P:=fun p=>aB p.2 p.2.body) aOM (aC (P:=fun p=>aB p.2 p.2.body) aOL (aC (P:=fun p=>aB p.2 p.2.body) aOK (aC (P:=fun p=>aB p.2 p.2.body) aLJ (aC (P:=fun p=>aB p.2 p.2.body) aLI (aC (P:=fun p=>aB p.2 p.2.body) aLH (aC (P:=fun p=>aB p.2 p.2.body) aLG (aC (P:=fun p=>aB p.2 p.2.body) aLF (aC (P:=fun p=>aB p.2 p.2.body) aLE (aC (P:=fun p=>aB p.2 p.2.body) aLD (aC (P:=fun p=>aB p.2 p.2.body) aLC (aC (P:=fun p=>aB p.2 p.2.body) aLB (aC (P:=fun p=>aB p.2 p.2.body) aLA (aC (P:=fun p=>aB p.2 p.2.body) aLz (aC (P:=fun p=>aB p.2 p.2.body) aLy (aC (P:=fun p=>aB p.2 p.2.body) aLx (aC (P:=fun p=>aB p.2 p.2.body) aLw (aC (P:=fun p=>aB p.2 p.2.body) aLv (aC (P:=fun p=>aB p.2 p.2.body) aLu (aC (P:=fun p=>aB p.2 p.2.body) aLt (aC (P:=fun p=>aB p.2 p.2.body) aLs (aC (P:=fun p=>aB p.2 p.2.body) aLr (aC (P:=fun p=>aB p.2 p.2.body) aLq (aC (P:=fun p=>aB p.2 p.2.body) aLp (aC (P:=fun p=>aB p.2 p.2.body) aLo (aC (P:=fun p=>aB p.2 p.2.body) aLn (aC (P:=fun p=>aB p.2 p.2.body) aLm (aC (P:=fun p=>aB p.2 p.2.body) aLl (aC (P:=fun p=>aB p.2 p.2.body) aLk (aC (P:=fun p=>aB p.2 p.2.body) aLj (aC (P:=fun p=>aB p.2 p.2.body) aLi (aC (P:=fun p=>aB p.2 p.2.body) aLh (aC (P:=fun p=>aB p.2 p.2.body) aLg (aC (P:=fun p=>aB p.2 p.2.body) aLf (aC (P:=fun p=>aB p.2 p.2.body) aLe (aC (P:=fun p=>aB p.2 p.2.body) aLd (aC (P:=fun p=>aB p.2 p.2.body) aLc (aC (P:=fun p=>aB p.2 p.2.body) aLb (aC (P:=fun p=>aB p.2 p.2.body) aLa (aC (P:=fun p=>aB p.2 p.2.body) aKZ (aC (P:=fun p=>aB p.2 p.2.body) aKY (aC (P:=fun p=>aB p.2 p.2.body) aKX (aC (P:=fun p=>aB p.2 p.2.body) aKW (aC (P:=fun p=>aB p.2 p.2.body) aKV (aC (P:=fun p=>aB p.2 p.2.body) aKU (aC (P:=fun p=>aB p.2 p.2.body) aKT (aC (P:=fun p=>aB p.2 p.2.body) aKS (aC (P:=fun p=>aB p.2 p.2.body) aKR (aC (P:=fun p=>aB p.2 p.2.body) aKQ (aC (P:=fun p=>aB p.2 p.2.body) aKP (aC (P:=fun p=>aB p.2 p.2.body) aKO (aC (P:=fun p=>aB p.2 p.2.body) aKN (aC (P:=fun p=>aB p.2 p.2.body) aKM (aC (P:=fun p=>aB p.2 p.2.body) aKL (fun _ h=>nomatch h)))))))))))))))))))))))))))))))))))))))))))))))))))))))))))))))))))))))))))))))))))))))))))))))))))))
theorem pnX:∀ p∈aEQ,p.2.prm=none :=
 aC (P:=fun p=>p.2.prm=none) rfl (aC (P:=fun p=>p.2.prm=none) rfl (aC (P:=fun p=>p.2.prm=none) rfl (aC (P:=fun p=>p.2.prm=none) rfl (aC (P:=fun p=>p.2.prm=none) rfl (aC (P:=fun p=>p.2.prm=none) rfl (aC (P:=fun p=>p.2.prm=none) rfl (aC (P:=fun p=>p.2.prm=none) rfl (aC (P:=fun p=>p.2.prm=none) rfl (aC (P:=fun p=>p.2.prm=none) rfl (aC (P:=fun p=>p.2.prm=none) rfl (aC (P:=fun p=>p.2.prm=none) rfl (aC (P:=fun p=>p.2.prm=none) rfl (aC (P:=fun p=>p.2.prm=none) rfl (aC (P:=fun p=>p.2.prm=none) rfl (aC (P:=fun p=>p.2.prm=none) rfl (aC (P:=fun p=>p.2.prm=none) rfl (aC (P:=fun p=>p.2.prm=none) rfl (aC (P:=fun p=>p.2.prm=none) rfl (aC (P:=fun p=>p.2.prm=none) rfl (aC (P:=fun p=>p.2.prm=none) rfl (aC (P:=fun p=>p.2.prm=none) rfl (aC (P:=fun p=>p.2.prm=none) rfl (aC (P:=fun p=>p.2.prm=none) rfl (aC (P:=fun p=>p.2.prm=none) rfl (aC (P:=fun p=>p.2.prm=none) rfl (aC (P:=fun p=>p.2.prm=none) rfl (aC (P:=fun p=>p.2.prm=none) rfl (aC (P:=fun p=>p.2.prm=none) rfl (aC (P:=fun p=>p.2.prm=none) rfl (aC (P:=fun p=>p.2.prm=none) rfl (aC (P:=fun p=>p.2.prm=none) rfl (aC (P:=fun p=>p.2.prm=none) rfl (aC (P:=fun p=>p.2.prm=none) rfl (aC (P:=fun p=>p.2.prm=none) rfl (aC (P:=fun p=>p.2.prm=none) rfl (aC (P:=fun p=>p.2.prm=none) rfl (aC (P:=fun p=>p.2.prm=none) rfl (aC (P:=fun p=>p.2.prm=none) rfl (aC (P:=fun p=>p.2.prm=none) rfl (aC (P:=fun p=>p.2.prm=none) rfl (aC (P:=fun p=>p.2.prm=none) rfl (aC (P:=fun p=>p.2.prm=none) rfl (aC (P:=fun p=>p.2.prm=none) rfl (aC (P:=fun p=>p.2.prm=none) rfl (aC (P:=fun p=>p.2.prm=none) rfl (aC (P:=fun p=>p.2.prm=none) rfl (aC (P:=fun p=>p.2.prm=none) rfl (aC (P:=fun p=>p.2.prm=none) rfl (aC (P:=fun p=>p.2.prm=none) rfl (aC (P:=fun p=>p.2.prm=none) rfl (aC (P:=fun p=>p.2.prm=none) rfl (aC (P:=fun p=>p.2.prm=none) rfl (aC (P:=fun p=>p.2.prm=none) rfl (aC (P:=fun p=>p.2.prm=none) rfl (aC (P:=fun p=>p.2.prm=none) rfl (aC (P:=fun p=>p.2.prm=none) rfl (aC (P:=fun p=>p.2.prm=none) rfl (aC (P:=fun p=>p.2.prm=none) rfl (aC (P:=fun p=>p.2.prm=none) rfl (aC (P:=fun p=>p.2.prm=none) rfl (aC (P:=fun p=>p.2.prm=none) rfl (aC (P:=fun p=>p.2.prm=none) rfl (aC (P:=fun p=>p.2.prm=none) rfl (aC (P:=fun p=>p.2.prm=none) rfl (aC (P:=fun p=>p.2.prm=none) rfl (aC (P:=fun p=>p.2.prm=none) rfl (aC (P:=fun p=>p.2.prm=none) rfl (aC (P:=fun p=>p.2.prm=none) rfl (aC (P:=fun p=>p.2.prm=none) rfl (aC (P:=fun p=>p.2.prm=none) rfl (aC (P:=fun p=>p.2.prm=none) rfl (aC (P:=fun p=>p.2.prm=none) rfl (aC (P:=fun p=>p.2.prm=none) rfl (aC (P:=fun p=>p.2.prm=none) rfl (aC (P:=fun p=>p.2.prm=none) rfl (aC (P:=fun p=>p.2.prm=none) rfl (aC (P:=fun p=>p.2.prm=none) rfl (aC (P:=fun p=>p.2.prm=none) rfl (aC (P:=fun p=>p.2.prm=none) rfl (aC (P:=fun p=>p.2.prm=none) rfl (aC (P:=fun p=>p.2.prm=none) rfl (aC (P:=fun p=>p.2.prm=none) rfl (aC (P:=fun p=>p.2.prm=none) rfl (aC (P:=fun p=>p.2.prm=none) rfl (aC (P:=fun p=>p.2.prm=none) rfl (aC (P:=fun p=>p.2.prm=none) rfl (aC (P:=fun p=>p.2.prm=none) rfl (aC (P:=fun p=>p.2.prm=none) rfl (aC (P:=fun p=>p.2.prm=none) rfl (aC (P:=fun p=>p.2.prm=none) rfl (aC (P:=fun p=>p.2.prm=none) rfl (aC (P:=fun p=>p.2.prm=none) rfl (aC (P:=fun p=>p.2.prm=none) rfl (aC (P:=fun p=>p.2.prm=none) rfl (aC (P:=fun p=>p.2.prm=none) rfl (aC (P:=fun p=>p.2.prm=none) rfl (aC (P:=fun p=>p.2.prm=none) rfl (aC (P:=fun p=>p.2.prm=none) rfl (aC (P:=fun p=>p.2.prm=none) rfl (aC (P:=fun p=>p.2.prm=none) rfl (fun _ h=>nomatch h)))))))))))))))))))))))))))))))))))))))))))))))))))))))))))))))))))))))))))))))))))))))))))))))))))))
theorem aJp {k:Nat} {d:XFn} (h:aFw k=some d):d.prm=none:=pnX _ (jO h)
theorem progX_ok:XOk prog aFw:=⟨rfl,fun k d h _=>isX _ (jO h),fun k d f h hp=>(by rw[aJp h]at hp;cases hp),fun k d h=>aRj _ (jO h),fun k d h=>stX _ (jO h)⟩
end Go.Proofs.YtmapgnepfgnphaaGreatDoor
namespace Go.Proofs
open Go.Shelf
def Tryz.lays156_ren:Go.Shelf.Ren:=⟨fun|156=>99|165=>138|166=>69|169=>71|240=>115|241=>161|276=>140|277=>187|n=>n,fun|31=>22|9=>9|3=>3|4=>4|0=>0|20=>20|72=>126|76=>129|70=>124|37=>59|75=>128|127=>183|164=>215|5=>5|80=>37|n=>n,fun|n=>n⟩
theorem Tryz.lays156:Go.Proofs.Lays.n156 Tryz.prog Tryz.lays156_ren:={
 mixed:=by kernel_rfl
 f156:=Tryz.func99.trans (congrArg some (by kernel_rfl))
 f165:=Tryz.func138.trans (congrArg some (by kernel_rfl))
 f166:=Tryz.func69.trans (congrArg some (by kernel_rfl))
 f169:=Tryz.func71.trans (congrArg some (by kernel_rfl))
 f240:=Tryz.func115.trans (congrArg some (by kernel_rfl))
 f241:=Tryz.func161.trans (congrArg some (by kernel_rfl))
 f276:=Tryz.func140.trans (congrArg some (by kernel_rfl))
 f277:=Tryz.func187.trans (congrArg some (by kernel_rfl))
 t0:=Tryz.underlying0
 a0:=Tryz.isAgg0
 z0:=Tryz.sizeOf0
 v0:=Tryz.zeroValue0
 t3:=Tryz.underlying3
 a3:=Tryz.isAgg3
 z3:=Tryz.sizeOf3
 v3:=Tryz.zeroValue3
 t4:=Tryz.underlying4
 a4:=Tryz.isAgg4
 z4:=Tryz.sizeOf4
 v4:=Tryz.zeroValue4
 t9:=Tryz.underlying9
 a9:=Tryz.isAgg9
 z9:=Tryz.sizeOf9
 v9:=Tryz.zeroValue9
 t20:=Tryz.underlying20
 a20:=Tryz.isAgg20
 z20:=Tryz.sizeOf20
 v20:=Tryz.zeroValue20
 t31:=Tryz.underlying22
 a31:=Tryz.isAgg22
 z31:=Tryz.sizeOf22
 v31:=Tryz.zeroValue22
 t37:=Tryz.underlying59
 a37:=Tryz.isAgg59
 z37:=Tryz.sizeOf59
 v37:=Tryz.zeroValue59
 t70:=Tryz.underlying124
 a70:=Tryz.isAgg124
 z70:=Tryz.sizeOf124
 v70:=Tryz.zeroValue124
 t72:=Tryz.underlying126
 a72:=Tryz.isAgg126
 z72:=Tryz.sizeOf126
 v72:=Tryz.zeroValue126
 t75:=Tryz.underlying128
 a75:=Tryz.isAgg128
 z75:=Tryz.sizeOf128
 v75:=Tryz.zeroValue128
 t76:=Tryz.underlying129
 a76:=Tryz.isAgg129
 z76:=Tryz.sizeOf129
 v76:=Tryz.zeroValue129
 t127:=Tryz.underlying183
 a127:=Tryz.isAgg183
 z127:=Tryz.sizeOf183
 v127:=Tryz.zeroValue183
 t164:=Tryz.underlying215
 a164:=Tryz.isAgg215
 z164:=Tryz.sizeOf215
 v164:=Tryz.zeroValue215 }
theorem Tryz.Builder_Extra_156:Builder.Extra Tryz.prog Tryz.lays156_ren:={
 sizeBuilder:=by kernel_rfl
 liesBuilder:=by kernel_rfl
 t5:=Tryz.underlying5
 a5:=Tryz.isAgg5
 z5:=Tryz.sizeOf5
 v5:=Tryz.zeroValue5
 infoByte:=by kernel_rfl
 cellsByte:=by kernel_rfl
 sizeByte:=by kernel_rfl
 neB5:=by decide }
open Go.RowKit in
theorem Tryz.strings_Join_none (a:Option Addr) (c:Nat) (sep:ByteArray) (w:World) :
 Calls Tryz.prog 99 #[.slice a 0 c,.string sep] w fun e w'=>e = .returned (.string ⟨#[]⟩)∧w'=w:=Any.strings_Join_none Tryz.lays156 Tryz.Builder_Extra_156 a c sep w
open Go.RowKit in
theorem Tryz.strings_Join (bk o c:Nat) (xs:List ByteArray) (sep:ByteArray) (w:World) (hcells:∀ (j:Nat) x,xs[j]?=some x→w.cell? ⟨bk,o+j,none⟩=some (.string x)) (hbk:bk<w.heap.size) (hN:xs.length≤140737488355328) (hcap:xs.length≤c) (hlen:(Lib.join (xs.map (·.data.toList)) sep.data.toList).length≤140737488355328) :
 Calls Tryz.prog 99 #[.slice (some ⟨bk,o,none⟩) xs.length c,.string sep] w fun e w'=>e = .returned (.string ⟨(Lib.join (xs.map (·.data.toList)) sep.data.toList).toArray⟩)∧Below w.heap.size w w':=Any.strings_Join Tryz.lays156 Tryz.Builder_Extra_156 bk o c xs sep w hcells hbk hN hcap hlen
def Tryz.lays162_ren:Go.Shelf.Ren:=⟨fun|162=>80|232=>120|227=>121|234=>122|236=>123|228=>144|271=>145|151=>146|120=>168|197=>169|152=>170|260=>192|137=>193|119=>194|224=>195|225=>196|217=>199|266=>209|n=>n,fun|9=>9|4=>4|3=>3|5=>5|117=>188|116=>187|0=>0|124=>191|21=>21|105=>218|46=>238|119=>286|139=>289|138=>288|n=>n,fun|3=>4|4=>5|n=>n⟩
theorem Tryz.lays162:Go.Proofs.Lays.n162 Tryz.prog Tryz.lays162_ren:={
 mixed:=by kernel_rfl
 f119:=Tryz.func194.trans (congrArg some (by kernel_rfl))
 f120:=Tryz.func168.trans (congrArg some (by kernel_rfl))
 f137:=Tryz.func193.trans (congrArg some (by kernel_rfl))
 f151:=Tryz.func146.trans (congrArg some (by kernel_rfl))
 f152:=Tryz.func170.trans (congrArg some (by kernel_rfl))
 f162:=Tryz.func80.trans (congrArg some (by kernel_rfl))
 f197:=Tryz.func169.trans (congrArg some (by kernel_rfl))
 f217:=Tryz.func199.trans (congrArg some (by kernel_rfl))
 f224:=Tryz.func195.trans (congrArg some (by kernel_rfl))
 f225:=Tryz.func196.trans (congrArg some (by kernel_rfl))
 f227:=Tryz.func121.trans (congrArg some (by kernel_rfl))
 f228:=Tryz.func144.trans (congrArg some (by kernel_rfl))
 f232:=Tryz.func120.trans (congrArg some (by kernel_rfl))
 f234:=Tryz.func122.trans (congrArg some (by kernel_rfl))
 f236:=Tryz.func123.trans (congrArg some (by kernel_rfl))
 f260:=Tryz.func192.trans (congrArg some (by kernel_rfl))
 f266:=Tryz.func209.trans (congrArg some (by kernel_rfl))
 f271:=Tryz.func145.trans (congrArg some (by kernel_rfl))
 t0:=Tryz.underlying0
 a0:=Tryz.isAgg0
 z0:=Tryz.sizeOf0
 v0:=Tryz.zeroValue0
 t3:=Tryz.underlying3
 a3:=Tryz.isAgg3
 z3:=Tryz.sizeOf3
 v3:=Tryz.zeroValue3
 t4:=Tryz.underlying4
 a4:=Tryz.isAgg4
 z4:=Tryz.sizeOf4
 v4:=Tryz.zeroValue4
 t5:=Tryz.underlying5
 a5:=Tryz.isAgg5
 z5:=Tryz.sizeOf5
 v5:=Tryz.zeroValue5
 t9:=Tryz.underlying9
 a9:=Tryz.isAgg9
 z9:=Tryz.sizeOf9
 v9:=Tryz.zeroValue9
 t21:=Tryz.underlying21
 a21:=Tryz.isAgg21
 z21:=Tryz.sizeOf21
 v21:=Tryz.zeroValue21
 t46:=Tryz.underlying238
 a46:=Tryz.isAgg238
 z46:=Tryz.sizeOf238
 v46:=Tryz.zeroValue238
 t105:=Tryz.underlying218
 a105:=Tryz.isAgg218
 z105:=Tryz.sizeOf218
 v105:=Tryz.zeroValue218
 t116:=Tryz.underlying187
 a116:=Tryz.isAgg187
 z116:=Tryz.sizeOf187
 t117:=Tryz.underlying188
 a117:=Tryz.isAgg188
 z117:=Tryz.sizeOf188
 v117:=Tryz.zeroValue188
 t119:=Tryz.underlying286
 a119:=Tryz.isAgg286
 z119:=Tryz.sizeOf286
 t124:=Tryz.underlying191
 a124:=Tryz.isAgg191
 z124:=Tryz.sizeOf191
 v124:=Tryz.zeroValue191
 t138:=Tryz.underlying288
 a138:=Tryz.isAgg288
 z138:=Tryz.sizeOf288
 v138:=Tryz.zeroValue288
 t139:=Tryz.underlying289
 a139:=Tryz.isAgg289
 z139:=Tryz.sizeOf289
 v139:=Tryz.zeroValue289
 g3:=by kernel_rfl
 g4:=by kernel_rfl }
open Go.RowKit in
theorem Tryz.strings_TrimRight_one (s:ByteArray) (c:UInt8) (hc:c.toNat<128) (w:World) (hs:s.size≤9223372036854775807) :
 Calls Tryz.prog 80 #[.string s,.string ⟨#[c]⟩] w fun e w'=>e = .returned (.string ⟨(Lib.trimRightB s.data.toList c).toArray⟩)∧w'=w:=Any.strings_TrimRight_one Tryz.lays162 s c hc w hs
def Tryz.lays103_ren:Go.Shelf.Ren:=⟨fun|103=>72|210=>117|206=>141|n=>n,fun|9=>9|4=>4|24=>55|3=>3|n=>n,fun|n=>n⟩
theorem Tryz.lays103:Go.Proofs.Lays.n103 Tryz.prog Tryz.lays103_ren:={
 mixed:=by kernel_rfl
 f103:=Tryz.func72.trans (congrArg some (by kernel_rfl))
 f206:=Tryz.func141.trans (congrArg some (by kernel_rfl))
 f210:=Tryz.func117.trans (congrArg some (by kernel_rfl))
 t3:=Tryz.underlying3
 a3:=Tryz.isAgg3
 z3:=Tryz.sizeOf3
 v3:=Tryz.zeroValue3
 t4:=Tryz.underlying4
 a4:=Tryz.isAgg4
 z4:=Tryz.sizeOf4
 v4:=Tryz.zeroValue4
 t9:=Tryz.underlying9
 a9:=Tryz.isAgg9
 z9:=Tryz.sizeOf9
 v9:=Tryz.zeroValue9
 t24:=Tryz.underlying55
 a24:=Tryz.isAgg55
 z24:=Tryz.sizeOf55
 v24:=Tryz.zeroValue55 }
open Go.RowKit in
theorem Tryz.strings_CutPrefix (s p:ByteArray) (w:World) :
 Calls Tryz.prog 72 #[.string s,.string p] w fun e w'=>e = .returned (.tuple #[.string ⟨(Lib.trimPrefix s.data.toList p.data.toList).toArray⟩,.bool (Lib.hasPrefix s.data.toList p.data.toList)])∧w'=w:=Any.strings_CutPrefix Tryz.lays103 s p w
def Tryz.laysM171_ren:Go.Shelf.Ren:=⟨fun|171=>57|243=>82|246=>124|283=>147|284=>148|285=>149|286=>150|129=>172|317=>171|318=>173|319=>174|320=>175|337=>197|338=>198|n=>n,fun|3=>3|9=>9|2=>2|4=>4|171=>221|0=>0|53=>222|37=>59|5=>5|173=>225|212=>251|51=>252|20=>20|213=>253|46=>238|232=>290|233=>291|n=>n,fun|17=>0|18=>6|19=>7|n=>n⟩
theorem Tryz.laysM171:Go.Proofs.LaysM.n171 Tryz.prog Tryz.laysM171_ren:={
 mixed:=by kernel_rfl
 f129:=Tryz.func172.trans (congrArg some (by kernel_rfl))
 f171:=Tryz.func57.trans (congrArg some (by kernel_rfl))
 f243:=Tryz.func82.trans (congrArg some (by kernel_rfl))
 f246:=Tryz.func124.trans (congrArg some (by kernel_rfl))
 f283:=Tryz.func147.trans (congrArg some (by kernel_rfl))
 f284:=Tryz.func148.trans (congrArg some (by kernel_rfl))
 f285:=Tryz.func149.trans (congrArg some (by kernel_rfl))
 f286:=Tryz.func150.trans (congrArg some (by kernel_rfl))
 f317:=Tryz.func171.trans (congrArg some (by kernel_rfl))
 f318:=Tryz.func173.trans (congrArg some (by kernel_rfl))
 f319:=Tryz.func174.trans (congrArg some (by kernel_rfl))
 f320:=Tryz.func175.trans (congrArg some (by kernel_rfl))
 f337:=Tryz.func197.trans (congrArg some (by kernel_rfl))
 f338:=Tryz.func198.trans (congrArg some (by kernel_rfl))
 t0:=Tryz.underlying0
 a0:=Tryz.isAgg0
 z0:=Tryz.sizeOf0
 v0:=Tryz.zeroValue0
 t2:=Tryz.underlying2
 a2:=Tryz.isAgg2
 z2:=Tryz.sizeOf2
 v2:=Tryz.zeroValue2
 t3:=Tryz.underlying3
 a3:=Tryz.isAgg3
 z3:=Tryz.sizeOf3
 v3:=Tryz.zeroValue3
 t4:=Tryz.underlying4
 a4:=Tryz.isAgg4
 z4:=Tryz.sizeOf4
 v4:=Tryz.zeroValue4
 t5:=Tryz.underlying5
 a5:=Tryz.isAgg5
 z5:=Tryz.sizeOf5
 v5:=Tryz.zeroValue5
 t9:=Tryz.underlying9
 a9:=Tryz.isAgg9
 z9:=Tryz.sizeOf9
 v9:=Tryz.zeroValue9
 t20:=Tryz.underlying20
 a20:=Tryz.isAgg20
 z20:=Tryz.sizeOf20
 v20:=Tryz.zeroValue20
 t37:=Tryz.underlying59
 a37:=Tryz.isAgg59
 z37:=Tryz.sizeOf59
 v37:=Tryz.zeroValue59
 t46:=Tryz.underlying238
 a46:=Tryz.isAgg238
 z46:=Tryz.sizeOf238
 v46:=Tryz.zeroValue238
 t51:=Tryz.underlying252
 a51:=Tryz.isAgg252
 z51:=Tryz.sizeOf252
 v51:=Tryz.zeroValue252
 t53:=Tryz.underlying222
 a53:=Tryz.isAgg222
 z53:=Tryz.sizeOf222
 v53:=Tryz.zeroValue222
 t171:=Tryz.underlying221
 a171:=Tryz.isAgg221
 z171:=Tryz.sizeOf221
 v171:=Tryz.zeroValue221
 t173:=Tryz.underlying225
 a173:=Tryz.isAgg225
 z173:=Tryz.sizeOf225
 v173:=Tryz.zeroValue225
 t212:=Tryz.underlying251
 a212:=Tryz.isAgg251
 z212:=Tryz.sizeOf251
 v212:=Tryz.zeroValue251
 t213:=Tryz.underlying253
 a213:=Tryz.isAgg253
 z213:=Tryz.sizeOf253
 t232:=Tryz.underlying290
 a232:=Tryz.isAgg290
 z232:=Tryz.sizeOf290
 v232:=Tryz.zeroValue290
 t233:=Tryz.underlying291
 a233:=Tryz.isAgg291
 z233:=Tryz.sizeOf291
 v233:=Tryz.zeroValue291
 g17:=by kernel_rfl
 g18:=by kernel_rfl
 g19:=by kernel_rfl
 i0:=by kernel_rfl
 i2:=by kernel_rfl
 i3:=by kernel_rfl
 i4:=by kernel_rfl
 i5:=by kernel_rfl
 i9:=by kernel_rfl
 i20:=by kernel_rfl
 i37:=by kernel_rfl
 i46:=by kernel_rfl
 i51:=by kernel_rfl
 i53:=by kernel_rfl
 i171:=by kernel_rfl
 i173:=by kernel_rfl
 i212:=by kernel_rfl
 i232:=by kernel_rfl
 i233:=by kernel_rfl
 m17:=by kernel_rfl
 m18:=by kernel_rfl
 m19:=by kernel_rfl }
open Go.RowKit Go.Sort Go.Lib in
theorem Tryz.strconv_Itoa (n:Int) (h0 : -9223372036854775808≤n) (h1:n≤9223372036854775807) (w:World) (htab:Lib.TabIs Tryz.prog w "internal/strconv.uint64pow10" .u64 Lib.pow10Tab) :
 Calls Tryz.prog 57 #[.int .i64 n] w fun e w'=>e = .returned (.string ⟨(Lib.itoa n).toArray⟩)∧∃ k os,w'=grow (w.drewN k) os:=Any.strconv_Itoa Tryz.laysM171 n h0 h1 w htab
def Tryz.laysGw17_ren:Go.Shelf.Ren:=⟨fun|17=>74|15=>118|20=>142|n=>n,fun|9=>9|23=>137|4=>4|3=>3|0=>0|21=>21|n=>n,fun|n=>n⟩
theorem Tryz.laysGw17:Go.Proofs.LaysGw.n17 Tryz.prog Tryz.laysGw17_ren:={
 mixed:=by kernel_rfl
 f15:=Tryz.func118.trans (congrArg some (by kernel_rfl))
 f17:=Tryz.func74.trans (congrArg some (by kernel_rfl))
 f20:=Tryz.func142.trans (congrArg some (by kernel_rfl))
 t0:=Tryz.underlying0
 a0:=Tryz.isAgg0
 z0:=Tryz.sizeOf0
 v0:=Tryz.zeroValue0
 i0:=by kernel_rfl
 t3:=Tryz.underlying3
 a3:=Tryz.isAgg3
 z3:=Tryz.sizeOf3
 v3:=Tryz.zeroValue3
 i3:=by kernel_rfl
 t4:=Tryz.underlying4
 a4:=Tryz.isAgg4
 z4:=Tryz.sizeOf4
 v4:=Tryz.zeroValue4
 i4:=by kernel_rfl
 t9:=Tryz.underlying9
 a9:=Tryz.isAgg9
 z9:=Tryz.sizeOf9
 v9:=Tryz.zeroValue9
 i9:=by kernel_rfl
 t21:=Tryz.underlying21
 a21:=Tryz.isAgg21
 z21:=Tryz.sizeOf21
 v21:=Tryz.zeroValue21
 i21:=by kernel_rfl
 t23:=Tryz.underlying137
 a23:=Tryz.isAgg137
 z23:=Tryz.sizeOf137
 v23:=Tryz.zeroValue137
 i23:=by kernel_rfl }
open Go.RowKit Go.Lib in
theorem Tryz.strings_ContainsFunc_runes (g:Nat) (lb:Array Value) (eg:∀ args w,(callFunc g args).run Tryz.prog w = .ok (.enter g args) w) (p:Nat→Bool) (s:ByteArray) (w:World) (hp:PredAtRunes Tryz.prog g lb p w) :
 Calls Tryz.prog 74 #[.string s,.func (.func g) #[] lb] w fun e w'=>e = .returned (.bool (decide (0≤Lib.idxFunc p true s)))∧Below w.heap.size w w':=Any.strings_ContainsFunc_runes Tryz.laysGw17 g lb eg p s w hp
def Tryz.lays100_ren:Go.Shelf.Ren:=⟨fun|100=>37|207=>76|n=>n,fun|9=>9|4=>4|3=>3|n=>n,fun|n=>n⟩
theorem Tryz.lays100:Go.Proofs.Lays.n100 Tryz.prog Tryz.lays100_ren:={
 mixed:=by kernel_rfl
 f100:=Tryz.func37.trans (congrArg some (by kernel_rfl))
 f207:=Tryz.func76.trans (congrArg some (by kernel_rfl))
 t3:=Tryz.underlying3
 a3:=Tryz.isAgg3
 z3:=Tryz.sizeOf3
 v3:=Tryz.zeroValue3
 t4:=Tryz.underlying4
 a4:=Tryz.isAgg4
 z4:=Tryz.sizeOf4
 v4:=Tryz.zeroValue4
 t9:=Tryz.underlying9
 a9:=Tryz.isAgg9
 z9:=Tryz.sizeOf9
 v9:=Tryz.zeroValue9 }
open Go.RowKit Go.Lib in
theorem Tryz.strings_HasSuffix (s p:ByteArray) (w:World) (hs:s.size≤9223372036854775807) :
 Calls Tryz.prog 37 #[.string s,.string p] w fun e w'=>e = .returned (.bool (Lib.hasSuffix s.data.toList p.data.toList))∧w'=w:=Any.strings_HasSuffix Tryz.lays100 s p w hs
def Tryz.lays146_ren:Go.Shelf.Ren:=⟨fun|146=>83|221=>125|268=>151|138=>152|143=>153|195=>176|197=>169|218=>177|219=>178|260=>192|217=>199|225=>196|224=>195|267=>200|266=>209|314=>210|n=>n,fun|9=>9|31=>22|3=>3|4=>4|0=>0|105=>218|21=>21|5=>5|46=>238|119=>286|139=>289|138=>288|146=>272|51=>252|n=>n,fun|1=>3|3=>4|4=>5|n=>n⟩
theorem Tryz.lays146:Go.Proofs.Lays.n146 Tryz.prog Tryz.lays146_ren:={
 mixed:=by kernel_rfl
 f138:=Tryz.func152.trans (congrArg some (by kernel_rfl))
 f143:=Tryz.func153.trans (congrArg some (by kernel_rfl))
 f146:=Tryz.func83.trans (congrArg some (by kernel_rfl))
 f195:=Tryz.func176.trans (congrArg some (by kernel_rfl))
 f197:=Tryz.func169.trans (congrArg some (by kernel_rfl))
 f217:=Tryz.func199.trans (congrArg some (by kernel_rfl))
 f218:=Tryz.func177.trans (congrArg some (by kernel_rfl))
 f219:=Tryz.func178.trans (congrArg some (by kernel_rfl))
 f221:=Tryz.func125.trans (congrArg some (by kernel_rfl))
 f224:=Tryz.func195.trans (congrArg some (by kernel_rfl))
 f225:=Tryz.func196.trans (congrArg some (by kernel_rfl))
 f260:=Tryz.func192.trans (congrArg some (by kernel_rfl))
 f266:=Tryz.func209.trans (congrArg some (by kernel_rfl))
 f267:=Tryz.func200.trans (congrArg some (by kernel_rfl))
 f268:=Tryz.func151.trans (congrArg some (by kernel_rfl))
 f314:=Tryz.func210.trans (congrArg some (by kernel_rfl))
 t0:=Tryz.underlying0
 a0:=Tryz.isAgg0
 z0:=Tryz.sizeOf0
 v0:=Tryz.zeroValue0
 t3:=Tryz.underlying3
 a3:=Tryz.isAgg3
 z3:=Tryz.sizeOf3
 v3:=Tryz.zeroValue3
 t4:=Tryz.underlying4
 a4:=Tryz.isAgg4
 z4:=Tryz.sizeOf4
 v4:=Tryz.zeroValue4
 t5:=Tryz.underlying5
 a5:=Tryz.isAgg5
 z5:=Tryz.sizeOf5
 v5:=Tryz.zeroValue5
 t9:=Tryz.underlying9
 a9:=Tryz.isAgg9
 z9:=Tryz.sizeOf9
 v9:=Tryz.zeroValue9
 t21:=Tryz.underlying21
 a21:=Tryz.isAgg21
 z21:=Tryz.sizeOf21
 v21:=Tryz.zeroValue21
 t31:=Tryz.underlying22
 a31:=Tryz.isAgg22
 z31:=Tryz.sizeOf22
 v31:=Tryz.zeroValue22
 t46:=Tryz.underlying238
 a46:=Tryz.isAgg238
 z46:=Tryz.sizeOf238
 v46:=Tryz.zeroValue238
 t51:=Tryz.underlying252
 a51:=Tryz.isAgg252
 z51:=Tryz.sizeOf252
 v51:=Tryz.zeroValue252
 t105:=Tryz.underlying218
 a105:=Tryz.isAgg218
 z105:=Tryz.sizeOf218
 v105:=Tryz.zeroValue218
 t119:=Tryz.underlying286
 a119:=Tryz.isAgg286
 z119:=Tryz.sizeOf286
 t138:=Tryz.underlying288
 a138:=Tryz.isAgg288
 z138:=Tryz.sizeOf288
 v138:=Tryz.zeroValue288
 t139:=Tryz.underlying289
 a139:=Tryz.isAgg289
 z139:=Tryz.sizeOf289
 v139:=Tryz.zeroValue289
 t146:=Tryz.underlying272
 a146:=Tryz.isAgg272
 z146:=Tryz.sizeOf272
 v146:=Tryz.zeroValue272
 g1:=by kernel_rfl
 g3:=by kernel_rfl
 g4:=by kernel_rfl }
open Go.RowKit Go.Lib in
theorem Tryz.strings_Split (s sep:ByteArray) (m:Int) (w:World) (hs:s.size<4294967281) (hm:w.cell? ⟨3,0,none⟩=some (.int .i64 m)) (h1:1≤sep.size) :
 Calls Tryz.prog 83 #[.string s,.string sep] w fun e w' =>
  e = .returned (.slice (some ⟨w.heap.size,0,none⟩) (Lib.countB s sep+1) (Lib.countB s sep+1))∧w'=w.alloc (.cells ((Lib.splitB sep 0 (Lib.countB s sep) s).map Value.string).toArray 9):=Any.strings_Split Tryz.lays146 (by kernel_rfl) s sep m w hs hm h1
def Tryz.lays105_ren:Go.Shelf.Ren:=⟨fun|105=>143|212=>165|99=>166|165=>138|166=>69|170=>167|169=>71|263=>190|264=>191|206=>141|240=>115|241=>161|276=>140|277=>187|n=>n,fun|9=>9|3=>3|4=>4|20=>20|0=>0|46=>238|109=>246|5=>5|72=>126|76=>129|51=>252|146=>272|53=>222|148=>274|70=>124|37=>59|75=>128|127=>183|164=>215|80=>37|n=>n,fun|n=>n⟩
theorem Tryz.lays105:Go.Proofs.Lays.n105 Tryz.prog Tryz.lays105_ren:={
 mixed:=by kernel_rfl
 f99:=Tryz.func166.trans (congrArg some (by kernel_rfl))
 f105:=Tryz.func143.trans (congrArg some (by kernel_rfl))
 f165:=Tryz.func138.trans (congrArg some (by kernel_rfl))
 f166:=Tryz.func69.trans (congrArg some (by kernel_rfl))
 f169:=Tryz.func71.trans (congrArg some (by kernel_rfl))
 f170:=Tryz.func167.trans (congrArg some (by kernel_rfl))
 f206:=Tryz.func141.trans (congrArg some (by kernel_rfl))
 f212:=Tryz.func165.trans (congrArg some (by kernel_rfl))
 f240:=Tryz.func115.trans (congrArg some (by kernel_rfl))
 f241:=Tryz.func161.trans (congrArg some (by kernel_rfl))
 f263:=Tryz.func190.trans (congrArg some (by kernel_rfl))
 f264:=Tryz.func191.trans (congrArg some (by kernel_rfl))
 f276:=Tryz.func140.trans (congrArg some (by kernel_rfl))
 f277:=Tryz.func187.trans (congrArg some (by kernel_rfl))
 t0:=Tryz.underlying0
 a0:=Tryz.isAgg0
 z0:=Tryz.sizeOf0
 v0:=Tryz.zeroValue0
 t3:=Tryz.underlying3
 a3:=Tryz.isAgg3
 z3:=Tryz.sizeOf3
 v3:=Tryz.zeroValue3
 t4:=Tryz.underlying4
 a4:=Tryz.isAgg4
 z4:=Tryz.sizeOf4
 v4:=Tryz.zeroValue4
 t5:=Tryz.underlying5
 a5:=Tryz.isAgg5
 z5:=Tryz.sizeOf5
 v5:=Tryz.zeroValue5
 t9:=Tryz.underlying9
 a9:=Tryz.isAgg9
 z9:=Tryz.sizeOf9
 v9:=Tryz.zeroValue9
 t20:=Tryz.underlying20
 a20:=Tryz.isAgg20
 z20:=Tryz.sizeOf20
 v20:=Tryz.zeroValue20
 t37:=Tryz.underlying59
 a37:=Tryz.isAgg59
 z37:=Tryz.sizeOf59
 v37:=Tryz.zeroValue59
 t46:=Tryz.underlying238
 a46:=Tryz.isAgg238
 z46:=Tryz.sizeOf238
 v46:=Tryz.zeroValue238
 t51:=Tryz.underlying252
 a51:=Tryz.isAgg252
 z51:=Tryz.sizeOf252
 v51:=Tryz.zeroValue252
 t53:=Tryz.underlying222
 a53:=Tryz.isAgg222
 z53:=Tryz.sizeOf222
 v53:=Tryz.zeroValue222
 t70:=Tryz.underlying124
 a70:=Tryz.isAgg124
 z70:=Tryz.sizeOf124
 v70:=Tryz.zeroValue124
 t72:=Tryz.underlying126
 a72:=Tryz.isAgg126
 z72:=Tryz.sizeOf126
 v72:=Tryz.zeroValue126
 t75:=Tryz.underlying128
 a75:=Tryz.isAgg128
 z75:=Tryz.sizeOf128
 v75:=Tryz.zeroValue128
 t76:=Tryz.underlying129
 a76:=Tryz.isAgg129
 z76:=Tryz.sizeOf129
 v76:=Tryz.zeroValue129
 t109:=Tryz.underlying246
 a109:=Tryz.isAgg246
 z109:=Tryz.sizeOf246
 v109:=Tryz.zeroValue246
 t127:=Tryz.underlying183
 a127:=Tryz.isAgg183
 z127:=Tryz.sizeOf183
 v127:=Tryz.zeroValue183
 t146:=Tryz.underlying272
 a146:=Tryz.isAgg272
 z146:=Tryz.sizeOf272
 v146:=Tryz.zeroValue272
 t148:=Tryz.underlying274
 a148:=Tryz.isAgg274
 z148:=Tryz.sizeOf274
 v148:=Tryz.zeroValue274
 t164:=Tryz.underlying215
 a164:=Tryz.isAgg215
 z164:=Tryz.sizeOf215
 v164:=Tryz.zeroValue215 }
theorem Tryz.Builder_Extra_105:Builder.Extra Tryz.prog Tryz.lays105_ren:={
 sizeBuilder:=by kernel_rfl
 liesBuilder:=by kernel_rfl
 t5:=Tryz.underlying5
 a5:=Tryz.isAgg5
 z5:=Tryz.sizeOf5
 v5:=Tryz.zeroValue5
 infoByte:=by kernel_rfl
 cellsByte:=by kernel_rfl
 sizeByte:=by kernel_rfl
 neB5:=by decide }
open Go.RowKit Go.Lib in
theorem Tryz.strings_Repeat (s:ByteArray) (c:Nat) (w:World) (hc:c≤9223372036854775807) (hlen:s.size*c≤140737488355328) :
 Calls Tryz.prog 143 #[.string s,.int .i64 c] w fun e w'=>e = .returned (.string ⟨(Lib.repeatL s.data.toList c).toArray⟩)∧Below w.heap.size w w':=Any.strings_Repeat Tryz.lays105 Tryz.Builder_Extra_105 s c w hc hlen
def Tryz.lays110_ren:Go.Shelf.Ren:=⟨fun|110=>47|109=>81|n=>n,fun|31=>22|9=>9|4=>4|3=>3|0=>0|n=>n,fun|n=>n⟩
theorem Tryz.lays110:Go.Proofs.Lays.n110 Tryz.prog Tryz.lays110_ren:={
 mixed:=by kernel_rfl
 f109:=Tryz.func81.trans (congrArg some (by kernel_rfl))
 f110:=Tryz.func47.trans (congrArg some (by kernel_rfl))
 t0:=Tryz.underlying0
 a0:=Tryz.isAgg0
 z0:=Tryz.sizeOf0
 v0:=Tryz.zeroValue0
 t3:=Tryz.underlying3
 a3:=Tryz.isAgg3
 z3:=Tryz.sizeOf3
 v3:=Tryz.zeroValue3
 t4:=Tryz.underlying4
 a4:=Tryz.isAgg4
 z4:=Tryz.sizeOf4
 v4:=Tryz.zeroValue4
 t9:=Tryz.underlying9
 a9:=Tryz.isAgg9
 z9:=Tryz.sizeOf9
 v9:=Tryz.zeroValue9
 t31:=Tryz.underlying22
 a31:=Tryz.isAgg22
 z31:=Tryz.sizeOf22
 v31:=Tryz.zeroValue22 }
open Go.Lib in
theorem Tryz.slices_Contains_string (b off n c:Nat) (zs:List ByteArray) (x:ByteArray) (w:World) (hz:n≤zs.length) (hbig:n≤9223372036854775807) (hc:∀ j,j<zs.length→w.cell? ⟨b,off+j,none⟩=some (.string (zs.getD j ByteArray.empty))) :
 Calls Tryz.prog 47 #[.slice (some ⟨b,off,none⟩) n c,.string x] w fun e w'=>e = .returned (.bool (Lib.containsS (zs.take n) x))∧w'=w:=Any.slices_Contains_string Tryz.lays110 b off n c zs x w hz hbig hc
open Go.Lib in
theorem Tryz.slices_Contains_string_empty (a:Option Addr) (c:Nat) (x:ByteArray) (w:World) :
 Calls Tryz.prog 47 #[.slice a 0 c,.string x] w fun e w'=>e = .returned (.bool false)∧w'=w:=Any.slices_Contains_string_empty Tryz.lays110 a c x w
end Go.Proofs
namespace Go.Proofs.YtmapgnepfgnphaaGreatDoor
open Go Go.DL Go.RowKit Go.Proofs.Tryz
variable {D:Nat→Option XFn} {Y:Nat→Option YI} {r:Nat→Option Nat} {h:XH} {H:Hp} {B:Base}

def iO (D:Nat→Option XFn) (K:Nat) (f:List AV→XH→Option (AV×XH)):Prop :=
 ∀ (B:Base) (Y:Nat→Option YI) (r:Nat→Option Nat) (h:XH) (H:Hp) (xs ys:List AV) (v:AV) (h':XH),SH D Y r h H→RnL D Y r xs ys→f xs h=some (v,h')→FnW B Tryz.prog K ys H (dX D Y r v h')

def mA:List AV→XH→Option (AV×XH):=fun xs h=>match xs with
 | [.str s,.int .i64 n]=>if 0≤n∧n≤1000000∧s.size≤1000 then some (.str ⟨⟨Go.Lib.repeatL s.data.toList n.toNat⟩⟩,h) else none
 | _=>none
theorem aBT {s:ByteArray} {k:IntKind} {n:Int} {as':List AV} (hr:RnL D Y r [.str s,.int k n] as'):as'=[.str s,.int k n]:=by
 obtain⟨a,as1,rfl,h1,h2⟩:=hr.inv
 obtain⟨b,as2,rfl,h3,h4⟩:=h2.inv
 rw[cQ h1,bX h3,h4.nil_inv]
theorem aFy:iO D 143 mA:=by
 intro B Y r h H xs ys v h' sh hr hx
 unfold mA at hx
 split at hx
 ·rename_i s n
  split at hx
  ·rename_i hn
   cases hx
   rw[aBT hr]
   have hc:Calls Tryz.prog 143 #[.string s,.int .i64 (n.toNat:Int)]=Calls Tryz.prog 143 #[.string s,.int .i64 n]:=by rw[Int.toNat_of_nonneg hn.1]
   refine FnW.shelf (r:=fun _=>.string ⟨(Go.Lib.repeatL s.data.toList n.toNat).toArray⟩) (fun vs w=>call143 vs w) (fun F w vs=>.str _) (fun F w vs hl ha=>?_) ⟨r,Sub.refl r,sh,.str _⟩
   rw[ha.strInt,←hc]
   exact Tryz.strings_Repeat s n.toNat w (by omega) (by
    have h1:n.toNat≤1000000:=by omega
    have:=Nat.mul_le_mul hn.2.2 h1
    omega)
  ·cases hx
 ·cases hx

def pJ:List (List AV)→Option (List ByteArray)
 | []=>some []
 | [.str x]::l=>(pJ l).map (x :: ·)
 | _=>none
theorem qX:∀ {rows:List (List AV)} {xs:List ByteArray},pJ rows=some xs→xs.length=rows.length∧∀ (j:Nat) (x:ByteArray),xs[j]?=some x→rows[j]?=some [.str x]
 | [],xs,h=>by simp only[pJ,oSI]at h;subst h;simp
 | row::l,xs,h=>by
   unfold pJ at h
   split at h
   ·rename_i h0;cases h0
   ·rename_i x l' h0
    cases h0
    cases hl:pJ l with
    | none=>rw[hl]at h;cases h
    | some ys =>
      rw[hl]at h
      simp only[Option.map_some,oSI]at h
      subst h
      obtain⟨h1,h2⟩:=qX hl
      refine⟨by simp[h1],fun j y hj=>?_⟩
      cases j with
      | zero=>simp at hj;subst hj;rfl
      | succ j=>exact h2 j y (by simpa using hj)
   ·cases h

def aBX:List AV→XH→Option (AV×XH):=fun xs h=>match xs with
 | [.fs rows,.str sep]=>match pJ rows with
   | some l=>if l.length≤1000∧(Go.Lib.join (l.map (·.data.toList)) sep.data.toList).length≤100000 then some (.str ⟨⟨Go.Lib.join (l.map (·.data.toList)) sep.data.toList⟩⟩,h) else none
   | none=>none
 | _=>none
theorem aIq:iO D 99 aBX:=by
 intro B Y r h H xs ys v h' sh hr hx
 unfold aBX at hx
 split at hx
 ·rename_i rows sep
  split at hx
  ·rename_i l hl
   split at hx
   ·rename_i hn
    cases hx
    obtain⟨a,as1,rfl,h1,h2⟩:=hr.inv
    obtain⟨b,as2,rfl,h3,h4⟩:=h2.inv
    rw[(qC h1).1,cQ h3,h4.nil_inv]
    obtain⟨hlen,hget⟩:=qX hl
    refine FnW.shelf (r:=fun _=>.string ⟨(Go.Lib.join (l.map (·.data.toList)) sep.data.toList).toArray⟩) (fun vs w=>call99 vs w) (fun F w vs=>.str _) (fun F w vs hlt ha=>?_) ⟨r,Sub.refl r,sh,.str _⟩
    obtain⟨v1,vs1,rfl,k1,k2⟩:=ha.cons1
    obtain⟨v2,vs2,rfl,k3,k4⟩:=k2.cons1
    rw[k4.nil1]
    cases k3
    have none:∀ (a:Option Addr) (c:Nat),rows=[]→Calls Tryz.prog 99 #[.slice a 0 c,.string sep] w fun e w'=>e = .returned (.string ⟨(Go.Lib.join (l.map (·.data.toList)) sep.data.toList).toArray⟩)∧Below w.heap.size w w':=fun a c h0=>by
     subst h0
     have:l=[]:=List.eq_nil_of_length_eq_zero (by simpa using hlen)
     subst this
     exact(Tryz.strings_Join_none a c sep w).mono fun e w' ⟨he,hw⟩=>⟨by rw[he];rfl,hw▸Below.refl _ _⟩
    cases k1 with
    | fs0 a cap=>exact none a cap rfl
    | fs rows blk off s cap g hcap hF hs hc ho hv =>
      by_cases h0:rows=[]
      ·have:=none (some ⟨blk,off,Option.none⟩) cap h0
       subst h0
       exact this
      ·have hs1:s=1:=by
        obtain⟨row,rest,rfl⟩:=List.exists_cons_of_ne_nil h0
        have hl0:l.length=rest.length+1:=by simpa using hlen
        obtain⟨x,hx0⟩:∃ x,l[0]?=some x:=⟨_,List.getElem?_eq_getElem (by omega)⟩
        have:=hget 0 x hx0
        simp only[List.getElem?_cons_zero,oSI]at this
        rw[←hs row (by simp),this];rfl
       subst hs1
       rw[←hlen]
       refine Tryz.strings_Join blk off cap l sep w (fun j x hj=>?_) (hlt _ hF) (by omega) (by omega) (by omega)
       have h5:=hget j x hj
       have h6:=hc j _ 0 _ h5 rfl
       have h7:=hv j _ 0 _ h5 rfl
       generalize g j 0=y at h6 h7
       cases h7
       simpa using h6
   ·cases hx
  ·cases hx
 ·cases hx
variable {D:Nat→Option XFn} {Y:Nat→Option YI} {r:Nat→Option Nat} {h:XH} {H:Hp} {B:Base}

def jX (c:UInt8):List UInt8→List (List UInt8)
 | []=>[[]]
 | b::r=>if b=c then []::jX c r else match jX c r with
   | x::l=>(b::x)::l
   | []=>[[b]]
theorem uB (c:UInt8):∀ s:List UInt8,Lib.splitK [c] 0 (Lib.count s [c]) s=jX c s
 | []=>by rw[Lib.count_one];rfl
 | b::l=>by
   have ih:=uB c l
   by_cases h:b=c
   ·subst h
    have hix:Lib.index (b::l) [b]=0:=by rw[Lib.index];simp[List.isPrefixOf]
    rw[Lib.count_cons_eq,Nat.add_comm,Lib.splitK,hix]
    simp only[jX,if_true]
    rw[if_neg (by decide)]
    simp[ih]
   ·have hp:([c]:List UInt8).isPrefixOf (b::l)=false:=by simp[List.isPrefixOf,Ne.symm h]
    have hix:Lib.index (b::l) [c]=if Lib.index l [c] == -1 then -1 else Lib.index l [c]+1:=by rw[Lib.index,hp];simp
    rw[Lib.count_cons_ne b c l h]
    simp only[jX,if_neg h,←ih]
    cases hk:Lib.count l [c]with
    | zero=>rfl
    | succ k =>
      simp only[Lib.splitK]
      by_cases hm:Lib.index l [c] = -1
      ·rw[hix,if_pos (beq_iff_eq.2 hm)]
       simp[hm]
      ·have hge:=Lib.index_ge l [c]
       obtain⟨j,hj⟩:∃ j:Nat,Lib.index l [c]=j:=⟨(Lib.index l [c]).toNat,by omega⟩
       rw[hix,if_neg (fun e=>hm (beq_iff_eq.1 e)),hj]
       have h1:¬(((j:Int)+1 == -1)=true):=by simp;omega
       have h2:¬(((j:Int) == -1)=true):=by simp
       rw[if_neg h1,if_neg h2]
       have e:((j:Int)+1).toNat=j+1:=by omega
       simp[e,Nat.add_right_comm]

def zW:List AV→XH→Option (AV×XH):=fun xs h=>match xs with
 | [.str s,.str ⟨⟨[c]⟩⟩]=>if s.size≤100000 then some (.fs ((jX c s.data.toList).map fun l=>[.str ⟨⟨l⟩⟩]),h) else none
 | _=>none
theorem aIr:iO D 83 zW:=by
 intro B Y r h H xs ys v h' sh hr hx
 unfold zW at hx
 split at hx
 ·rename_i s c
  split at hx
  ·rename_i hn
   cases hx
   obtain⟨a,as1,rfl,h1,h2⟩:=hr.inv
   obtain⟨b,as2,rfl,h3,h4⟩:=h2.inv
   rw[cQ h1,cQ h3,h4.nil_inv]
   have hv:∀ x∈(jX c s.data.toList).map (fun l=>[AV.str ⟨⟨l⟩⟩]),∀ z∈x,Gd z:=fun x hx z hz=>by
    obtain⟨l,_,rfl⟩:=List.mem_map.1 hx
    simp only[List.mem_singleton]at hz
    subst hz;exact .str _
   refine FnW.shelfG (fun vs w=>call83 vs w) (fun F w vs gi hl ha=>?_) ⟨r,DL.Sub.refl r,sh,(Gd.fs _ hv).rn⟩
   obtain⟨hF3,m,hm⟩:=gi.2.1 3 (by simp[vO])
   rw[ha.strStr]
   refine(Tryz.strings_Split s ⟨#[c]⟩ m w (by omega) hm (by simp[ByteArray.size])).mono ?_
   rintro e w' ⟨rfl,rfl⟩
   have hsp:((Lib.splitB ⟨#[c]⟩ 0 (Lib.countB s ⟨#[c]⟩) s).map (·.data.toList))=jX c s.data.toList:=by
    rw[Lib.splitB_data];exact uB c s.data.toList
   have hlen:(Lib.splitB ⟨#[c]⟩ 0 (Lib.countB s ⟨#[c]⟩) s).length=Lib.countB s ⟨#[c]⟩+1:=Lib.splitB_all _ (by simp[ByteArray.size]) 0 _ _ rfl
   obtain⟨L,hL⟩:∃ L,L=Lib.splitB ⟨#[c]⟩ 0 (Lib.countB s ⟨#[c]⟩) s:=⟨_,rfl⟩
   rw[←hL]at hsp hlen ⊢
   have hrows:(jX c s.data.toList).map (fun l=>[AV.str ⟨⟨l⟩⟩])=L.map fun x=>[AV.str x]:=by
    rw[←hsp,List.map_map]
    rfl
   rw[hrows]
   refine⟨_,fun b=>F b∨b=w.heap.size,rfl,(Below.refl _ w).alloc (Nat.le_refl _) _,fun b hb=>.inl hb,fun b hb=>hb.elim .inl fun e=>.inr (by omega),fun b hb=>?_,?_⟩
   ·rcases hb with hb|rfl
    ·have:=hl b hb;simp;omega
    ·simp
   ·have hcell:∀ (j:Nat) (x:ByteArray),L[j]?=some x→(w.alloc (.cells (L.map Value.string).toArray 9)).cell? ⟨w.heap.size,j,none⟩=some (.string x):=fun j x hj=>by
     have hh:(w.alloc (.cells (L.map Value.string).toArray 9)).heap[w.heap.size]?=some (.cells (L.map Value.string).toArray 9 (0,0)):=by
      show (w.heap.push _)[w.heap.size]?=_
      simp
     unfold World.cell?
     dsimp only
     rw[hh]
     simp[hj]
    have hlen':(L.map fun x=>[AV.str x]).length=Lib.countB s ⟨#[c]⟩+1:=by rw[List.length_map,hlen]
    rw[←hlen']
    refine .fs _ w.heap.size 0 1 _ (fun i _=>.string (L.getD i ByteArray.empty)) (by omega) (.inr rfl) (fun x hx=>?_) (fun i x j z hi hj=>?_) (fun _ _=>rfl) (fun i x j z hi hj=>?_)
    ·obtain⟨y,_,rfl⟩:=List.mem_map.1 hx;rfl
    ·rw[List.getElem?_map,Option.map_eq_some_iff]at hi
     obtain⟨y,hy,rfl⟩:=hi
     cases j with
     | zero =>
       rw[List.getD_eq_getElem?_getD,hy]
       simpa using hcell i y hy
     | succ j=>simp at hj
    ·rw[List.getElem?_map,Option.map_eq_some_iff]at hi
     obtain⟨y,hy,rfl⟩:=hi
     cases j with
     | zero =>
       simp only[List.getElem?_cons_zero,oSI]at hj
       subst hj
       rw[List.getD_eq_getElem?_getD,hy]
       exact .str _
     | succ j=>simp at hj
  ·cases hx
 ·cases hx

theorem aGK {F:Nat→Prop} {w:World} (gi:GI F w):Lib.TabIs prog w "internal/strconv.uint64pow10" IntKind.u64 Lib.pow10Tab:=by
 obtain⟨_,e,fr,h2⟩:=gi.2.2 (0,(List.range 20).map fun i=>Value.int .u64 ((10^i:Nat):Int)) (by simp[vP])
 have hg:prog.globalNamed "internal/strconv.uint64pow10" = some 0:=by kernel_rfl
 unfold Lib.TabIs World.var?
 rw[hg]
 simp only[Option.bind_some]
 dsimp only at h2
 rw[h2]
 simp[Lib.pow10Tab,Function.comp_def]

def uW:List AV→XH→Option (AV×XH):=fun xs h=>match xs with
 | [.int .i64 n]=>if -9223372036854775808≤n∧n≤9223372036854775807 then some (.str ⟨⟨Lib.itoa n⟩⟩,h) else none
 | _=>none
theorem aHi {k:IntKind} {n:Int} {as':List AV} (hr:RnL D Y r [.int k n] as'):as'=[.int k n]:=by
 obtain⟨b,as2,rfl,h3,h4⟩:=hr.inv
 rw[bX h3,h4.nil_inv]
theorem aIw:iO D 57 uW:=by
 intro B Y r h H xs ys v h' sh hr hx
 unfold uW at hx
 split at hx
 ·rename_i n
  split at hx
  ·rename_i hn
   cases hx
   rw[aHi hr]
   refine FnW.shelfG (fun vs w=>call57 vs w) (fun F w vs gi hl ha=>?_) ⟨r,DL.Sub.refl r,sh,.str _⟩
   obtain⟨b,bs,rfl,h3,h4⟩:=ha.cons1
   cases h3;rw[h4.nil1]
   refine(Tryz.strconv_Itoa n hn.1 hn.2 w (aGK gi)).mono ?_
   rintro e w' ⟨rfl,k,os,rfl⟩
   have hbel:Below w.heap.size w («Sort».grow (w.drewN k) os):=by
    have h0:(w.drewN k).heap=w.heap:=rfl
    refine⟨rfl,rfl,rfl,?_,fun j hj=>?_⟩
    ·simp[«Sort».grow,h0]
    ·simp only[«Sort».grow,h0]
     exact Array.getElem?_append_left hj
   exact⟨_,F,rfl,hbel,fun _ h=>h,fun _ h=>.inl h,fun b hb=>Nat.lt_of_lt_of_le (hl b hb) hbel.size,.str _⟩
  ·cases hx
 ·cases hx
set_option maxHeartbeats 2000000 in
set_option maxRecDepth 100000 in
theorem aKK (b g cap:Nat) (p:Value) (cur:Array Value) (fr fz:Nat×Nat) (l:List UInt8) (w:World) (hbk:w.heap[b]?=some (.cells #[p,.slice (some ⟨g,0,none⟩) l.length cap] 126 fr)) (hg:w.heap[g]?=some (.cells cur 5 fz))
 (h0:l≠[]) (hnc:l.length≤cap) (hcs:l.length≤cur.size) (h63:l.length≤9223372036854775807) (hcell:∀ (j:Nat) (x:UInt8),l[j]?=some x→cur[j]?=some (.int .u8 x.toNat)) :
 Calls prog 71 #[.pointer (some ⟨b,0,none⟩)] w fun e w'=>e = .returned (.string ⟨l.toArray⟩)∧w'=w.drew.freeze ⟨g,0,none⟩ l.length:=by
 have hl0:l.length≠0:=by simpa using h0
 have c1:w.drew.cell? ⟨b,1,none⟩=some (.slice (some ⟨g,0,none⟩) l.length cap):=by
  have:w.drew.heap[b]?=some (.cells #[p,.slice (some ⟨g,0,none⟩) l.length cap] 126 fr):=hbk
  rw[Lib.cell_of_heap this];rfl
 have hSD:(Builtin.unsafeSliceData_ #[59] 183 #[.slice (some ⟨g,0,none⟩) l.length cap]).run prog w.drew = .ok (.pointer (some ⟨g,0,none⟩)) w.drew :=
  Lib.run_unsafeSliceData_row _ _ _ _ _ _ (by omega)
 have hUS:(Builtin.unsafeString_ #[183,3] 9 #[.pointer (some ⟨g,0,none⟩),.int .i64 l.length]).run prog w.drew = .ok (.string ⟨l.toArray⟩) (w.drew.freeze ⟨g,0,none⟩ l.length):=by
  refine Lib.run_unsafeString_row w.drew 183 3 9 5 underlying183 (by kernel_rfl) g cur.size (by have hg':w.drew.heap[g]?=some (.cells cur 5 fz):=hg;simp[World.shape?,hg']) l h0 hcs h63 ?_
  intro j x hx
  have hg':w.drew.heap[g]?=some (.cells cur 5 fz):=hg
  have:=hcell j x hx
  have e:(⟨g,0,none⟩:Addr).add j=⟨g,j,none⟩:=by
   by_cases hj:j=0
   ·subst hj;simp[Addr.add]
   ·simp[Addr.add,hj]
  rw[e]
  unfold World.cell?
  dsimp only
  rw[hg']
  simpa using this
 have mixed:prog.follows .mixedOrders=true:=rfl
 have u126:=run_underlying underlying126
 have u124:=run_underlying underlying124
 have u59:=run_underlying underlying59
 have u183:=run_underlying underlying183
 have u3:=run_underlying underlying3
 have u9:=run_underlying underlying9
 have u5:=run_underlying underlying5
 go_enter func71,ntmps71
 go_wp2
 go_region_o
 all_goals (go_wp2;go_ret;exact⟨rfl,rfl⟩)

theorem aCN:∃ j,prog.info? 126=some j∧j.size=2:=Option.map_eq_some_iff.1 (by kernel_rfl:(prog.info? 126).map (·.size)=some 2)
theorem aHB:liesAt prog prog.depth 126 (2/prog.cellsOf 126) 0 126 1=true:=by kernel_rfl

set_option maxHeartbeats 2000000 in
set_option maxRecDepth 100000 in
theorem xA (b:Nat) (w:World) (h0:w.cell? ⟨b,0,none⟩=some (.pointer none)) (hsh:w.shape? b=some (126,2)) (hfz:w.frozen? ⟨b,0,none⟩=false) :
 Calls prog 115 #[.pointer (some ⟨b,0,none⟩)] w fun e w'=>e = .returned (.tuple #[])∧w'=w.setCell ⟨b,0,none⟩ (.pointer (some ⟨b,0,none⟩)):=by
 obtain⟨j,hj,hjs⟩:=aCN
 have mixed:prog.follows .mixedOrders=true:=rfl
 have u126:=run_underlying underlying126
 have u124:=run_underlying underlying124
 have u215:=run_underlying underlying215
 have u9:=run_underlying underlying9
 have u4:=run_underlying underlying4
 go_enter func115,ntmps115
 go_wp2
 rw[Lib.run_to_unsafe w ⟨b,0,none⟩ underlying124 underlying215 hj (by rw[hjs];decide) hsh (Nat.zero_lt_succ 1)]
 simp only[Result.andThen]
 rw[Oper.upon_value]
 go_wp2
 rw[run_callFunc_extern func140 (by kernel_rfl) (by kernel_rfl) (by kernel_rfl) (e:=Extern.AbiNoEscape.same) (by kernel_rfl)]
 rw[Lib.run_noEscape]
 simp only[Result.andThen]
 rw[Oper.upon_value]
 go_wp2
 rw[Lib.run_from_unsafe w ⟨b,0,none⟩ underlying215 underlying124 hj hsh aHB]
 simp only[Result.andThen]
 rw[Oper.upon_value]
 go_wp2
 go_end0
 exact⟨rfl,rfl⟩

set_option maxHeartbeats 2000000 in
set_option maxRecDepth 100000 in
theorem aAm (b:Nat) (w:World) (h0:w.cell? ⟨b,0,none⟩=some (.pointer (some ⟨b,0,none⟩))) :
 Calls prog 115 #[.pointer (some ⟨b,0,none⟩)] w fun e w'=>e = .returned (.tuple #[])∧w'=w:=by
 obtain⟨j,hj,hjs⟩:=aCN
 have mixed:prog.follows .mixedOrders=true:=rfl
 have u126:=run_underlying underlying126
 have u124:=run_underlying underlying124
 have u215:=run_underlying underlying215
 have u9:=run_underlying underlying9
 have u4:=run_underlying underlying4
 go_enter func115,ntmps115
 go_wp2
 rw[Lib.run_neq_ptr_same w _ underlying124 hj]
 go_wp2
 go_end0
 exact⟨rfl,rfl⟩

section
variable {D:Nat→Option XFn} {Y:Nat→Option YI} {r:Nat→Option Nat} {h:XH} {H:Hp} {B:Base}

def zX:List AV→XH→Option (AV×XH):=fun xs h=>match xs with
 | [.bp b]=>match bF h b with
   | some (.blk _ (.cells true (.nilpt::l)))=>some (.tup [],h.set b (some (.blk false (.cells true (.pt b 0::l)))))
   | some (.blk _ (.cells true (.pt b' 0::_)))=>if b'=b then some (.tup [],h) else none
   | _=>none
 | _=>none
theorem aAi {b:Nat} {g:Bool} {x:ABlk} (h0:bF h b=some (.blk g x)):cF h b=some x:=by unfold cF;rw[h0]
theorem aBv {b:Nat} {w:World} {c:Array Value} {e:TypeId} {fr:Nat×Nat} {v:Value} (hb:w.heap[b]?=some (.cells c e fr)) (j:Nat) (hv:c[j]?=some v):w.cell? ⟨b,j,none⟩=some v:=by
 unfold World.cell?
 dsimp only
 rw[hb]
 simpa using hv

theorem aFz:iO D 115 zX:=by
 intro B Y r h H xs ys v h' sh hr hx
 unfold zX at hx
 split at hx
 ·rename_i b
  obtain⟨y,as1,rfl,h1,h2⟩:=hr.inv
  obtain⟨c,rfl,hrb⟩:=aFq h1
  rw[h2.nil_inv]
  split at hx
  ·rename_i g l hb
   cases hx
   obtain⟨g',cs',_,k2,k3,_⟩:=sh.cells hrb (aAi hb)
   obtain⟨z,l',rfl,k4,k5⟩:=k3.inv
   rw[uM k4]at k2
   refine⟨fun vs w=>call115 vs w,fun F w vs hB st ha=>?_⟩
   obtain⟨v1,vs1,rfl,a1,a2⟩:=ha.cons1
   rw[a2.nil1]
   cases a1 with
   | bp _ carr fr hcb hsz =>
   obtain⟨o,ho,hrb'⟩:=st.blk c _ k2
   rw[hcb]at ho
   simp only[oSI]at ho
   subst ho
   cases hrb' with
   | cells _ _ _ _ _ hfr hl hone hcells =>
   have hlt:c<w.heap.size:=(Array.getElem?_eq_some_iff.1 hcb).1
   obtain⟨v0,hv0⟩:∃ v0,carr[0]?=some v0:=⟨carr[0]'(by omega),Array.getElem?_eq_getElem _⟩
   have hn:=hcells 0 _ v0 rfl hv0
   cases hn
   refine callsIn_wide.2 ((xA c w (aBv hcb 0 hv0) (by simp[World.shape?,hcb,hsz,aHR]) (by
    have:=hfr 0 (by omega)
    unfold World.frozen?
    dsimp only
    rw[hcb]
    exact this)).mono ?_)
   rintro e w' ⟨rfl,rfl⟩
   have hheap:(w.setCell ⟨c,0,none⟩ (.pointer (some ⟨c,0,none⟩))).heap=w.heap.setIfInBounds c (.cells (carr.setIfInBounds 0 (.pointer (some ⟨c,0,none⟩))) aHR fr):=by
    apply Array.ext_getElem?
    intro j
    rw[Array.getElem?_setIfInBounds]
    simp only[World.setCell,Array.getElem?_modify]
    by_cases hj:c=j
    ·subst hj
     rw[if_pos rfl,if_pos rfl,hcb]
     simp[hlt]
    ·rw[if_neg hj,if_neg hj]
   obtain⟨e1,e2⟩:=fI (w':=w.setCell ⟨c,0,none⟩ (.pointer (some ⟨c,0,none⟩))) (y:=.cells true (.pt c 0::l')) st k2 rfl hcb hheap ⟨rfl,rfl,rfl⟩ (fun c1 e1 fr1 hh=>by cases hh;exact⟨_,_,_,rfl,by simp⟩) (fun F1 w1 hu=>by
    refine .cells true _ _ _ fr (fun i hi=>hfr i (by simpa using hi)) (by simpa using hl) (fun i v hv=>?_) (fun i a v ha hv=>?_)
    ·rw[Array.getElem?_setIfInBounds]at hv
     split at hv
     ·split at hv
      ·cases hv;rfl
      ·cases hv
     ·exact hone i v hv
    ·rw[Array.getElem?_setIfInBounds]at hv
     split at hv
     ·rename_i hi0
      subst hi0
      split at hv
      ·cases hv
       simp only[List.getElem?_cons_zero,oSI]at ha
       subst ha
       exact .pt _ _
      ·cases hv
     ·rename_i hi0
      obtain⟨m,rfl⟩:∃ m,i=m+1:=⟨i-1,by omega⟩
      exact(hcells (m+1) a v (by simpa using ha) hv).up hu)
   refine⟨.tuple #[],.tup [],F,_,rfl,e1,e2,.tup _ _ rfl (by simp),r,DL.Sub.refl r,sh.turn hb hrb (.cells c false true _ _ (RnL.cons (.pt _ _ _ hrb) k5) (by simp)),.tup _ _ rfl (by simp)⟩
  ·rename_i g b' l hb
   split at hx
   ·rename_i hbb
    cases hx
    subst hbb
    obtain⟨g',cs',_,k2,k3,_⟩:=sh.cells hrb (aAi hb)
    obtain⟨z,l',rfl,k4,k5⟩:=k3.inv
    obtain⟨c',rfl,hr'⟩:=lE k4
    rw[hrb]at hr'
    cases hr'
    refine⟨fun vs w=>call115 vs w,fun F w vs hB st ha=>?_⟩
    obtain⟨v1,vs1,rfl,a1,a2⟩:=ha.cons1
    rw[a2.nil1]
    cases a1 with
    | bp _ carr fr hcb hsz =>
    obtain⟨o,ho,hrb'⟩:=st.blk c _ k2
    rw[hcb]at ho
    simp only[oSI]at ho
    subst ho
    cases hrb' with
    | cells _ _ _ _ _ hfr hl hone hcells =>
    obtain⟨v0,hv0⟩:∃ v0,carr[0]?=some v0:=⟨carr[0]'(by omega),Array.getElem?_eq_getElem _⟩
    have hn:=hcells 0 _ v0 rfl hv0
    cases hn
    refine callsIn_wide.2 ((aAm c w (aBv hcb 0 hv0)).mono ?_)
    rintro e w' ⟨rfl,rfl⟩
    exact⟨.tuple #[],.tup [],F,H,rfl,Ext.refl _ _ _,st,.tup _ _ rfl (by simp),r,DL.Sub.refl r,sh,.tup _ _ rfl (by simp)⟩
   ·cases hx
  ·cases hx
 ·cases hx

def sS:List AV→Option (List UInt8)
 | []=>some []
 | .int .u8 n::r=>if 0≤n∧n<256 then (sS r).map (UInt8.ofNat n.toNat :: ·) else none
 | _=>none
theorem aBz:∀ {bs:List AV} {l:List UInt8},sS bs=some l→l.length=bs.length∧∀ (j:Nat) (x:UInt8),l[j]?=some x→bs[j]?=some (.int .u8 x.toNat)
 | [],l,h=>by simp only[sS,oSI]at h;subst h;simp
 | v::bs,l,h=>by
   unfold sS at h
   split at h
   ·rename_i h0;cases h0
   ·rename_i n r h0
    cases h0
    split at h
    ·rename_i hn
     cases hl:sS bs with
     | none=>rw[hl]at h;cases h
     | some l' =>
       rw[hl]at h
       simp only[Option.map_some,oSI]at h
       subst h
       obtain⟨h1,h2⟩:=aBz hl
       refine⟨by simp[h1],fun j x hj=>?_⟩
       cases j with
       | zero =>
         simp only[List.getElem?_cons_zero,oSI]at hj
         subst hj
         have:((UInt8.ofNat n.toNat).toNat:Int)=n:=by
          rw[UInt8.toNat_ofNat']
          have:n.toNat%2^8=n.toNat:=Nat.mod_eq_of_lt (by omega)
          rw[this];omega
         rw[this];rfl
       | succ j=>exact h2 j x (by simpa using hj)
    ·cases h
   ·cases h

def aAS:List AV→XH→Option (AV×XH):=fun xs h=>match xs with
 | [.bp b]=>match bF h b with
   | some (.blk _ (.cells _ [_,.sb g n]))=>match bF h g with
     | some (.blk _ (.cells true bs))=>match sS (bs.take n)with
       | some (x::l)=>if n≤bs.length∧g≠b∧n≤1000000 then some (.str ⟨⟨x::l⟩⟩,h.set g none) else none
       | _=>none
     | _=>none
   | _=>none
 | _=>none

theorem mM {w:World} {g n:Nat} {c:Array Value} {e:TypeId} {fr:Nat×Nat} (hg:w.heap[g]?=some (.cells c e fr)):∃ fr',(w.drew.freeze ⟨g,0,none⟩ n).heap[g]?=some (.cells c e fr')∧(∀ j,j≠g→(w.drew.freeze ⟨g,0,none⟩ n).heap[j]?=w.heap[j]?) ∧
 (w.drew.freeze ⟨g,0,none⟩ n).heap.size=w.heap.size∧SameIO w (w.drew.freeze ⟨g,0,none⟩ n):=by
 unfold World.freeze
 split
 ·exact⟨fr,hg,fun _ _=>rfl,rfl,⟨rfl,rfl,rfl⟩⟩
 ·have h0:w.drew.heap=w.heap:=rfl
  refine⟨if fr.1==fr.2 then (0,0+n) else (min fr.1 0,max fr.2 (0+n)),?_,fun j hj=>?_,by simp[h0],⟨rfl,rfl,rfl⟩⟩
  ·simp only[h0,Array.getElem?_modify,if_true,hg,Option.map_some]
  ·simp only[h0,Array.getElem?_modify]
   rw[if_neg (Ne.symm hj)]

theorem aIv:iO D 71 aAS:=by
 intro B Y r h H xs ys v h' sh hr hx
 unfold aAS at hx
 split at hx
 ·rename_i b
  obtain⟨y,as1,rfl,h1,h2⟩:=hr.inv
  obtain⟨c,rfl,hrb⟩:=aFq h1
  rw[h2.nil_inv]
  split at hx
  ·rename_i fl wr a0 g n hb
   split at hx
   ·rename_i fl2 bs hg
    split at hx
    ·rename_i x l hbl
     split at hx
     ·rename_i hc
      cases hx
      obtain⟨_,cs',_,k2,k3,_⟩:=sh.cells hrb (aAi hb)
      obtain⟨z0,l0,rfl,k4,k5⟩:=k3.inv
      obtain⟨z1,l1,rfl,k6,k7⟩:=k5.inv
      rw[k7.nil_inv]at k2
      obtain⟨gc,rfl,hrg⟩:=aFp k6
      obtain⟨_,bs',_,m2,m3,_⟩:=sh.cells hrg (aAi hg)
      obtain⟨hbl1,hbl2⟩:=aBz hbl
      have hlen:(x::l).length=n:=by rw[hbl1,List.length_take];omega
      have hne:gc≠c:=fun e=>hc.2.1 (sh.inj g b c _ _ hg hb (e▸hrg) hrb)
      refine⟨fun vs w=>call71 vs w,fun F w vs hB st ha=>?_⟩
      obtain⟨v1,vs1,rfl,a1,a2⟩:=ha.cons1
      rw[a2.nil1]
      cases a1 with
      | bp _ carr fr hcb hsz =>
      obtain⟨o,ho,hrb'⟩:=st.blk c _ k2
      rw[hcb]at ho
      simp only[oSI]at ho
      subst ho
      cases hrb' with
      | cells _ _ _ _ _ hfr hl hone hcells =>
      obtain⟨v0,hv0⟩:∃ v0,carr[0]?=some v0:=⟨carr[0]'(by omega),Array.getElem?_eq_getElem _⟩
      obtain⟨v1,hv1⟩:∃ v1,carr[1]?=some v1:=⟨carr[1]'(by omega),Array.getElem?_eq_getElem _⟩
      have hs:=hcells 1 _ v1 rfl hv1
      cases hs with
      | sb _ _ cap gcur gfr hgb hcap hle =>
      have hcarr:carr = #[v0,.slice (some ⟨gc,0,none⟩) n cap]:=by
       apply Array.ext_getElem?
       intro j
       match j with
       | 0=>rw[hv0];rfl
       | 1=>rw[hv1];rfl
       | j+2=>rw[Array.getElem?_eq_none (by omega),Array.getElem?_eq_none (by simp)]
      rw[hcarr]at hcb
      obtain⟨o2,ho2,hrg'⟩:=st.blk gc _ m2
      rw[hgb]at ho2
      simp only[oSI]at ho2
      subst ho2
      cases hrg' with
      | cells _ _ _ _ _ hfr2 hl2 hone2 hcells2 =>
      have hl2':bs.length=bs'.length:=m3.1
      rw[←hlen]at hcb
      refine callsIn_wide.2 ((aKK c gc cap v0 gcur fr gfr (x::l) w hcb hgb (by simp) (by omega) (by omega) (by omega) (fun j u hj=>?_)).mono ?_)
      ·have hb1:=hbl2 j u hj
       rw[List.getElem?_take]at hb1
       split at hb1
       ·obtain⟨u',hu1,hu2⟩:=m3.get hb1
        have hlt:j<bs'.length:=(List.getElem?_eq_some_iff.1 hu1).1
        obtain⟨q,hq⟩:∃ q,gcur[j]?=some q:=⟨gcur[j]'(by omega),Array.getElem?_eq_getElem _⟩
        have h9:=hcells2 j u' q hu1 hq
        rw[bX hu2]at h9
        cases h9
        exact hq
       ·cases hb1
      ·rintro e w' ⟨rfl,rfl⟩
       obtain⟨fr',f1,f2,f3,f4⟩:=mM (n:=(x::l).length) hgb
       have hE:Ext F w H F (w.drew.freeze ⟨gc,0,none⟩ (x::l).length) (iU H gc):=by
        refine⟨fun _ h=>h,fun _ h=>.inl h,fun j hj=>?_,fun j hj=>?_,by rw[f3];exact Nat.le_refl _,fun j hj hw=>?_,fun j c1 e1 fr1 hj=>?_,f4⟩
        ·unfold iU at hj
         split at hj
         ·cases hj
         ·exact .inl hj
        ·left
         unfold lK at hj ⊢
         unfold iU at hj
         by_cases hjg:j=gc
         ·simp[hjg]at hj
         ·simpa [hjg]using hj
        ·refine f2 j fun e=>?_
         subst e
         unfold lK at hw
         rw[m2]at hw
         simp[ABlk.wr]at hw
        ·by_cases hjg:j=gc
         ·subst hjg
          rw[hgb]at hj
          cases hj
          exact⟨_,_,_,f1,rfl⟩
         ·exact⟨c1,e1,fr1,by rw[f2 j hjg];exact hj,rfl⟩
       have hU:=hE.up st
       refine⟨.string ⟨(x::l).toArray⟩,.str ⟨⟨x::l⟩⟩,F,iU H gc,rfl,hE,⟨fun j hj=>by rw[f3];exact st.lt j hj,fun j y hj=>?_,fun j y hj=>?_⟩,.str _,r,DL.Sub.refl r,⟨fun b1 c1 hb1=>by simpa using sh.dom b1 c1 hb1,fun b1 b2 c1 x1 x2 q1 q2 q3 q4=>?_,fun b1 x1 q1=>?_⟩,.str _⟩
       ·unfold iU at hj
        split at hj
        ·cases hj
        ·exact st.dis j y hj
       ·unfold iU at hj
        split at hj
        ·cases hj
        ·rename_i hjg
         obtain⟨o,o1,o2⟩:=st.blk j y hj
         exact⟨o,by rw[f2 j hjg];exact o1,o2.up hU⟩
       ·have live:∀ b z,bF (h.set g none) b=some z→bF h b=some z:=fun b z hz=>by
         rw[dE]at hz
         split at hz
         ·cases hz
         ·exact hz
        exact sh.inj b1 b2 c1 x1 x2 (live _ _ q1) (live _ _ q2) q3 q4
       ·rw[dE]at q1
        split at q1
        ·cases q1
        ·rename_i hcd
         obtain⟨c2,y2,w1,w2,w3⟩:=sh.blk b1 x1 q1
         refine⟨c2,y2,w1,?_,w3⟩
         unfold iU
         rw[if_neg]
         ·exact w2
         ·intro e
          subst e
          exact hcd ⟨sh.inj b1 g _ x1 _ q1 hg w1 hrg,oS hg⟩
     ·cases hx
    ·cases hx
   ·cases hx
  ·cases hx
 ·cases hx
end
section
variable {D:Nat→Option XFn} {Y:Nat→Option YI} {r:Nat→Option Nat} {h:XH} {H:Hp} {B:Base}
theorem oM {s t:ByteArray} {as':List AV} (hr:RnL D Y r [.str s,.str t] as'):as'=[.str s,.str t]:=by
 obtain⟨a,as1,rfl,h1,h2⟩:=hr.inv
 obtain⟨b,as2,rfl,h3,h4⟩:=h2.inv
 rw[cQ h1,cQ h3,h4.nil_inv]

def lZ:List AV→XH→Option (AV×XH):=fun xs h=>match xs with
 | [.str s,.str p]=>if s.size≤1000000 then some (.bool (Lib.hasSuffix s.data.toList p.data.toList),h) else none
 | _=>none
theorem aIy:iO D 37 lZ:=by
 intro B Y r h H xs ys v h' sh hr hx
 unfold lZ at hx
 split at hx
 ·rename_i s p
  split at hx
  ·rename_i hn
   cases hx
   rw[oM hr]
   refine FnW.shelf (r:=fun _=>.bool (Lib.hasSuffix s.data.toList p.data.toList)) (fun vs w=>call37 vs w) (fun F w vs=>.bool _) (fun F w vs hl ha=>?_) ⟨r,DL.Sub.refl r,sh,.bool _⟩
   rw[ha.strStr]
   exact(Tryz.strings_HasSuffix s p w (by omega)).mono fun e w' ⟨he,hw⟩=>⟨he,hw▸Below.refl _ _⟩
  ·cases hx
 ·cases hx

def uV:List AV→XH→Option (AV×XH):=fun xs h=>match xs with
 | [.str s,.str p]=>some (.tup [.str ⟨⟨Lib.trimPrefix s.data.toList p.data.toList⟩⟩,.bool (Lib.hasPrefix s.data.toList p.data.toList)],h)
 | _=>none
theorem aIu:iO D 72 uV:=by
 intro B Y r h H xs ys v h' sh hr hx
 unfold uV at hx
 split at hx
 ·rename_i s p
  cases hx
  rw[oM hr]
  have two:∀ (F:Nat→Prop) (w:World),Rv F w (.tup [.str ⟨⟨Lib.trimPrefix s.data.toList p.data.toList⟩⟩,.bool (Lib.hasPrefix s.data.toList p.data.toList)]) (.tuple #[.string ⟨(Lib.trimPrefix s.data.toList p.data.toList).toArray⟩,.bool (Lib.hasPrefix s.data.toList p.data.toList)]):=fun F w =>
   .tup _ _ rfl fun i x y hx hy=>by
    match i with
    | 0=>simp at hx hy;subst hx hy;exact .str _
    | 1=>simp at hx hy;subst hx hy;exact .bool _
    | k+2=>simp at hx
  refine FnW.shelf (r:=fun _=>.tuple #[.string ⟨(Lib.trimPrefix s.data.toList p.data.toList).toArray⟩,.bool (Lib.hasPrefix s.data.toList p.data.toList)]) (fun vs w=>call72 vs w) (fun F w vs=>two F w) (fun F w vs hl ha=>?_) ⟨r,DL.Sub.refl r,sh,(Gd.tup _ (fun c hc=>by
   simp only[List.mem_cons,List.not_mem_nil,or_false]at hc
   rcases hc with rfl|rfl
   ·exact .str _
   ·exact .bool _)).rn⟩
  rw[ha.strStr]
  exact(Tryz.strings_CutPrefix s p w).mono fun e w' ⟨he,hw⟩=>⟨he,hw▸Below.refl _ _⟩
 ·cases hx

def uU:List AV→XH→Option (AV×XH):=fun xs h=>match xs with
 | [.str s,.str ⟨⟨[c]⟩⟩]=>if c.toNat<128∧s.size≤1000000 then some (.str ⟨⟨Lib.trimRightB s.data.toList c⟩⟩,h) else none
 | _=>none
theorem aIs:iO D 80 uU:=by
 intro B Y r h H xs ys v h' sh hr hx
 unfold uU at hx
 split at hx
 ·rename_i s c
  split at hx
  ·rename_i hn
   cases hx
   rw[oM hr]
   refine FnW.shelf (r:=fun _=>.string ⟨(Lib.trimRightB s.data.toList c).toArray⟩) (fun vs w=>call80 vs w) (fun F w vs=>.str _) (fun F w vs hl ha=>?_) ⟨r,DL.Sub.refl r,sh,.str _⟩
   rw[ha.strStr]
   exact(Tryz.strings_TrimRight_one s c hn.1 w (by omega)).mono fun e w' ⟨he,hw⟩=>⟨he,hw▸Below.refl _ _⟩
  ·cases hx
 ·cases hx

def aAT:List AV→XH→Option (AV×XH):=fun xs h=>match xs with
 | [.fs rows,.str x]=>match pJ rows with
   | some l=>if l.length≤1000000 then some (.bool (Lib.containsS l x),h) else none
   | none=>none
 | _=>none
theorem aIx:iO D 47 aAT:=by
 intro B Y r h H xs ys v h' sh hr hx
 unfold aAT at hx
 split at hx
 ·rename_i rows x
  split at hx
  ·rename_i l hl
   split at hx
   ·rename_i hn
    cases hx
    obtain⟨a,as1,rfl,h1,h2⟩:=hr.inv
    obtain⟨b,as2,rfl,h3,h4⟩:=h2.inv
    rw[(qC h1).1,cQ h3,h4.nil_inv]
    obtain⟨hlen,hget⟩:=qX hl
    refine FnW.shelf (r:=fun _=>.bool (Lib.containsS l x)) (fun vs w=>call47 vs w) (fun F w vs=>.bool _) (fun F w vs hlt ha=>?_) ⟨r,DL.Sub.refl r,sh,.bool _⟩
    obtain⟨v1,vs1,rfl,k1,k2⟩:=ha.cons1
    obtain⟨v2,vs2,rfl,k3,k4⟩:=k2.cons1
    rw[k4.nil1]
    cases k3
    have none:∀ (a:Option Addr) (c:Nat),rows=[]→Calls Tryz.prog 47 #[.slice a 0 c,.string x] w fun e w'=>e = .returned (.bool (Lib.containsS l x))∧Below w.heap.size w w':=fun a c h0=>by
     subst h0
     have:l=[]:=List.eq_nil_of_length_eq_zero (by simpa using hlen)
     subst this
     exact(Tryz.slices_Contains_string_empty a c x w).mono fun e w' ⟨he,hw⟩=>⟨by rw[he];rfl,hw▸Below.refl _ _⟩
    cases k1 with
    | fs0 a cap=>exact none a cap rfl
    | fs rows blk off s cap g hcap hF hs hc ho hv =>
      by_cases h0:rows=[]
      ·have:=none (some ⟨blk,off,Option.none⟩) cap h0
       subst h0
       exact this
      ·have hs1:s=1:=by
        obtain⟨row,rest,rfl⟩:=List.exists_cons_of_ne_nil h0
        have hl0:l.length=rest.length+1:=by simpa using hlen
        obtain⟨y,hy0⟩:∃ y,l[0]?=some y:=⟨_,List.getElem?_eq_getElem (by omega)⟩
        have:=hget 0 y hy0
        simp only[List.getElem?_cons_zero,oSI]at this
        rw[←hs row (by simp),this];rfl
       subst hs1
       have hcl:=Tryz.slices_Contains_string blk off l.length cap l x w (Nat.le_refl _) (by omega) (fun j hj=>by
        obtain⟨y,hy⟩:∃ y,l[j]?=some y:=⟨_,List.getElem?_eq_getElem hj⟩
        have h5:=hget j y hy
        have h6:=hc j _ 0 _ h5 rfl
        have h7:=hv j _ 0 _ h5 rfl
        rw[List.getD_eq_getElem?_getD,hy]
        generalize g j 0=z at h6 h7
        cases h7
        simpa using h6)
       rw[List.take_length]at hcl
       rw[←hlen]
       exact hcl.mono fun e w' ⟨he,hw⟩=>⟨he,hw▸Below.refl _ _⟩
   ·cases hx
  ·cases hx
 ·cases hx
end
def p75 (r:Nat):Bool:=decide (r<32)||decide (126<r)

set_option maxHeartbeats 2000000 in
set_option maxRecDepth 100000 in
theorem aTk (x:Nat) (hx:x≤1114111) (W:World):FnGives prog 75 #[] #[encR x] (.bool (p75 x)) W:=by
 unfold FnGives
 have u21:=run_underlying underlying21
 have u4:=run_underlying underlying4
 show Calls prog 75 (#[encR x] ++ #[]) W _
 by_cases h1:x<32
 ·have e:p75 x=true:=by simp[p75,h1]
  rw[e]
  have h1':(x:Int)<32:=by omega
  go_enter func75,ntmps75
  go_wp2
  all_goals (go_ret;exact⟨rfl,0,rfl⟩)
 ·by_cases h2:126<x
  ·have e:p75 x=true:=by simp[p75,h2]
   rw[e]
   have h1':¬(x:Int)<32:=by omega
   have h2':(126:Int)<x:=by omega
   go_enter func75,ntmps75
   go_wp2
   all_goals (go_ret;exact⟨rfl,0,rfl⟩)
  ·have e:p75 x=false:=by simp[p75];omega
   rw[e]
   have h1':¬(x:Int)<32:=by omega
   have h2':¬(126:Int)<x:=by omega
   go_enter func75,ntmps75
   go_wp2
   all_goals (go_ret;exact⟨rfl,0,rfl⟩)

def iQ:List UInt8→Bool
 | []=>false
 | b::r=>decide (b.toNat<32)||(decide (126<b.toNat)||iQ r)
theorem aEt (s:ByteArray) (pos:Nat) (h:128≤(s.get! pos).toNat):126<(Utf8.decode s pos).1:=by
 have h0:¬(s.get! (pos+0)).toNat<128:=by
  show ¬(s.get! pos).toNat<128
  omega
 unfold Utf8.decode
 dsimp only
 rw[if_neg h0]
 split
 ·split
  ·rename_i hc;exact Nat.lt_of_lt_of_le (by decide) hc
  ·decide
 ·split
  ·split
   ·rename_i hc
    simp only[Bool.and_eq_true,decide_eq_true_eq]at hc
    omega
   ·decide
  ·split
   ·split
    ·rename_i hc
     simp only[Bool.and_eq_true,decide_eq_true_eq]at hc
     omega
    ·decide
   ·decide
theorem aEs (s:ByteArray) (pos:Nat) (h:(s.get! pos).toNat<128):Utf8.decode s pos=((s.get! pos).toNat,1):=by
 have h0:(s.get! (pos+0)).toNat<128:=h
 unfold Utf8.decode
 dsimp only
 rw[if_pos h0]
 rfl
theorem aGe {s:ByteArray} {pos:Nat} {b:UInt8} {l:List UInt8} (h:s.data.toList.drop pos=b::l):s.get! pos=b∧pos<s.size∧s.data.toList.drop (pos+1)=l:=by
 have hlt:pos<s.data.toList.length:=by
  rcases Nat.lt_or_ge pos s.data.toList.length with h1|h1
  ·exact h1
  ·rw[List.drop_eq_nil_of_le h1]at h;cases h
 have hsz:s.size=s.data.toList.length:=by rw[Array.length_toList];rfl
 rw[List.drop_eq_getElem_cons hlt]at h
 simp only[List.cons.injEq]at h
 refine⟨?_,by omega,h.2⟩
 rw[←h.1]
 have:pos<s.data.size:=by simpa using hlt
 show s.data[pos]! = _
 rw[getElem!_pos s.data pos this]
 simp
theorem aDo (s:ByteArray):∀ (l:List UInt8) (f pos:Nat),s.data.toList.drop pos=l→l.length≤f→decide (0≤Lib.idxFuncFrom p75 true s f pos)=iQ l
 | [],f,pos,h,hf=>by
   have hsz:s.size=s.data.toList.length:=by rw[Array.length_toList];rfl
   have:¬pos<s.size:=fun hc=>by
    have:=List.length_drop (l:=s.data.toList) (i:=pos)
    rw[h]at this
    simp at this
    omega
   rw[Lib.idxFuncFrom_end p75 true s f pos this]
   rfl
 | b::l,0,pos,h,hf=>by simp at hf
 | b::l,f+1,pos,h,hf=>by
   obtain⟨h1,h2,h3⟩:=aGe h
   unfold Lib.idxFuncFrom
   rw[if_pos h2]
   by_cases hb:b.toNat<128
   ·rw[aEs s pos (by rw[h1];exact hb),h1]
    dsimp only
    by_cases hp:p75 b.toNat=true
    ·rw[if_pos hp]
     have:iQ (b::l)=true:=by
      unfold iQ
      unfold p75 at hp
      simp only[Bool.or_eq_true]at hp ⊢
      rcases hp with hp|hp
      ·exact .inl hp
      ·exact .inr (.inl hp)
     rw[this]
     simp
    ·rw[if_neg hp,aDo s l f (pos+1) h3 (by simpa using hf)]
     unfold p75 at hp
     simp only[Bool.or_eq_true,decide_eq_true_eq,not_or]at hp
     have e1:decide (b.toNat<32)=false:=decide_eq_false hp.1
     have e2:decide (126<b.toNat)=false:=decide_eq_false hp.2
     rw[iQ,e1,e2]
     simp
   ·have hd:=aEt s pos (by rw[h1];omega)
    have hp:p75 (Utf8.decode s pos).1=true:=by simp[p75,hd]
    rw[if_pos hp]
    have:iQ (b::l)=true:=by
     unfold iQ
     have:decide (126<b.toNat)=true:=decide_eq_true (by omega)
     rw[this]
     simp
    rw[this]
    simp

section
variable {D:Nat→Option XFn} {Y:Nat→Option YI} {r:Nat→Option Nat} {h:XH} {H:Hp} {B:Base}
def aCY:List AV→XH→Option (AV×XH):=fun xs h=>match xs with
 | [.str s,.fn (.func 75) [] []]=>some (.bool (iQ s.data.toList),h)
 | _=>none
theorem aIt:iO D 74 aCY:=by
 intro B Y r h H xs ys v h' sh hr hx
 unfold aCY at hx
 split at hx
 ·rename_i s
  cases hx
  obtain⟨a,as1,rfl,h1,h2⟩:=hr.inv
  obtain⟨b,as2,rfl,h3,h4⟩:=h2.inv
  rw[cQ h1,h4.nil_inv]
  have hb:b = .fn (.func 75) [] []:=by
   cases h3 with
   | fn _ _ ys _ vs _ hl1 _ hl2 _ =>
     rw[List.eq_nil_of_length_eq_zero (l:=ys) (by simpa using hl1.symm),List.eq_nil_of_length_eq_zero (l:=vs) (by simpa using hl2.symm)]
  rw[hb]
  refine FnW.shelf (r:=fun _=>.bool (iQ s.data.toList)) (fun vs w=>call74 vs w) (fun F w vs=>.bool _) (fun F w vs hl ha=>?_) ⟨r,DL.Sub.refl r,sh,.bool _⟩
  obtain⟨v1,vs1,rfl,k1,k2⟩:=ha.cons1
  obtain⟨v2,vs2,rfl,k3,k4⟩:=k2.cons1
  rw[k4.nil1]
  cases k1
  cases k3 with
  | fn _ _ _ fv cv hl1 hl2 _ _ =>
    have e1:fv = #[]:=by
     rcases fv with ⟨_|⟨a,l⟩⟩
     ·rfl
     ·simp at hl1
    have e2:cv = #[]:=by
     rcases cv with ⟨_|⟨a,l⟩⟩
     ·rfl
     ·simp at hl2
    rw[e1,e2]
    have hc:=Tryz.strings_ContainsFunc_runes 75 #[] (fun vs w=>call75 vs w) p75 s w (fun W x hx _=>aTk x hx W)
    have he:decide (0≤Lib.idxFunc p75 true s)=iQ s.data.toList:=aDo s s.data.toList s.size 0 rfl (by rw[Array.length_toList];exact Nat.le_refl _)
    rw[he]at hc
    exact hc
 ·cases hx
end
end Go.Proofs.YtmapgnepfgnphaaGreatDoor
namespace Go.Proofs.YtmapgnepfgnphaaGreatDoor
open Go Go.DL Go.Proofs.Tryz
set_option maxRecDepth 10000

noncomputable def ops56:Array Oper:=match f56.body with
 | some (.seq (.region _ ops _) _)=>ops
 | _ => #[]
noncomputable def rest56:Code:=match f56.body with
 | some (.seq (.region _ _ _) c)=>c
 | _=>.skip
theorem aKf:f56.body=some (.seq (.region 0 ops56 false) rest56):=rfl
theorem aJw:∃ o,ops56[0]?=some o∧o.dst=some 4∧o.guard=none∧o.op = .call { callee:=.builtin .recover,args := #[],argTypes := #[] }:=⟨_,rfl,rfl,rfl,rfl⟩
theorem aJv:∃ o,ops56[1]?=some o∧o.dst=some 5∧o.guard=none∧o.op = .typeAssert (.tmp 4) 20 110 true:=⟨_,rfl,rfl,rfl,rfl⟩
def kO:List DOper:=[⟨0,some 3,.mv (.t 5),none⟩,⟨0,some 6,.ext (.t 3) 0,none⟩,⟨0,some 7,.ext (.t 3) 1,none⟩,⟨0,some 1,.alloc [.int .i64 0],none⟩,⟨0,none,.store 1 (.t 1) (.t 6) [],none⟩,⟨0,some 2,.mv (.t 7),none⟩]
def vK:List DOper:=[⟨0,some 8,.mv (.t 2),none⟩]
def qN:List DOper:=[⟨0,some 9,.fld 0 (.t 1),none⟩,⟨0,some 10,.load false 1 (.t 9),none⟩,⟨0,some 11,.callf false (.c (.fn (.func 57) [] [])) [.t 10] [],none⟩,
 ⟨0,some 12,.bin .add (.c (.str ⟨#[110,111,32]⟩)) (.t 11),none⟩,⟨0,none,.store 1 (.t 0) (.t 12) [],none⟩]
noncomputable def ops56m:Array Oper:=match f56.body with
 | some (.seq _ (.seq (.region _ ops _) _))=>ops
 | _ => #[]
noncomputable def ops56l:Array Oper:=match f56.body with
 | some (.seq _ (.seq _ (.cond _ (.region _ ops _) _)))=>ops
 | _ => #[]
theorem aEb:rest56 = .seq (.region 1 ops56m false) (.cond (.tmp 8) (.region 2 ops56l false) .skip):=rfl
theorem aHk:((ops56.toList.drop 2).mapM (sP prog ops56))=some kO:=by kernel_rfl
theorem aJY:mX prog 13 ops56m false=some vK:=by kernel_rfl
theorem aHP:mX prog 13 ops56l false=some qN:=by kernel_rfl
theorem aJi:ops56.size=8:=rfl
theorem aGG:∃ i,prog.info? 110=some i∧i.zero=some (.agg #[.int .i64 0]):=⟨_,rfl,rfl⟩
theorem aAw:∃ fs,prog.underlying 110=some (.struct fs):=⟨_,rfl⟩
theorem aLS:f56.results = #[]:=rfl
theorem aNe:f56.ntmps=13:=rfl

noncomputable def code21:Code:=match f21.body with
 | some (.seq _ (.seq _ c))=>c
 | _=>.skip
noncomputable def r21_0:Array Oper:=match f21.body with
 | some (.seq (.region _ ops _) _)=>ops
 | _ => #[]
noncomputable def r21_1:Array Oper:=match f21.body with
 | some (.seq _ (.seq (.region _ ops _) _))=>ops
 | _ => #[]
theorem aKg:f21.body=some (.seq (.region 0 r21_0 false) (.seq (.region 1 r21_1 false) code21)):=rfl
theorem aLY:mX prog 41 r21_0 false=some [⟨0,some 4,.alloc [.str ⟨#[]⟩],none⟩]:=by kernel_rfl
theorem aNi:∃ o,r21_1[0]?=some o∧sP prog r21_1 o=some ⟨0,some 7,.mkf (.func 56) [] [.t 4],none⟩:=⟨_,rfl,by kernel_rfl⟩
theorem aTl:∃ o,r21_1[1]?=some o∧o.dst=none∧o.guard=none∧o.op = .defer { callee:=.value (.tmp 7),args := #[],argTypes := #[] }:=⟨_,rfl,rfl,rfl,rfl⟩
theorem aOJ:r21_1.size=2:=rfl
theorem aNf:f21.ntmps=41:=rfl
theorem aLT:f21.results.toList.mapM (wU prog)=some [(4,some (false,1))]:=by kernel_rfl

section
variable {D:Nat→Option XFn} {B:Base} {Y:Nat→Option YI} {r:Nat→Option Nat} {h:XH} {H:Hp} {F:Nat→Prop} {w:World}

theorem aAk:∀ (j:Nat) (d:DOper),kO[j]?=some d→Reads prog ops56 (2+j) d:=by
 intro j d hj
 obtain⟨h1,h2⟩:=jK aHk
 obtain⟨o,h3,h4⟩:=h2 j d hj
 refine eZ (o:=o) ?_ h4
 rw[List.getElem?_drop,Array.getElem?_toList]at h3
 exact h3
theorem aEj:∀ d∈kO,aBs 13 d:=by
 intro d hd
 simp only[kO,List.mem_cons,List.not_mem_nil,or_false]at hd
 rcases hd with rfl|rfl|rfl|rfl|rfl|rfl<;>exact⟨by intro k hk;simp at hk<;>omega,rfl⟩

theorem aJa {run:bZ} {runY:cN} (hf:iC prog B D Y run) (hy:YS prog B D Y runY) (hm:prog.follows .mixedOrders=true) (hB:B.Up F w) (st:St F w H) (sh:SH D Y r h H) {c o b:Nat} (hrc:r c=some b)
 {i:aAs} (hi1:i.hops=kO++vK) (hi2:i.hlast=qN) (hi3:i.is=8) {v v':AV} {t:Bool} (hv:Rn D Y r v v') {h3:XH} (hx:yM i run runY (.pt c o) v t h=some h3)
 {x vv:Value} (hta:(Instr.typeAssert x 20 110 true).run prog w = .ok (.tuple #[vv,.bool t]) w) (hvv:Rv F w v' vv) {cs:List Frame} {Q:Exit→Act→List Frame→World→Prop} {a:Act} (ha:a.tmps.size=13) (hdf:a.defers=[])
 (ha4:a.eval (.tmp 4)=x) (ha0:a.tmps.getD 0 undef = .pointer (some ⟨b,o,none⟩)) (gi:GI F w)
 (hQ:∀ a' F' w' H' r',a'.defers=[]→Ext F w H F' w' H'→St F' w' H'→Sub r r'→SH D Y r' h3 H'→Q .normal a' cs w') :
 wpOpsIn Fence.wide 0 prog ops56 (fun e a w=>Exit.thenS (rest56.wpSIn Fence.wide 0 prog Q) Q e a cs w) (List.range' 1 7) a w:=by
 obtain⟨o1,g1,g2,g3,g4⟩:=aJv
 rw[List.range'_succ,wpOpsIn_cons]
 unfold wpOpIn
 simp only[g1]
 have hw:Region.wanted o1 (yielded ops56 a.tmps)=true:=by unfold Region.wanted;rw[g3]
 rw[if_pos hw]
 refine⟨fun _ _=>trivial,?_⟩
 have hs:(o1.semAt Fence.wide.round a.eval).run prog w = .ok (.value (.tuple #[vv,.bool t])) w:=by
  rw[Oper.semAt_eq _ _ _ (by rw[g4];simp)]
  simp[execOp,g4,ha4,hta]
 rw[hs,Oper.uponIn_value,g2]
 have hsr:SR D Y r (yN (.pt c o) v t) h (yN (.pt b o) v' t) H:=⟨sh,fun j=>by
  unfold yN
  split
  ·exact .pt _ _ _ hrc
  ·split
   ·exact .tup _ _ rfl fun i x y hx hy=>by
     match i with
     | 0=>simp at hx hy;subst hx hy;exact hv
     | 1=>simp at hx hy;subst hx hy;exact .bool _
     | k+2=>simp at hx
   ·exact .any _⟩
 have hre:RE F w (yN (.pt b o) v' t) (a.put (some 5) (.tuple #[vv,.bool t])):=⟨fun k=>by
  unfold yN
  have hsz5:5<a.tmps.size:=by omega
  split
  ·rename_i hk;subst hk
   simp only[Act.put,Array.getD_eq_getD_getElem?,Array.getElem?_setIfInBounds]at ha0 ⊢
   simp only[show ¬(5=0) by omega,if_false]
   rw[ha0];exact .pt _ _
  ·split
   ·rename_i hk;subst hk
    simp only[Act.put,Array.getD_eq_getD_getElem?,Array.getElem?_setIfInBounds,if_true,hsz5,Option.getD_some]
    exact .tup _ _ rfl fun i x y hx hy=>by
     match i with
     | 0=>simp at hx hy;subst hx hy;exact hvv
     | 1=>simp at hx hy;subst hx hy;exact .bool _
     | k+2=>simp at hx
   ·exact .any _,gi⟩
 unfold yM at hx
 split at hx
 ·rename_i e1 h1 hx1
  rw[hi1]at hx1
  have R:=xV (eQ (P:=prog) (B:=B) hf hy (kO++vK) r _ h _ H e1 h1 (fun env' H'=>∃ r',Sub r r'∧SR D Y r' e1 h1 env' H') rfl hsr hx1 (fun r' env' H' hs sr'=>⟨r',hs,sr'⟩))
  refine uR (r:=none) (B:=B) (N:=13) kO 2 aAk aEj F w H _ _ (by simpa [Act.put]using ha) hB st hre R ?_
  intro a3 F3 w3 env3 H3 s1 s2 s3 s4 s5 s6
  show rest56.wpSIn Fence.wide 0 prog Q a3 cs w3
  rw[aEb]
  have hB3:=hB.step st s3
  refine wpSIn_seq (wpSIn_of_wpIn rfl (gY (B:=B) (r:=none) (F:=F3) (H:=H3) (env:=env3) (N:=13) (draw:=false) hm aJY s1 hB3 s4 s5 s6 ?_))
  rintro a4 F4 w4 env4 H4 q1 q2 q3 q4 q5 ⟨r4,q6,q7⟩
  show (Code.cond (.tmp 8) (.region 2 ops56l false) .skip).wpSIn Fence.wide 0 prog Q a4 cs w4
  have hd4:a4.defers=[]:=by rw[q2,s2];exact hdf
  have E4:=s3.trans q3
  have h8:=q7.re i.is
  rw[hi3]at h8 hx
  split at hx
  ·rename_i h8t
   rw[h8t]at h8
   have hev:a4.eval (.tmp 8) = .bool true:=by
    have:=q5.rv 8
    rw[dC h8]at this
    show a4.tmps.getD 8 undef=_
    generalize a4.tmps.getD 8 undef=z at this
    cases this;rfl
   refine wpSIn_cond (t:=true) hev ?_
   simp only[Option.map_eq_some_iff]at hx
   obtain⟨⟨e5,h5⟩,hx5,rfl⟩:=hx
   rw[hi2]at hx5
   refine wpSIn_of_wpIn rfl (gY (B:=B) (r:=none) (F:=F4) (H:=H4) (env:=env4) (N:=13) (draw:=false) hm aHP q1 (hB3.step s4 q3) q4 q5
    (eQ (P:=prog) (B:=B) hf hy qN r4 _ h1 _ H4 e5 h5 (fun env' H'=>∃ r',Sub r r'∧SR D Y r' e5 h5 env' H') rfl q7 hx5 (fun r' env' H' hs sr'=>⟨r',q6.trans hs,sr'⟩)) ?_)
   rintro a5 F5 w5 env5 H5 p1 p2 p3 p4 p5 ⟨r5,p6,p7⟩
   exact hQ a5 F5 w5 H5 r5 (by rw[p2];exact hd4) (E4.trans p3) p4 p6 p7.sh
  ·rename_i h8t
   rw[h8t]at h8
   simp only[oSI]at hx
   subst hx
   have hev:a4.eval (.tmp 8) = .bool false:=by
    have:=q5.rv 8
    rw[dC h8]at this
    show a4.tmps.getD 8 undef=_
    generalize a4.tmps.getD 8 undef=z at this
    cases this;rfl
   refine wpSIn_cond (t:=false) hev ?_
   exact wpSIn_of_wpIn rfl (wpIn_skip (hQ a4 F4 w4 H4 r4 hd4 E4 q4 q6 q7.sh))
  ·simp at hx
 ·simp at hx

theorem aBB (vv:Value):(Instr.typeAssert (.iface 110 vv) 20 110 true).run prog w = .ok (.tuple #[vv,.bool true]) w:=by
 obtain⟨fs,hfs⟩:=aAw
 simp[Instr.typeAssert,run_underlying hfs]
theorem aCD:(Instr.typeAssert .nilIface 20 110 true).run prog w = .ok (.tuple #[.agg #[.int .i64 0],.bool false]) w:=by
 obtain⟨fs,hfs⟩:=aAw
 obtain⟨i,hi,hz⟩:=aGG
 simp[Instr.typeAssert,run_underlying hfs,zeroValue,typeInfo,hi,hz]

theorem aJM {run:bZ} {runY:cN} (hf:iC prog B D Y run) (hy:YS prog B D Y runY) (hm:prog.follows .mixedOrders=true) (hB:B.Up F w) (st:St F w H) (sh:SH D Y r h H) {c o b:Nat} (hrc:r c=some b)
 {i:aAs} (hi1:i.hops=kO++vK) (hi2:i.hlast=qN) (hi3:i.is=8) {v v':AV} {t:Bool} (hv:Rn D Y r v v') {h3:XH} (hx:yM i run runY (.pt c o) v t h=some h3) {u:FrameMode} {R:Ending→FrameMode→World→Prop} {cval:Value}
 (hu:(t=true∧u = .panicking (pnc cval)∧Rv F w (.ifc 110 v') cval)∨(t=false∧u = .returning∧v' = .agg [.int .i64 0]))
 (hR:∀ F' w' H' r' u',settle u' = .returning→Ext F w H F' w' H'→St F' w' H'→Sub r r'→SH D Y r' h3 H'→R (.returned (.tuple #[])) u' w') :
 CallsDIn Fence.wide 0 prog 56 #[.pointer (some ⟨b,o,none⟩)] u w R:=by
 refine callsDIn_of_wpSIn func56 aKf trivial fun c₀ cs hc0=>?_
 rw[aNe]
 obtain⟨o0,g1,g2,g3,g4⟩:=aJw
 refine wpSIn_seq (wP g1 g3 (fun _ _=>trivial) (by simp[execOp,resolve,g4,invoke,builtin]) rfl ?_)
 have fin:∀ (x vv:Value) (cs':List Frame) (u':FrameMode),cs'={ c₀ with mode:=u' }::cs→settle u' = .returning→(Instr.typeAssert x 20 110 true).run prog w = .ok (.tuple #[vv,.bool t]) w→Rv F w v' vv →
  wpOpsIn Fence.wide 0 prog ops56 (fun e a w=>Exit.thenS (rest56.wpSIn Fence.wide 0 prog (bodyPostS prog f56 c₀ cs R)) (bodyPostS prog f56 c₀ cs R) e a cs' w) (List.range' 1 (ops56.size-1))
   (Act.put { tmps := #[.pointer (some ⟨b,o,none⟩)]++Array.replicate (13 - #[Value.pointer (some ⟨b,o,none⟩)].size) undef,defers:=[] } o0.dst x) w:=by
  intro x vv cs' u' hcs hset hta hvv
  rw[g2,aJi]
  refine aJa hf hy hm hB st sh hrc hi1 hi2 hi3 hv hx hta hvv (by simp[Act.put]) rfl (by simp[Act.put,Act.eval]) (by simp[Act.put]) (B.gi.up hB) ?_
  intro a' F' w' H' r' k1 k2 k3 k4 k5
  refine⟨k1,u',hcs,.tuple #[],?_,hR F' w' H' r' u' hset k2 k3 k4 k5⟩
  simp[results,aLS]
 rcases hu with ⟨rfl,rfl,hc⟩|⟨rfl,rfl,rfl⟩
 ·cases hc with
  | ifc _ _ vv hvv =>
  have hrec:recoverD (c₀::cs)=some (.iface 110 vv,{ c₀ with mode:=.panicking [{ v:=.iface 110 vv,recovered:=true }] }::cs):=by
   simp[recoverD,hc0,pnc]
  rw[hrec]
  exact fin _ vv _ _ rfl rfl (aBB vv) hvv
 ·have hrec:recoverD (c₀::cs)=none:=by simp[recoverD,hc0]
  rw[hrec]
  exact fin _ (.agg #[.int .i64 0]) _ .returning (by rw[←hc0]) rfl aCD (.agg _ _ rfl (fun i v hv=>by
   match i with
   | 0=>simp at hv;subst hv;rfl
   | k+1=>simp at hv) (fun i x y hx hy=>by
   match i with
   | 0=>simp at hx hy;subst hx hy;exact .int _ _
   | k+1=>simp at hx))

def b21:XCode:=(.seq (.reg [(0,false)] false [⟨0,(some 8),(.mv (.t 0)),none⟩,⟨0,(some 9),(.callf false (.c (.fn (.func 59) [] [])) [(.t 8)] []),none⟩,⟨0,(some 10),
 (.not (.t 9)),none⟩,⟨0,(some 11),(.callf false (.c (.fn (.func 58) [] [])) [(.t 10),(.c (.int .i64 9))] []),none⟩]) (.seq (.reg [(1,false)] false
 [⟨0,(some 12),(.mv (.t 1)),none⟩,⟨0,(some 13),(.callf false (.c (.fn (.func 60) [] [])) [(.t 12)] []),none⟩,⟨0,(some 5),(.alloc [(.str ⟨#[]⟩),
 .nilsl,.nilsl]),none⟩,⟨0,none,(.store 3 (.t 5) (.t 13) []),none⟩]) (.seq (.reg [(0,false),(5,true)] false [⟨0,(some 14),(.mv (.t 0)),none⟩,⟨0,
 (some 15),(.load true 3 (.t 5)),none⟩,⟨0,(some 16),(.callf false (.c (.fn (.func 61) [] [])) [(.t 14),(.t 15)] []),none⟩,⟨0,(some 6),(.mv (.t
 16)),none⟩]) (.seq (.seq (.reg [] false [⟨0,(some 17),(.mv (.t 6)),none⟩,⟨0,(some 18),(.eqn 2 false (.t 17) (.c .nilfn)),none⟩]) (.cond (.t 18)
 (.seq (.reg [(0,false),(5,true)] false [⟨0,(some 19),(.mv (.t 0)),none⟩,⟨0,(some 20),(.load true 3 (.t 5)),none⟩,⟨0,(some 21),(.callf false (.c
 (.fn (.func 62) [] [])) [(.t 19),(.t 20)] []),none⟩,⟨0,none,(.store 1 (.t 4) (.t 21) []),none⟩]) .ret) .skip)) (.seq (.reg [] false [⟨0,(some 22),
 (.mv (.t 0)),none⟩,⟨0,(some 23),(.nilck (.t 22)),none⟩,⟨0,(some 24),(.fld 6 (.t 23)),none⟩,⟨0,(some 25),(.load false 1 (.t 24)),none⟩,⟨0,
 (some 26),(.len false (.t 25)),none⟩,⟨0,(some 27),(.bin .lss (.t 26) (.c (.int .i64 300))),none⟩,⟨0,(some 28),(.callf false (.c (.fn (.func 58) []
 [])) [(.t 27),(.c (.int .i64 15))] []),none⟩]) (.seq (.reg [] false [⟨0,(some 29),(.mv (.t 6)),none⟩,⟨0,(some 30),(.callf false (.t 29) [] []),
 none⟩]) (.seq (.reg [(1,false)] false [⟨0,(some 31),(.mv (.t 0)),none⟩,⟨0,(some 32),(.mv (.t 0)),none⟩,⟨0,(some 33),(.nilck (.t 32)),none⟩,⟨0,
 (some 34),(.fld 6 (.t 33)),none⟩,⟨0,(some 35),(.load false 1 (.t 34)),none⟩,⟨0,(some 36),(.mv (.t 1)),none⟩,⟨0,(some 37),(.bslice 1 1 [(.str
 ⟨#[]⟩)] [(0,(1,(.t 36)))]),none⟩,⟨0,(some 38),(.app 1 16 (.t 35) (.t 37)),none⟩,⟨0,(some 39),(.nilck (.t 31)),none⟩,⟨0,(some 40),(.fld 6 (.t
 39)),none⟩,⟨0,none,(.store 1 (.t 40) (.t 38) []),none⟩]) (.seq (.reg [] false [⟨0,none,(.store 1 (.t 4) (.c (.str ⟨#[111,107]⟩)) []),none⟩])
 .ret))))))))
def saySay:aAs:=⟨41,[(4,some (false,1))],[⟨0,some 4,.alloc [.str ⟨#[]⟩],none⟩],4,7,b21,110,.agg [.int .i64 0],kO++vK,8,qN⟩
theorem yZ:cC prog 41 code21=some b21.erase:=by kernel_rfl
theorem aMq:lQ b21=true:=by kernel_rfl
theorem aNg:mE b21=true:=by kernel_rfl

theorem aHI {i:aAs} (sh:SH D Y r h H) {r1:Nat→Option Nat} {e1 env1:aF} {h1:XH} {H1:Hp} (ha:Agree h.length r r1) (sr:SR D Y r1 e1 h1 env1 H1) {v:AV} {h':XH} (hx:uD i h.length e1 h1=some (v,h')) :
 ∃ v1,jF i.res env1 H1=some v1∧∃ v' H'',Shift (upd anyE 0 v1) H1 (upd anyE 0 v') H''∧dX D Y r v h' v' H'':=by
 unfold uD at hx
 simp only[Option.map_eq_some_iff]at hx
 obtain⟨v0,hv0,hfin⟩:=hx
 obtain⟨v0',k1,k2⟩:=aCS sr hv0
 refine⟨v0',k1,?_⟩
 have sr2:SR D Y r1 (upd anyE 0 v0) h1 (upd anyE 0 v0') H1:=⟨sr.sh,fun j=>by
  simp only[upd]
  split
  ·exact k2
  ·exact .any _⟩
 obtain⟨env2,H2,s1,s2⟩:=kP (jR h1 2 (rX v0)) _ _ _ _ sr2
 have hz:=(s2.re 0).nz
 obtain⟨r2,m1,m2,m3⟩:=nS s2.sh hz (k:=h.length)
 refine⟨nZ (env2 0),H2,s1.trans ?_,r2,fun b c hb=>m1 b c (sh.dom b c hb) (ha b c (sh.dom b c hb) hb),?_,?_⟩
 ·intro F w a st re
  refine⟨F,Ext.refl _ _ _,st,fun j=>?_,re.gi⟩
  simp only[upd]
  split
  ·rename_i hj;subst hj;exact(re.rv 0).nz
  ·exact .any _
 ·unfold jP at hfin
  simp only[Bool.false_eq_true,if_false,Prod.mk.injEq]at hfin
  rw[←hfin.2];exact m2
 ·unfold jP at hfin
  simp only[Bool.false_eq_true,if_false,Prod.mk.injEq]at hfin
  rw[←hfin.1];exact m3

theorem aJk {d21:XFn} (hD:D 21=some d21) (hN:d21.N=41) (hm:prog.follows .mixedOrders=true):aGE prog D saySay 21:=by
 intro run runY runP n hall hallP B Y hY r h H xs as' v h' sh hA hx
 obtain⟨hf,hy⟩:=hall B Y hY
 unfold aJl at hx
 split at hx
 ·rename_i hlen
  split at hx
  ·rename_i e1 h1 hx1
   split at hx
   ·rename_i c o he1
    split at hx
    ·rename_i hc
     have hA1:=hA.nz
     refine FnW.nz (FnW.shift ⟨fun vs w=>call21 vs w,fun F w vs hB st hAr=>?_⟩)
     have hsz:(vs++Array.replicate (f21.ntmps-vs.size) undef).size=41:=by
      have h1:=hAr.1
      have h2:=hA1.1
      rw[fD,List.length_map]at h2
      have:xs.length≤41:=hlen
      rw[aNf];simp;omega
     have hre:=tO (N:=41) (nt:=f21.ntmps-vs.size) hB hAr
     have RS0:=eQ (P:=prog) (B:=B) hf hy saySay.pre r _ h _ H e1 h1 (fun env' H'=>∃ r',DL.Sub r r'∧SR D Y r' e1 h1 env' H') rfl ⟨sh,jS hA1⟩ hx1 (fun r' env' H' hs sr'=>⟨r',hs,sr'⟩)
     refine callsIn_of_wp_marks func21 aKg trivial (wpIn_seq (gY (B:=B) (r:=none) (N:=41) (draw:=false) hm aLY hsz hB st hre RS0 ?_))
     rintro a1 F1 w1 env1 H1 p1 p2 p3 p4 p5 ⟨r1,p6,p7⟩
     show (Code.seq (.region 1 r21_1 false) code21).wpIn Fence.wide 0 prog _ a1 w1
     have hB1:=hB.step st p3
     have h4:=p7.re 4
     have he1':e1 4 = .pt c o:=he1
     rw[he1']at h4
     obtain⟨b,hrb,henv4⟩:∃ b,r1 c=some b∧env1 4 = .pt b o:=by
      generalize env1 4=z at h4
      cases h4 with
      | pt _ b _ hb=>exact⟨b,hb,rfl⟩
     refine wpIn_seq (wpIn_region ?_)
     rw[aOJ,show List.range 2=[0,1] from rfl,wpOpsIn_cons]
     obtain⟨o0,g1,g2⟩:=aNi
     obtain⟨o1,k1,k2,k3,k4⟩:=aTl
     refine xM (r:=none) (B:=B) (N:=41) (K:=fun env' H'=>env'=aQ env1 (some 7) (.fn (.func 56) [] [.pt b o])∧H'=H1) (eZ g1 g2) rfl (fun k hk=>by simp at hk;omega) p1 hB1 p4 p5 ?_ ?_
     ·rw[aFB,iL rfl]
      simp only[aD,List.map_nil,List.map_cons,aK,henv4,optW_some,dP]
      exact⟨by trivial,by trivial⟩
     rintro a2 F2 w2 env2 H2 s1 s2 s3 s4 s5 ⟨rfl,rfl⟩
     rw[wpOpsIn_cons]
     unfold wpOpIn
     simp only[k1]
     have hw:Region.wanted o1 (yielded r21_1 a2.tmps)=true:=by unfold Region.wanted;rw[k3]
     rw[if_pos hw]
     have h7:a2.eval (.tmp 7) = .func (.func 56) #[] #[.pointer (some ⟨b,o,none⟩)]:=by
      have:=s5.rv 7
      simp only[aQ,upd,if_true]at this
      show a2.tmps.getD 7 undef=_
      generalize a2.tmps.getD 7 undef=z at this
      cases this with
      | fn _ _ _ fv cv hl1 hl2 q1 q2 =>
        have e1:fv = #[]:=by
         rcases fv with ⟨_|⟨a,l⟩⟩
         ·rfl
         ·simp at hl1
        have e2:cv = #[.pointer (some ⟨b,o,none⟩)]:=by
         rcases cv with ⟨_|⟨a,_|⟨a',l⟩⟩⟩
         ·simp at hl2
         ·have:=q2 0 _ a rfl rfl
          cases this;rfl
         ·simp at hl2
        rw[e1,e2]
     refine⟨fun _ _=>trivial,?_⟩
     have hsem:(o1.semAt Fence.wide.round a2.eval).run prog w2 = .ok (.defer { target:=.fn (.func 56) #[.pointer (some ⟨b,o,none⟩)],args := #[] }) w2:=by
      have:Fence.wide.round=none:=rfl
      rw[this,Oper.semAt_none]
      simp[execOp,resolve,k4,h7,Deferred.ofValue]
     rw[hsem,Oper.uponIn_defer,k2]
     have hdf:a2.defers=[]:=by rw[s2,p2]
     obtain⟨T,hT⟩:∃ T:List Deferred,T=[{ target:=.fn (.func 56) #[.pointer (some ⟨b,o,none⟩)],args := #[] }]:=⟨_,rfl⟩
     have hact:Act.put { a2 with defers:={ target:=.fn (.func 56) #[.pointer (some ⟨b,o,none⟩)],args := #[] }::a2.defers } none undef={ tmps:=a2.tmps,defers:=T }:=by
      rw[hdf,hT];rfl
     rw[hact]
     show code21.wpIn Fence.wide 0 prog _ { tmps:=a2.tmps,defers:=T } w2
     have hB2:=hB1.step p4 s3
     have E2:=p3.trans s3
     have sr2:SR D Y r1 (upd e1 7 .any) h1 (aQ env1 (some 7) (.fn (.func 56) [] [.pt b o])) H2:=⟨p7.sh,fun j=>by
      simp only[upd,aQ]
      split
      ·exact .any _
      ·exact p7.re j⟩
     have ag1:Agree h.length r r1:=p6.agree _
     have out:∀ (F':Nat→Prop) (w':World) (H':Hp) (env':aF) (tmps:Array Value) (ds:List Deferred) (r3:Nat→Option Nat) (e2:aF) (h2 h3:XH) (u:FrameMode) (v0 v0':AV) (t:Bool) (cval:Value),u ≠ .run→Ext F w H F' w' H'→St F' w' H'→RE F' w' env' { tmps:=tmps,defers:=[] } →
      Mk w2.heap.size T F' H' w' ds→Agree h1.length r1 r3→SR D Y r3 e2 h2 env' H'→Rn D Y r3 v0 v0'→yM saySay run runY (.pt c o) v0 t h2=some h3→uD saySay h.length e2 h3=some (v,h') →
      ((t=true∧u = .panicking (pnc cval)∧Rv F' w' (.ifc 110 v0') cval)∨(t=false∧u = .returning∧v0' = .agg [.int .i64 0])) →
      LeavesInM Fence.wide 0 prog f21 tmps (nG F w H fun v1 H1=>∃ v' H'',Shift (upd anyE 0 v1) H1 (upd anyE 0 v') H''∧dX D Y r v h' v' H'') ds u w':=by
      intro F' w' H' env' tmps ds r3 e2 h2 h3 u v0 v0' t cval hu he st' re' mk ag sr3 hv0 hh hret hcase
      obtain⟨ms,q1,q2,q3⟩:=mk.ex
      rw[q1]
      refine wZ (env:=env') (S:=fun w'=>(t=true∧u = .panicking (pnc cval)∧Rv F' w' (.ifc 110 v0') cval)∨(t=false∧u = .returning∧v0' = .agg [.int .i64 0])) (fun w w' hu hs=>?_) hu E2.le (fun w'' hs'' he' st'' re''=>?_) ms w' hcase he st' re' q2 q3
      ·rcases hs with ⟨a1,a2,a3⟩|hs
       ·exact .inl ⟨a1,a2,a3.up hu⟩
       ·exact .inr hs
      rw[hT]
      refine⟨hu,.inr ⟨fun hd=>by simp[Fence.wide]at hd,_,_,56,#[.pointer (some ⟨b,o,none⟩)],rfl,?_,fun _ _=>trivial,?_⟩⟩
      ·have:=call56 #[Value.pointer (some ⟨b,o,none⟩)] w''
       first|exact this|simpa [invoke]using this
      ·refine aJM hf hy hm (hB.step st he') st'' sr3.sh (ag c b hc hrb) rfl rfl rfl hv0 hh hs'' ?_
       intro F4 w4 H4 r4 u' hset t2 t3 t4 t5
       show LeavesInM Fence.wide 0 prog f21 tmps _ [] (settle u') w4
       rw[hset]
       have re4:RE F4 w4 env' { tmps:=tmps,defers:=[] }:=re''.up (t2.up st'')
       have sr4:SR D Y r4 e2 h3 env' H4:=⟨t5,fun j=>(sr3.re j).mono t4⟩
       have ag4:Agree h.length r r4:=fun b1 c1 hb1 hr1=>t4 _ _ (ag b1 c1 (p7.sh.dom b1 c1 (p6 b1 c1 hr1)) (p6 b1 c1 hr1))
       obtain⟨v1,x1,x2⟩:=aHI sh ag4 sr4 hret
       obtain⟨cv,y1,y2⟩:=rY t3 re4 aLT x1
       exact⟨cv,y1,cv,v1,F4,H4,rfl,he'.trans t2,t3,y2,x2⟩
     split at hx
     ·simp at hx
     ·rename_i x e2 h2 hne hex
      simp only[Option.bind_eq_some_iff]at hx
      obtain⟨h3,hh,hret⟩:=hx
      have hWD:=eU hD hm hall h1.length n none none b21 B Y r1 _ h1 _ H2 x e2 h2 (fun x' env3 H3=>x'=x∧∃ r3,Agree h1.length r1 r3∧SR D Y r3 e2 h2 env3 H3) hY aMq (aA aNg) rfl sr2 hex (fun r' env' H' ha sr'=>⟨rfl,r',ha,sr'⟩)
      have hW:=hWD code21 (by rw[hN];exact yZ) F2 w2 { tmps:=a2.tmps,defers:=T } w2.heap.size T hB2 (Nat.le_refl _) (by rw[hN];exact s1) s4 s5 Mk.nil
      refine wpIn_mono hW ?_
      rintro e a' w' ⟨x',env',F',H',z1,z2,z3,z4,z5,z6,rfl,r3,z7,z8⟩
      have fin:=fun(hu:True)=>out F' w' H' env' a'.tmps a'.defers r3 e2 h2 h3 .returning _ _ false undef (by simp) (E2.trans z3) z4 z5 z6 z7 z8 ((oP saySay.zero rfl)) hh hret (.inr ⟨rfl,rfl,rfl⟩)
      cases e with
      | normal=>exact fin trivial
      | ret=>exact fin trivial
      | exit id=>simp only at z1;subst z1;exact(hne id rfl).elim
      | goto l=>exact z1.elim
      | panic c=>exact z1.elim
      | outgrown=>exact z1.elim
     ·rename_i hex
      split at hx
      ·rename_i ty v0 e2 h2 hexP
       split at hx
       ·rename_i hty
        simp only[Option.bind_eq_some_iff]at hx
        obtain⟨h3,hh,hret⟩:=hx
        have hWD:=sL hD hm hall hallP h1.length n none none b21 B Y r1 _ h1 _ H2 (.ifc ty v0) e2 h2 (fun v' env3 H3=>∃ r3,Agree h1.length r1 r3∧SR D Y r3 e2 h2 env3 H3∧Rn D Y r3 (.ifc ty v0) v') hY aMq (aA aNg) rfl sr2 hexP (fun r' v' env' H' ha sr' hv'=>⟨r',ha,sr',hv'⟩)
        have hW:=hWD code21 (by rw[hN];exact yZ) F2 w2 { tmps:=a2.tmps,defers:=T } w2.heap.size T hB2 (Nat.le_refl _) (by rw[hN];exact s1) s4 s5 Mk.nil
        refine wpIn_mono hW ?_
        rintro e a' w' ⟨cv,vv,env',F',H',rfl,z3,z4,z5,z9,z6,r3,z7,z8,Z9⟩
        have hty':ty=110:=hty
        subst hty'
        cases Z9 with
        | ifc _ _ v0' hv0' =>
        exact out F' w' H' env' a'.tmps a'.defers r3 e2 h2 h3 (.panicking (pnc cv)) v0 v0' true cv (by simp) (E2.trans z3) z4 z5 z6 z7 z8 hv0' hh hret (.inl ⟨rfl,rfl,z9⟩)
       ·simp at hx
      ·simp at hx
    ·simp at hx
   ·simp at hx
  ·simp at hx
 ·simp at hx
end
noncomputable def m58a:Array Oper:=match f58.body with
 | some (.seq (.region _ ops _) _)=>ops
 | _ => #[]
noncomputable def m58b:Array Oper:=match f58.body with
 | some (.seq _ (.cond _ (.region _ ops _) _))=>ops
 | _ => #[]
theorem aKe:f58.body=some (.seq (.region 0 m58a false) (.cond (.tmp 5) (.region 1 m58b false) .skip)):=rfl
def aJG:List DOper:=[⟨0,some 4,.mv (.t 0),none⟩,⟨0,some 5,.not (.t 4),none⟩]
def l58b:List DOper:=[⟨0,some 6,.mv (.t 1),none⟩,⟨0,some 7,.build [.int .i64 0] [(0,(1,.t 6))],none⟩,⟨0,some 8,.mkifc 110 (.t 7),none⟩]
theorem aTo:mX prog 9 m58a false=some aJG:=by kernel_rfl
theorem aTn:((m58b.toList.take 3).mapM (sP prog m58b))=some l58b:=by kernel_rfl
theorem p58:∃ o,m58b[3]?=some o∧o.guard=none∧o.op = .panic (.tmp 8):=⟨_,rfl,rfl,rfl⟩
theorem s58:m58b.size=4:=rfl
theorem n58:f58.ntmps=9:=rfl

section
variable {D:Nat→Option XFn} {B:Base} {Y:Nat→Option YI} {r:Nat→Option Nat} {h:XH} {H:Hp}
def aDf:bZ:=fun _ _ _=>none
def aAa:cN:=fun _ _ _=>none
theorem aAY:iC prog B D Y aDf:=fun _ _ _ _ _ _ _ _ _ _ hx=>by simp[aDf]at hx
theorem yE:YS prog B D Y aAa:=fun _ _ _ _ _ _ _ _ _ _ _ _ hx=>by simp[aAa]at hx

theorem aOE (k:IntKind) (n:Int):∃ e1,dR aDf aAa aJG (aY [.bool false,.int k n]) h=some (e1,h)∧e1 5 = .bool true∧e1 1 = .int k n:=⟨_,rfl,rfl,rfl⟩
theorem aOD {e:aF} {k:IntKind} {n:Int} (he:e 1 = .int k n):∃ e1,dR aDf aAa l58b e h=some (e1,h)∧e1 8 = .ifc 110 (.agg [.int k n]):=by
 refine⟨aQ (aQ (aQ e (some 6) (.int k n)) (some 7) (.agg [.int k n])) (some 8) (.ifc 110 (.agg [.int k n])),?_,rfl⟩
 have h0:aK e (.t 1) = .int k n:=he
 simp only[l58b,dR,gd,bR,aD,h0,Option.bind_some]
 rfl

theorem aRh (hm:prog.follows .mixedOrders=true) (k:IntKind) (n:Int) {as':List AV} (sh:SH D Y r h H) (hA:RnL D Y r [.bool false,.int k n] as'):FnP B prog 58 as' H (dX D Y r (.ifc 110 (.agg [.int k n])) h):=by
 have hl:as'.length=2:=by have:=hA.1;simpa using this.symm
 refine⟨fun vs w=>call58 vs w,fun F w vs hB st hAr=>?_⟩
 have hsz:(vs++Array.replicate (f58.ntmps-vs.size) undef).size=9:=by
  have h1:=hAr.1
  rw[n58];simp;omega
 have hre:=tO (N:=9) (nt:=f58.ntmps-vs.size) hB hAr
 obtain⟨e1,hx1,he5,he1⟩:=aOE (h:=h) k n
 have RS0:=eQ (P:=prog) (B:=B) aAY yE aJG r _ h _ H e1 h (fun env' H'=>∃ r',DL.Sub r r'∧SR D Y r' e1 h env' H') rfl ⟨sh,jS hA⟩ hx1 (fun r' env' H' hs sr'=>⟨r',hs,sr'⟩)
 refine callsIn_of_wp_marks func58 aKe trivial (wpIn_seq (gY (B:=B) (r:=none) (N:=9) (draw:=false) hm aTo hsz hB st hre RS0 ?_))
 rintro a1 F1 w1 env1 H1 p1 p2 p3 p4 p5 ⟨r1,p6,p7⟩
 show (Code.cond (.tmp 5) (.region 1 m58b false) .skip).wpIn Fence.wide 0 prog _ a1 w1
 have hev:a1.eval (.tmp 5) = .bool true:=by
  have h5:=p7.re 5
  rw[he5]at h5
  have:=p5.rv 5
  rw[dC h5]at this
  show a1.tmps.getD 5 undef=_
  generalize a1.tmps.getD 5 undef=z at this
  cases this;rfl
 refine wpIn_cond (t:=true) hev (OpsW.region ?_)
 rw[s58,show List.range 4=List.range' 0 l58b.length++[3] from rfl]
 obtain⟨e2,hx2,he8⟩:=aOD (h:=h) he1
 have RS1:=eQ (P:=prog) (B:=B) aAY yE l58b r1 _ h _ H1 e2 h (fun env' H'=>∃ r',DL.Sub r r'∧SR D Y r' e2 h env' H') rfl p7 hx2 (fun r' env' H' hs sr'=>⟨r',p6.trans hs,sr'⟩)
 refine iD (r:=none) (B:=B) (N:=9) l58b 0 (fun j d hj=>?_) (fun d hd=>?_) F1 w1 H1 env1 a1 p1 (hB.step st p3) p4 p5 RS1 ?_
 ·obtain⟨h1,h2⟩:=jK aTn
  obtain⟨o,h3,h4⟩:=h2 j d hj
  rw[Nat.zero_add]
  refine eZ (o:=o) ?_ h4
  rw[List.getElem?_take]at h3
  split at h3
  ·rwa [Array.getElem?_toList]at h3
  ·cases h3
 ·simp only[l58b,List.mem_cons,List.not_mem_nil,or_false]at hd
  rcases hd with rfl|rfl|rfl<;>exact⟨by intro k hk;simp at hk<;>omega,rfl,.inr rfl⟩
 rintro a2 F2 w2 env2 H2 q1 q2 q3 q4 q5 ⟨r2,q6,q7⟩
 refine OpsW.of ?_
 obtain⟨o,g1,g2,g3⟩:=p58
 rw[wpOpsIn_cons]
 unfold wpOpIn
 simp only[g1]
 have hw:Region.wanted o (yielded m58b a2.tmps)=true:=by unfold Region.wanted;rw[g2]
 rw[if_pos hw]
 refine⟨fun _ _=>trivial,?_⟩
 have h8:=q7.re 8
 rw[he8]at h8
 have hrv:=q5.rv 8
 cases hz:env2 8<;>rw[hz]at h8<;>cases h8
 rename_i v8 h8
 rw[hz]at hrv
 obtain⟨cv,hcv⟩:∃ cv,a2.tmps.getD 8 undef=cv:=⟨_,rfl⟩
 rw[hcv]at hrv
 have hev8:a2.eval (.tmp 8)=cv:=hcv
 have hrv0:=hrv
 cases hrv with
 | ifc _ _ vv hvv =>
 have hsem:(o.semAt (FW none).round a2.eval).run prog w2 = .halt (.panic (.iface 110 vv)) w2:=by
  rw[Oper.semAt_eq _ _ _ (by rw[g3];simp)]
  simp[execOp,g3,hev8,Instr.panic,goPanic]
 rw[hsem,Oper.uponIn_panic]
 show LeavesInM Fence.wide 0 prog f58 a2.tmps _ a2.defers (.panicking _) w2
 have hd2:a2.defers=[]:=by rw[q2,p2]
 rw[hd2]
 exact⟨.iface 110 vv,_,F2,H2,rfl,p3.trans q3,q4,hrv0,r2,q6,q7.sh,.ifc _ _ _ h8⟩
end
end Go.Proofs.YtmapgnepfgnphaaGreatDoor
namespace Go.Proofs.YtmapgnepfgnphaaGreatDoor
open Go Go.DL Go.Proofs.Tryz

def sT (f:List AV→XH→Option (AV×XH)):XFn:=⟨10,[],false,false,.skip,none,some f⟩
def aLZ (n:Nat):XFn:=⟨n,[],false,false,.skip,none,some fun _ _=>none⟩
def aH (K:Nat):Option XFn:=match K with
 | 37=>some (sT lZ)
 | 47=>some (sT aAT)
 | 57=>some (sT uW)
 | 71=>some (sT aAS)
 | 72=>some (sT uV)
 | 74=>some (sT aCY)
 | 80=>some (sT uU)
 | 83=>some (sT zW)
 | 99=>some (sT aBX)
 | 115=>some (sT zX)
 | 143=>some (sT mA)
 | 21=>some (aLZ 41)
 | K=>aFw K

theorem aIp {D:Nat→Option XFn} {K:Nat}:iO D K (fun _ _=>none):=fun _ _ _ _ _ _ _ _ _ _ _ hx=>by cases hx
theorem XOk.over {D D':Nat→Option XFn} (ok:XOk prog D) (h:∀ K d,D' K=some d→(D K=some d∧d.prm=none)∨∃ n f,d=⟨n,[],false,false,.skip,none,some f⟩∧iO D' K f):XOk prog D' where
 mixed:=ok.mixed
 is K d hd hp:=by
  rcases h K d hd with ⟨h1,_⟩|⟨n,f,rfl,_⟩
  ·exact ok.is K d h1 hp
  ·cases hp
 prm K d f hd hp B Y _ r hh H xs ys v h' sh hr hx:=by
  rcases h K d hd with ⟨_,h2⟩|⟨n,f',rfl,h2⟩
  ·rw[h2]at hp;cases hp
  ·cases hp
   exact h2 B Y r hh H xs ys v h' sh hr hx
 ok K d hd:=by
  rcases h K d hd with ⟨h1,_⟩|⟨n,f,rfl,_⟩
  ·exact ok.ok K d h1
  ·rfl
 sites K d hd:=by
  rcases h K d hd with ⟨h1,_⟩|⟨n,f,rfl,_⟩
  ·exact ok.sites K d h1
  ·trivial

theorem aAR:XOk prog aH:=by
 refine XOk.over progX_ok fun K d hd=>?_
 unfold aH at hd
 split at hd
 ·cases hd;exact .inr ⟨_,_,rfl,aIy⟩
 ·cases hd;exact .inr ⟨_,_,rfl,aIx⟩
 ·cases hd;exact .inr ⟨_,_,rfl,aIw⟩
 ·cases hd;exact .inr ⟨_,_,rfl,aIv⟩
 ·cases hd;exact .inr ⟨_,_,rfl,aIu⟩
 ·cases hd;exact .inr ⟨_,_,rfl,aIt⟩
 ·cases hd;exact .inr ⟨_,_,rfl,aIs⟩
 ·cases hd;exact .inr ⟨_,_,rfl,aIr⟩
 ·cases hd;exact .inr ⟨_,_,rfl,aIq⟩
 ·cases hd;exact .inr ⟨_,_,rfl,aFz⟩
 ·cases hd;exact .inr ⟨_,_,rfl,aFy⟩
 ·cases hd;exact .inr ⟨_,_,rfl,aIp⟩
 ·exact .inl ⟨hd,aJp hd⟩

def specZ:gM:=⟨fun K xs=>match K,xs with
 | 58,[.bool false,.int k e]=>some (.ifc 110 (.agg [.int k e]))
 | _,_=>none,fun K=>if K=21 then some saySay else none,fun _ _ _=>none⟩
theorem aAD {D:Nat→Option XFn}:aKl prog D specZ:=by
 intro K xs v hx B Y r h H ys sh hA
 unfold specZ at hx
 dsimp only at hx
 split at hx
 ·cases hx
  exact aRh progX_ok.mixed _ _ sh hA
 ·cases hx
theorem xK {D:Nat→Option XFn} (hD:D 21=some (aLZ 41)):∀ K i,specZ.say K=some i→aGE prog D i K:=by
 intro K i hi
 unfold specZ at hi
 dsimp only at hi
 split at hi
 ·rename_i hK
  cases hi
  subst hK
  exact aJk hD rfl progX_ok.mixed
 ·cases hi
end Go.Proofs.YtmapgnepfgnphaaGreatDoor
namespace Go.Proofs.YtmapgnepfgnphaaGreatDoor
open Go Go.DL
theorem rf0:aU aH specZ 400 rw0.K rw0.as rw0.h=some (rw0.v,rw0.h'):=by kernel_rfl
theorem rf1:aU aH specZ 400 rw1.K rw1.as rw1.h=some (rw1.v,rw1.h'):=by kernel_rfl
theorem rf2:aU aH specZ 400 rw2.K rw2.as rw2.h=some (rw2.v,rw2.h'):=by kernel_rfl
theorem rf3:aU aH specZ 400 rw3.K rw3.as rw3.h=some (rw3.v,rw3.h'):=by kernel_rfl
theorem rf6:aU aH specZ 400 rw6.K rw6.as rw6.h=some (rw6.v,rw6.h'):=by kernel_rfl
theorem rf7:aU aH specZ 400 rw7.K rw7.as rw7.h=some (rw7.v,rw7.h'):=by kernel_rfl
theorem rf8:aU aH specZ 400 rw8.K rw8.as rw8.h=some (rw8.v,rw8.h'):=by kernel_rfl
theorem rf9:aU aH specZ 400 rw9.K rw9.as rw9.h=some (rw9.v,rw9.h'):=by kernel_rfl
theorem aRe:aU aH specZ 400 rw10.K rw10.as rw10.h=some (rw10.v,rw10.h'):=by kernel_rfl
theorem aRc:aU aH specZ 400 rw12.K rw12.as rw12.h=some (rw12.v,rw12.h'):=by kernel_rfl
theorem aRb:aU aH specZ 400 rw13.K rw13.as rw13.h=some (rw13.v,rw13.h'):=by kernel_rfl
theorem aQZ:aU aH specZ 400 rw15.K rw15.as rw15.h=some (rw15.v,rw15.h'):=by kernel_rfl
theorem aQY:aU aH specZ 400 rw16.K rw16.as rw16.h=some (rw16.v,rw16.h'):=by kernel_rfl
theorem aQX:aU aH specZ 400 rw17.K rw17.as rw17.h=some (rw17.v,rw17.h'):=by kernel_rfl
theorem aQW:aU aH specZ 400 rw18.K rw18.as rw18.h=some (rw18.v,rw18.h'):=by kernel_rfl
theorem aQV:aU aH specZ 400 rw19.K rw19.as rw19.h=some (rw19.v,rw19.h'):=by kernel_rfl
theorem aQU:aU aH specZ 400 rw20.K rw20.as rw20.h=some (rw20.v,rw20.h'):=by kernel_rfl
theorem aQT:aU aH specZ 400 rw21.K rw21.as rw21.h=some (rw21.v,rw21.h'):=by kernel_rfl
theorem aQS:aU aH specZ 400 rw22.K rw22.as rw22.h=some (rw22.v,rw22.h'):=by kernel_rfl
theorem aQR:aU aH specZ 400 rw23.K rw23.as rw23.h=some (rw23.v,rw23.h'):=by kernel_rfl
theorem aQQ:aU aH specZ 400 rw24.K rw24.as rw24.h=some (rw24.v,rw24.h'):=by kernel_rfl
theorem aQP:aU aH specZ 400 rw25.K rw25.as rw25.h=some (rw25.v,rw25.h'):=by kernel_rfl
theorem aQO:aU aH specZ 400 rw26.K rw26.as rw26.h=some (rw26.v,rw26.h'):=by kernel_rfl
theorem aQN:aU aH specZ 400 rw27.K rw27.as rw27.h=some (rw27.v,rw27.h'):=by kernel_rfl
theorem aQM:aU aH specZ 400 rw28.K rw28.as rw28.h=some (rw28.v,rw28.h'):=by kernel_rfl
theorem aQL:aU aH specZ 400 rw29.K rw29.as rw29.h=some (rw29.v,rw29.h'):=by kernel_rfl
theorem aQK:aU aH specZ 400 rw30.K rw30.as rw30.h=some (rw30.v,rw30.h'):=by kernel_rfl
theorem aQJ:aU aH specZ 400 rw31.K rw31.as rw31.h=some (rw31.v,rw31.h'):=by kernel_rfl
theorem aQI:aU aH specZ 400 rw32.K rw32.as rw32.h=some (rw32.v,rw32.h'):=by kernel_rfl
theorem aQH:aU aH specZ 400 rw33.K rw33.as rw33.h=some (rw33.v,rw33.h'):=by kernel_rfl
theorem aQG:aU aH specZ 400 rw34.K rw34.as rw34.h=some (rw34.v,rw34.h'):=by kernel_rfl
theorem aQF:aU aH specZ 400 rw35.K rw35.as rw35.h=some (rw35.v,rw35.h'):=by kernel_rfl
theorem aQE:aU aH specZ 400 rw36.K rw36.as rw36.h=some (rw36.v,rw36.h'):=by kernel_rfl
theorem aQD:aU aH specZ 400 rw37.K rw37.as rw37.h=some (rw37.v,rw37.h'):=by kernel_rfl
theorem aQC:aU aH specZ 400 rw38.K rw38.as rw38.h=some (rw38.v,rw38.h'):=by kernel_rfl
theorem aQB:aU aH specZ 400 rw39.K rw39.as rw39.h=some (rw39.v,rw39.h'):=by kernel_rfl
theorem aQA:aU aH specZ 400 rw40.K rw40.as rw40.h=some (rw40.v,rw40.h'):=by kernel_rfl
theorem aQz:aU aH specZ 400 rw41.K rw41.as rw41.h=some (rw41.v,rw41.h'):=by kernel_rfl
theorem aQy:aU aH specZ 400 rw42.K rw42.as rw42.h=some (rw42.v,rw42.h'):=by kernel_rfl
theorem aQx:aU aH specZ 400 rw43.K rw43.as rw43.h=some (rw43.v,rw43.h'):=by kernel_rfl
theorem aQw:aU aH specZ 400 rw44.K rw44.as rw44.h=some (rw44.v,rw44.h'):=by kernel_rfl
theorem aQv:aU aH specZ 400 rw45.K rw45.as rw45.h=some (rw45.v,rw45.h'):=by kernel_rfl
theorem aQu:aU aH specZ 400 rw46.K rw46.as rw46.h=some (rw46.v,rw46.h'):=by kernel_rfl
theorem aQt:aU aH specZ 400 rw47.K rw47.as rw47.h=some (rw47.v,rw47.h'):=by kernel_rfl
theorem aQr:aU aH specZ 400 rw49.K rw49.as rw49.h=some (rw49.v,rw49.h'):=by kernel_rfl
theorem aQq:aU aH specZ 400 rw50.K rw50.as rw50.h=some (rw50.v,rw50.h'):=by kernel_rfl
theorem aQp:aU aH specZ 400 rw51.K rw51.as rw51.h=some (rw51.v,rw51.h'):=by kernel_rfl
theorem aQo:aU aH specZ 400 rw52.K rw52.as rw52.h=some (rw52.v,rw52.h'):=by kernel_rfl
theorem aQn:aU aH specZ 400 rw53.K rw53.as rw53.h=some (rw53.v,rw53.h'):=by kernel_rfl
theorem aQm:aU aH specZ 400 rw54.K rw54.as rw54.h=some (rw54.v,rw54.h'):=by kernel_rfl
theorem aQl:aU aH specZ 400 rw55.K rw55.as rw55.h=some (rw55.v,rw55.h'):=by kernel_rfl
theorem aQj:aU aH specZ 400 rw57.K rw57.as rw57.h=some (rw57.v,rw57.h'):=by kernel_rfl
theorem aQi:aU aH specZ 400 rw58.K rw58.as rw58.h=some (rw58.v,rw58.h'):=by kernel_rfl
theorem aQh:aU aH specZ 400 rw59.K rw59.as rw59.h=some (rw59.v,rw59.h'):=by kernel_rfl
theorem aQg:aU aH specZ 400 rw60.K rw60.as rw60.h=some (rw60.v,rw60.h'):=by kernel_rfl
theorem aQf:aU aH specZ 400 rw61.K rw61.as rw61.h=some (rw61.v,rw61.h'):=by kernel_rfl
theorem aQe:aU aH specZ 400 rw62.K rw62.as rw62.h=some (rw62.v,rw62.h'):=by kernel_rfl
theorem aQd:aU aH specZ 400 rw63.K rw63.as rw63.h=some (rw63.v,rw63.h'):=by kernel_rfl
theorem aQa:aU aH specZ 400 rw66.K rw66.as rw66.h=some (rw66.v,rw66.h'):=by kernel_rfl
theorem aPZ:aU aH specZ 400 rw68.K rw68.as rw68.h=some (rw68.v,rw68.h'):=by kernel_rfl
theorem aPY:aU aH specZ 400 rw69.K rw69.as rw69.h=some (rw69.v,rw69.h'):=by kernel_rfl
theorem aPX:aU aH specZ 400 rw70.K rw70.as rw70.h=some (rw70.v,rw70.h'):=by kernel_rfl
theorem aPW:aU aH specZ 400 rw71.K rw71.as rw71.h=some (rw71.v,rw71.h'):=by kernel_rfl
theorem aPV:aU aH specZ 400 rw72.K rw72.as rw72.h=some (rw72.v,rw72.h'):=by kernel_rfl
theorem aPU:aU aH specZ 400 rw73.K rw73.as rw73.h=some (rw73.v,rw73.h'):=by kernel_rfl
theorem aPT:aU aH specZ 400 rw74.K rw74.as rw74.h=some (rw74.v,rw74.h'):=by kernel_rfl
theorem aPR:aU aH specZ 400 rw76.K rw76.as rw76.h=some (rw76.v,rw76.h'):=by kernel_rfl
theorem aPQ:aU aH specZ 400 rw77.K rw77.as rw77.h=some (rw77.v,rw77.h'):=by kernel_rfl
theorem aPP:aU aH specZ 400 rw78.K rw78.as rw78.h=some (rw78.v,rw78.h'):=by kernel_rfl
theorem aPO:aU aH specZ 400 rw79.K rw79.as rw79.h=some (rw79.v,rw79.h'):=by kernel_rfl
theorem aPN:aU aH specZ 400 rw80.K rw80.as rw80.h=some (rw80.v,rw80.h'):=by kernel_rfl
theorem aPM:aU aH specZ 400 rw81.K rw81.as rw81.h=some (rw81.v,rw81.h'):=by kernel_rfl
theorem aPL:aU aH specZ 400 rw82.K rw82.as rw82.h=some (rw82.v,rw82.h'):=by kernel_rfl
theorem aPI:aU aH specZ 400 rw85.K rw85.as rw85.h=some (rw85.v,rw85.h'):=by kernel_rfl
def aAz:List cO:=[rw0,rw1,rw2,rw3,rw6,rw7,rw8,rw9,rw10,rw12,rw13,rw15,rw16,rw17,rw18,rw19,rw20,rw21,rw22,rw23,rw24,rw25,rw26,rw27,rw28,rw29,rw30,rw31,rw32,rw33,rw34,rw35,rw36,rw37,rw38,rw39,rw40,rw41,rw42,rw43,rw44,rw45,rw46,rw47,rw49,rw50,rw51,rw52,rw53,rw54,rw55,rw57,rw58,rw59,rw60,rw61,rw62,rw63,rw66,rw68,rw69,rw70,rw71,rw72,rw73,rw74,rw76,rw77,rw78,rw79,rw80,rw81,rw82,rw85]
theorem aGO:∀ q∈aAz,∃ n,aU aH specZ n q.K q.as q.h=some (q.v,q.h'):=by
 intro q hq
 simp only[aAz,List.mem_cons,List.not_mem_nil,or_false]at hq
 rcases hq with rfl|rfl|rfl|rfl|rfl|rfl|rfl|rfl|rfl|rfl|rfl|rfl|rfl|rfl|rfl|rfl|rfl|rfl|rfl|rfl|rfl|rfl|rfl|rfl|rfl|rfl|rfl|rfl|rfl|rfl|rfl|rfl|rfl|rfl|rfl|rfl|rfl|rfl|rfl|rfl|rfl|rfl|rfl|rfl|rfl|rfl|rfl|rfl|rfl|rfl|rfl|rfl|rfl|rfl|rfl|rfl|rfl|rfl|rfl|rfl|rfl|rfl|rfl|rfl|rfl|rfl|rfl|rfl|rfl|rfl|rfl|rfl|rfl|rfl
 ·exact⟨400,rf0⟩
 ·exact⟨400,rf1⟩
 ·exact⟨400,rf2⟩
 ·exact⟨400,rf3⟩
 ·exact⟨400,rf6⟩
 ·exact⟨400,rf7⟩
 ·exact⟨400,rf8⟩
 ·exact⟨400,rf9⟩
 ·exact⟨400,aRe⟩
 ·exact⟨400,aRc⟩
 ·exact⟨400,aRb⟩
 ·exact⟨400,aQZ⟩
 ·exact⟨400,aQY⟩
 ·exact⟨400,aQX⟩
 ·exact⟨400,aQW⟩
 ·exact⟨400,aQV⟩
 ·exact⟨400,aQU⟩
 ·exact⟨400,aQT⟩
 ·exact⟨400,aQS⟩
 ·exact⟨400,aQR⟩
 ·exact⟨400,aQQ⟩
 ·exact⟨400,aQP⟩
 ·exact⟨400,aQO⟩
 ·exact⟨400,aQN⟩
 ·exact⟨400,aQM⟩
 ·exact⟨400,aQL⟩
 ·exact⟨400,aQK⟩
 ·exact⟨400,aQJ⟩
 ·exact⟨400,aQI⟩
 ·exact⟨400,aQH⟩
 ·exact⟨400,aQG⟩
 ·exact⟨400,aQF⟩
 ·exact⟨400,aQE⟩
 ·exact⟨400,aQD⟩
 ·exact⟨400,aQC⟩
 ·exact⟨400,aQB⟩
 ·exact⟨400,aQA⟩
 ·exact⟨400,aQz⟩
 ·exact⟨400,aQy⟩
 ·exact⟨400,aQx⟩
 ·exact⟨400,aQw⟩
 ·exact⟨400,aQv⟩
 ·exact⟨400,aQu⟩
 ·exact⟨400,aQt⟩
 ·exact⟨400,aQr⟩
 ·exact⟨400,aQq⟩
 ·exact⟨400,aQp⟩
 ·exact⟨400,aQo⟩
 ·exact⟨400,aQn⟩
 ·exact⟨400,aQm⟩
 ·exact⟨400,aQl⟩
 ·exact⟨400,aQj⟩
 ·exact⟨400,aQi⟩
 ·exact⟨400,aQh⟩
 ·exact⟨400,aQg⟩
 ·exact⟨400,aQf⟩
 ·exact⟨400,aQe⟩
 ·exact⟨400,aQd⟩
 ·exact⟨400,aQa⟩
 ·exact⟨400,aPZ⟩
 ·exact⟨400,aPY⟩
 ·exact⟨400,aPX⟩
 ·exact⟨400,aPW⟩
 ·exact⟨400,aPV⟩
 ·exact⟨400,aPU⟩
 ·exact⟨400,aPT⟩
 ·exact⟨400,aPR⟩
 ·exact⟨400,aPQ⟩
 ·exact⟨400,aPP⟩
 ·exact⟨400,aPO⟩
 ·exact⟨400,aPN⟩
 ·exact⟨400,aPM⟩
 ·exact⟨400,aPL⟩
 ·exact⟨400,aPI⟩
def rW:gM:={ specZ with orc:=wX aAz }
theorem rf4:aU aH rW 400 rw4.K rw4.as rw4.h=some (rw4.v,rw4.h'):=by kernel_rfl
theorem aRd:aU aH rW 400 rw11.K rw11.as rw11.h=some (rw11.v,rw11.h'):=by kernel_rfl
theorem aRa:aU aH rW 400 rw14.K rw14.as rw14.h=some (rw14.v,rw14.h'):=by kernel_rfl
theorem aQk:aU aH rW 400 rw56.K rw56.as rw56.h=some (rw56.v,rw56.h'):=by kernel_rfl
theorem aQc:aU aH rW 400 rw64.K rw64.as rw64.h=some (rw64.v,rw64.h'):=by kernel_rfl
theorem aPS:aU aH rW 400 rw75.K rw75.as rw75.h=some (rw75.v,rw75.h'):=by kernel_rfl
theorem aPK:aU aH rW 400 rw83.K rw83.as rw83.h=some (rw83.v,rw83.h'):=by kernel_rfl
def aDO:List cO:=[rw4,rw11,rw14,rw56,rw64,rw75,rw83]
theorem aGN:∀ q∈aDO,∃ n,aU aH rW n q.K q.as q.h=some (q.v,q.h'):=by
 intro q hq
 simp only[aDO,List.mem_cons,List.not_mem_nil,or_false]at hq
 rcases hq with rfl|rfl|rfl|rfl|rfl|rfl|rfl
 ·exact⟨400,rf4⟩
 ·exact⟨400,aRd⟩
 ·exact⟨400,aRa⟩
 ·exact⟨400,aQk⟩
 ·exact⟨400,aQc⟩
 ·exact⟨400,aPS⟩
 ·exact⟨400,aPK⟩
def xL:gM:={ specZ with orc:=wX (aDO++aAz) }
theorem rf5:aU aH xL 400 rw5.K rw5.as rw5.h=some (rw5.v,rw5.h'):=by kernel_rfl
theorem aQs:aU aH xL 400 rw48.K rw48.as rw48.h=some (rw48.v,rw48.h'):=by kernel_rfl
theorem aQb:aU aH xL 400 rw65.K rw65.as rw65.h=some (rw65.v,rw65.h'):=by kernel_rfl
theorem aPJ:aU aH xL 400 rw84.K rw84.as rw84.h=some (rw84.v,rw84.h'):=by kernel_rfl
theorem aPH:aU aH xL 400 rw86.K rw86.as rw86.h=some (rw86.v,rw86.h'):=by kernel_rfl
def aGM:List cO:=[rw5,rw48,rw65,rw84,rw86]
theorem aGL:∀ q∈aGM,∃ n,aU aH xL n q.K q.as q.h=some (q.v,q.h'):=by
 intro q hq
 simp only[aGM,List.mem_cons,List.not_mem_nil,or_false]at hq
 rcases hq with rfl|rfl|rfl|rfl|rfl
 ·exact⟨400,rf5⟩
 ·exact⟨400,aQs⟩
 ·exact⟨400,aQb⟩
 ·exact⟨400,aPJ⟩
 ·exact⟨400,aPH⟩
def aLK:gM:={ specZ with orc:=wX (aGM++(aDO++aAz)) }
end Go.Proofs.YtmapgnepfgnphaaGreatDoor
namespace Go.Proofs.YtmapgnepfgnphaaGreatDoor
open Go Go.DL Go.Proofs.Tryz

def wM (q:cO):Prop:=∀ (B:Base) (Y:Nat→Option YI),YOk prog B aH Y→∀ (r:Nat→Option Nat) (H:Hp) (ys:List AV),SH aH Y r q.h H→RnL aH Y r q.as ys→FnW B prog q.K ys H (dX aH Y r q.v q.h')
theorem aEe {S:gM} {T:List cO} (h:∀ q∈T,wM q) (hS:S.orc=wX T):aII prog aH S:=by
 intro K xs hh q hq B Y hY r H ys sh hA
 rw[hS]at hq
 obtain⟨u,hu,rfl,rfl,rfl,rfl⟩:=aAW hq
 exact h u hu B Y hY r H ys sh hA
def aGD (S:gM):Prop:=∀ (n:Nat) (B:Base) (Y:Nat→Option YI),YOk prog B aH Y→iC prog B aH Y (aU aH S n)
theorem pY {S:gM} (hz:aGD S) {q:cO} (h:∃ n,aU aH S n q.K q.as q.h=some (q.v,q.h')):wM q:=by
 obtain⟨n,hn⟩:=h
 exact fun B Y hY r H ys sh hA=>hz n B Y hY r q.h H q.K q.as ys q.v q.h' sh hA hn
theorem uC {T:List cO} (h:∀ q∈T,wM q):aGD { specZ with orc:=wX T }:=fun n B Y hY =>
 ((uI (S:={ specZ with orc:=wX T }) aAR (aAD (D:=aH)) (xK (D:=aH) rfl) (aEe h rfl) n).1 B Y hY).1
theorem aGV:aGD specZ:=fun n B Y hY =>
 ((uI (S:=specZ) aAR (aAD (D:=aH)) (xK (D:=aH) rfl) (fun K xs hh q hq=>by cases hq) n).1 B Y hY).1
theorem aIo:∀ q∈aAz,wM q:=fun q hq=>pY aGV (aGO q hq)
theorem aIn:∀ q∈aDO++aAz,wM q:=fun q hq=>(List.mem_append.1 hq).elim (fun hq=>pY (uC aIo) (aGN q hq)) (aIo q)
theorem aLR:∀ q∈aGM++(aDO++aAz),wM q:=fun q hq=>(List.mem_append.1 hq).elim (fun hq=>pY (uC aIn) (aGL q hq)) (aIn q)
theorem aDM:aU aH aLK 400 13 [] []=some (.bool true,[]):=by kernel_rfl
theorem aEJ:wM ⟨13,[],[],.bool true,[]⟩:=pY (uC aLR) ⟨400,aDM⟩
def tA:List AV→XH→Option (AV×XH):=fun xs h=>match xs with
 | []=>some (.bool true,h)
 | _=>none
theorem aLX {D:Nat→Option XFn}:iO D 13 tA:=by
 intro B Y r h H xs ys v h' sh hr hx
 unfold tA at hx
 split at hx
 ·cases hx
  rw[hr.nil_inv]
  have h0:=aEJ B (fun _=>none) (fun l i h=>by simp at h) (fun _=>none) noH [] SH.none (RnL.self fun a ha=>by cases ha)
  have h1:CallV B prog (.fn (.func 13) [] []) [] (fun c=>if (fun _:Nat=>False) c then H c else none) (dX aH (fun _=>none) (fun _=>none) (.bool true) []):=by
   have e:(fun c=>if (fun _:Nat=>False) c then H c else none)=noH:=by funext c;exact if_neg (fun h=>h)
   rw[e];exact h0
  refine CallV.mono (CallV.frameS (H:=H) (fun _=>False) h1) ?_
  rintro v' H'' ⟨H',⟨r',k1,k2,k3⟩,e1,e2⟩
  obtain⟨rfl,_⟩:=k3.same (Gd.bool true).gr
  refine⟨r,DL.Sub.refl r,⟨sh.dom,sh.inj,fun b x hb=>?_⟩,(Gd.bool true).rn⟩
  obtain⟨c,y,a1,a2,a3⟩:=sh.blk b x hb
  exact⟨c,y,a1,(e2 c (fun h=>h) y a2).1,a3⟩
 ·cases hx
def aN (K:Nat):Option XFn:=match K with
 | 13=>some (sT tA)
 | K=>aH K
theorem aFx:XOk prog aN:=by
 refine XOk.over progX_ok fun K d hd=>?_
 unfold aN at hd
 split at hd
 ·cases hd;exact .inr ⟨_,_,rfl,aLX⟩
 ·unfold aH at hd
  split at hd
  ·cases hd;exact .inr ⟨_,_,rfl,aIy⟩
  ·cases hd;exact .inr ⟨_,_,rfl,aIx⟩
  ·cases hd;exact .inr ⟨_,_,rfl,aIw⟩
  ·cases hd;exact .inr ⟨_,_,rfl,aIv⟩
  ·cases hd;exact .inr ⟨_,_,rfl,aIu⟩
  ·cases hd;exact .inr ⟨_,_,rfl,aIt⟩
  ·cases hd;exact .inr ⟨_,_,rfl,aIs⟩
  ·cases hd;exact .inr ⟨_,_,rfl,aIr⟩
  ·cases hd;exact .inr ⟨_,_,rfl,aIq⟩
  ·cases hd;exact .inr ⟨_,_,rfl,aFz⟩
  ·cases hd;exact .inr ⟨_,_,rfl,aFy⟩
  ·cases hd;exact .inr ⟨_,_,rfl,aIp⟩
  ·exact .inl ⟨hd,aJp hd⟩
end Go.Proofs.YtmapgnepfgnphaaGreatDoor
namespace Go.Proofs.YtmapgnepfgnphaaGreatDoor
open Go Go.DL

def dN (x:Nat):Nat:=(x+224)%256
def cR (s:List Nat):List Nat:=s.take 40++List.replicate (40-s.length) 32
def lM:Nat→List Nat→Nat
 | _,[]=>0
 | i,x::r=>(i+1)*dN x+lM (i+1) r
def oE (row:Nat) (f:List Nat):Nat:=(row+lM 0 f)%9973
def fL (c:Nat):List Nat:=[48+c/1000,48+c/100%10,48+c/10%10,48+c%10]
def cM (row:Nat) (f:List Nat):List Nat:=fL (oE row f)++(f++[10])
def cL (times:Nat):List Nat→List Nat→List Nat
 | a::f,b::o=>(32+(dN a+times*dN b)%95)::cL times f o
 | _,_=>[]
def bN (s:ByteArray):List Nat:=s.data.toList.map UInt8.toNat
def lF (l:List Nat):ByteArray:=⟨⟨l.map UInt8.ofNat⟩⟩
def nA (l:List Nat):AV:=.agg (l.map fun(n:Nat)=>.int .u8 (n:Int))
end Go.Proofs.YtmapgnepfgnphaaGreatDoor
namespace Go.Proofs.YtmapgnepfgnphaaGreatDoor
open Go Go.DL
set_option maxRecDepth 100000
set_option maxHeartbeats 4000000
abbrev U (n:Nat):AV:=.int .u8 (n:Int)
theorem wW (p:Prop):p=True∨p=False:=by
 by_cases h:p
 ·exact .inl (eq_true h)
 ·exact .inr (eq_false h)
theorem iA {α:Type} {l:List α} {i:Nat} (h:i<l.length):∃ x,l[i]?=some x:=⟨_,List.getElem?_eq_getElem h⟩
theorem gJ {n i:Nat} (h:i<n) (hn:n≤9223372036854775807):IntKind.i64.wrap ((i:Int)+1)=(i:Int)+1:=aL (by omega) (by omega)
theorem p57 {xs:List AV} {h:XH}:runW aN 57 xs h=uW xs h:=fC rfl rfl xs h
theorem aRi {xs:List AV} {h:XH}:runW aN 143 xs h=mA xs h:=fC rfl rfl xs h
theorem q44 {vs:List AV} {h:XH} (hl:vs.length≤15):runW aN 44 vs h=eG none x44.res x44.ownR h.length (execW aN 44 h.length none x44.body (aY (if x44.ownA then vs else iF vs)) h):=dB rfl hl h rfl
theorem aRf {vs:List AV} {h:XH} (hl:vs.length≤33):runW aN 119 vs h=eG none x119.res x119.ownR h.length (execW aN 119 h.length none x119.body (aY (if x119.ownA then vs else iF vs)) h):=dB rfl hl h rfl

def aW (l:List Nat):List AV:=l.map fun(n:Nat)=>.int .u8 (n:Int)
theorem bJ (l:List Nat):nA l = .agg (aW l):=rfl
theorem aI (l:List Nat):(aW l).length=l.length:=by simp[aW]
theorem lB {l:List Nat} {i x:Nat} (h:l[i]?=some x):(aW l)[i]?=some (U x):=by simp[aW,h]
theorem aZ (l:List Nat):hO (aW l)=true:=cY fun v hv=>by
 obtain⟨n,_,rfl⟩:=List.mem_map.1 hv;rfl
theorem bE (l:List Nat):slL (aW l)=[]:=by
 induction l with
 | nil=>rfl
 | cons a l ih=>show rX _++slL (aW l)=[];rw[ih];rfl
theorem bC (l:List Nat):qI (aW l)=[]:=by
 induction l with
 | nil=>rfl
 | cons a l ih=>show sD _++qI (aW l)=[];rw[ih];rfl
theorem bB (s:Nat→Option Nat) (l:List Nat):jE s (aW l)=aW l:=by
 induction l with
 | nil=>rfl
 | cons a l ih=>show rnA s _::jE s (aW l)=_;rw[ih];rfl
theorem bH (l:List Nat):iF (aW l)=aW l:=by
 induction l with
 | nil=>rfl
 | cons a l ih=>show nZ _::iF (aW l)=_;rw[ih];rfl
theorem gH {l:List Nat} {i x:Nat} (h:i<l.length):bL (aW l) i [.int .u8 (x:Int)]=aW (l.set i x):=by
 unfold bL aW
 rw[List.map_set,List.set_eq_take_append_cons_drop,if_pos (by simpa using h)]
 simp
theorem fB {a b:List Nat} (h:a.length=b.length):bL (aW a) 0 (aW b)=aW b:=by
 unfold bL
 rw[List.take_zero,List.nil_append,List.drop_eq_nil_of_le (by rw[aI,aI];omega),List.append_nil]
theorem dS {l:List Nat} (h:l.length=40):List.take 40 (aW l)=aW l:=List.take_of_length_le (by rw[aI];omega)
theorem fM {l:List Nat} (h:l.length=40):List.take 40 (List.drop 0 (aW l))=aW l:=by rw[List.drop_zero];exact dS h

def nf (i:Nat):List Nat:=List.replicate i 32++List.replicate (40-i) 0
theorem cJ {i:Nat} (h:i≤40):(nf i).length=40:=by simp[nf];omega
theorem aJz {i:Nat} (h:i<40):bL (aW (nf i)) i [.int .u8 32]=aW (nf (i+1)):=by
 have h1:=gH (l:=nf i) (i:=i) (x:=32) (by rw[cJ (by omega)];exact h)
 have h2:(nf i).set i 32=nf (i+1):=by
  unfold nf
  obtain⟨k,hk⟩:∃ k,40-i=k+1:=⟨39-i,by omega⟩
  have hk':40-(i+1)=k:=by omega
  rw[hk,hk',List.replicate_succ,List.replicate_succ',List.set_append_right _ _ (by simp)]
  simp
 rw[←h2];exact h1
theorem fE (l:List Nat):(cR l).length=40:=by simp[cR];omega
theorem aTm (s:ByteArray):bL (aW (nf 40)) 0 ((s.data.toList.map fun b=>AV.int .u8 (b.toNat:Int)).take (min s.size 40))=aW (cR (bN s)):=by
 have hs:s.size=s.data.toList.length:=by rw[Array.length_toList];rfl
 have hn:aW (nf 40)=List.replicate 40 (U 32):=rfl
 rw[hn]
 unfold bL cR bN aW
 rw[List.map_append,List.map_take,List.map_map,List.take_zero,List.nil_append,hs]
 have e:((s.data.toList.map fun b=>AV.int .u8 (b.toNat:Int)).take (min s.data.toList.length 40))=(s.data.toList.map ((fun n:Nat=>AV.int .u8 (n:Int))∘UInt8.toNat)).take 40:=by
  by_cases h:s.data.toList.length≤40
  ·rw[Nat.min_eq_left h,List.take_of_length_le (by simp),List.take_of_length_le (by simpa using h)];rfl
  ·rw[Nat.min_eq_right (by omega)];rfl
 rw[e]
 congr 1
 simp only[Nat.zero_add,List.length_take,List.length_map,List.drop_replicate,List.map_replicate]
 congr 1
 omega
theorem cpR (s:ByteArray):zI 1 [some (XB.blk true (ABlk.cells true (aW (nf 0)))),some (XB.blk true (ABlk.cells true (aW (nf 40))))] (AV.sl 1 0 1 40) (AV.str s)=some (.int .i64 ((min s.size 40:Nat):Int),[some (XB.blk true (ABlk.cells true (aW (nf 0)))),some (XB.blk true (ABlk.cells true (aW (cR (bN s)))))]):=by
 have hc:=aTm s
 have l40:(aW (nf 40)).length=40:=by rw[aI];exact cJ (by omega)
 unfold zI tR
 simp only[dJ,bF,List.getD_cons_succ,List.getD_cons_zero,if_true,l40]
 simp only[true_and,Nat.zero_add,Nat.mul_one,Nat.le_refl,if_true,Option.map_some,List.set_cons_succ,List.set_cons_zero,gL,Bool.and_true]
 rw[hc]
theorem aNl {i:Nat} (h:i<40):(i+1≤40)=True:=eq_true (by omega)
theorem w44 (s:ByteArray):runW aN 44 [.str s] []=some (nA (cR (bN s)),[]):=by
 rw[q44 (by simp)];unfold x44;dsimp only
 have e0:((40:Int)<40)=False:=eq_false (by omega)
 have l40:(aW (nf 40)).length=40:=by rw[aI];exact cJ (by omega)
 have l0:(aW (nf 0)).length=40:=by rw[aI];exact cJ (by omega)
 have g0:=aZ (nf 0)
 rw[bJ]
 sym =>
  simp[Zb,Zf,Zh,Zl,Zu,Zv,YU,XI,V8,VB,VC,VG,VH,VK,Ud,Ue,Uj,Uk,UL,UP,UQ,UY,e0]
  tactic =>
   unfold aIc
   rw[bU 40 (fun i=>[.str s,.pt 0 0,.pt 1 0,I (i:Nat)]) (fun i=>[some (.blk true (.cells true (aW (nf 0)))),some (.blk true (.cells true (aW (nf i))))])]
   ·have c2:=fE (bN s)
    have c4:=aI (cR (bN s))
    rw[c2]at c4
    have c5:=dS c2
    have c6:=fM c2
    have c7:=aZ (cR (bN s))
    have c3:=cpR s
    have c8:=fB (a:=nf 0) (b:=cR (bN s)) (by rw[c2];exact cJ (by omega))
    (sym=>(simp[Za,Zb,Zc,Zf,Zh,Zl,Zm,Zn,Zu,Z0,ZF,ZL,ZO,ZP,ZS,ZT,Yt,YJ,Xc,Xn,XJ,XX,XZ,Wa,Wb,Wc,Wp,Wt,Wv,Ww,Wx,Va,Vj,Vk,Vl,Vm,Vn,Vo,Vp,Vr,Vs,Vt,Vv,Vx,V0,V5,VA,VD,VF,VK,VR,VV,VZ,Ua,Uq,U6,U7,UA,UC,UD,UJ,UL,UM,UO,UQ,UR,UV,UX,UY,UZ,Ta,Tb,Tc,Tx,T6,e0,l40,l0,c3,c4,c5,c6,c7,c8,g0,bE,bC,bB,bH];all_goals tactic=>exact rfl))
   ·(sym=>(simp[Za,Y5,YF,YH,YN,YZ,Xb,Xg,XZ,Wh,Wj,Wk,Wm,Wn,Wp,Wq,Wr,Wt,Wv,Ww,Wx,Wy,WF,WG,WK,Vw,Vy,Vz,V9,VA,VB,VC,VD,VF,VI,VT,VZ,Ua,Ub,Uc,UW,Tq];all_goals tactic=>exact rfl))
   ·intro i hi
    have i1:((i:Int)<40)=True:=eq_true (by omega)
    have a2:=gJ (n:=40) hi (by omega)
    have n1:(aW (nf i)).length=40:=by rw[aI];exact cJ (by omega)
    have n2:=aJz hi
    have n3:=aNl hi
    (sym=>(simp[Za,Zb,Zc,Zf,Zh,Zl,Zm,Zu,Z0,ZC,ZO,ZP,Yo,Yt,Yx,Yy,YA,YF,YH,YN,YU,YZ,Xb,Xg,XV,XZ,Wc,Wj,Wk,Wm,Wn,Wp,Wq,Wr,Wt,Wv,Ww,Wx,Wy,WF,WG,WK,Vx,Vy,Vz,V0,V4,V9,VA,VB,VC,VD,VF,VG,VH,VI,VK,VR,VT,VU,VZ,Ua,Ub,Uc,Ud,Ue,UC,UD,UJ,UL,UN,UP,UQ,UT,UW,UX,UY,Tn,Tp,Tq,T6,i1,a2,n1,n2,n3];all_goals tactic=>exact rfl))
   ·(sym=>(simp[Za,Zb,Zf,Zh,Zl,Zm,Z0,Yt,Vx,V0,V5,V6,VV,UJ,UL,UO,UQ,UR,UX,UY,T6,e0];all_goals tactic=>exact rfl))
def zJ (a b:Int):Int:=Int.tmod a b
def tdZ (a b:Int):Int:=Int.tdiv a b
def aFt (z:Bool) (k:IntKind) (v:Int):Option AV:=if z then none else some (.int k v)
theorem bG (k:IntKind) (v:Int):aFt false k v=some (.int k v):=rfl
theorem aO {k:IntKind} {a b:Int}:gI .rem k a k b=aFt (decide (b=0)) k (zJ a b):=by
 by_cases h:b=0<;>simp[gI,aFt,h,zJ]
theorem aP {k:IntKind} {a b:Int}:gI .quo k a k b=aFt (decide (b=0)) k (k.wrap (tdZ a b)):=by
 by_cases h:b=0<;>simp[gI,aFt,h,tdZ]
theorem eR (a b:Nat):zJ (a:Int) (b:Int)=((a%b:Nat):Int):=by rw[zJ,Int.tmod_eq_emod_of_nonneg (by omega)];exact(Int.natCast_emod a b).symm

theorem aAo (x:Nat):dN x<256:=Nat.mod_lt _ (by decide)
theorem aGq {x:Nat} (h:x<256):IntKind.u8.wrap ((x:Int)-32)=(dN x:Int):=by
 unfold dN
 simp[IntKind.wrap,IntKind.bits,IntKind.signed]
 omega
theorem zB (x:Nat):∀ (l:List Nat) (k:Nat),lM k (l++[x])=lM k l+(k+l.length+1)*dN x
 | [],k=>by simp[lM]
 | a::l,k=>by
   rw[List.cons_append,lM,zB x l (k+1),lM,List.length_cons]
   rw[show k+1+l.length+1=k+(l.length+1)+1 by omega]
   omega
theorem aDB:∀ (l:List Nat) (k:Nat),lM k l≤l.length*((k+l.length)*255)
 | [],k=>by simp[lM]
 | a::l,k=>by
   have h1:=aDB l (k+1)
   have h2:=aAo a
   rw[lM,List.length_cons]
   have h3:(k+1)*dN a≤(k+(l.length+1))*255:=Nat.mul_le_mul (by omega) (by omega)
   have h4:k+1+l.length=k+(l.length+1):=by omega
   rw[h4]at h1
   rw[Nat.add_mul l.length 1]
   omega
def oZ (row:Nat) (f:List Nat) (i:Nat):Nat:=row+lM 0 (f.take i)
theorem aOy (row:Nat) (f:List Nat):oZ row f 0=row:=by simp[oZ,lM]
theorem aOx {row:Nat} {f:List Nat} {i x:Nat} (h:f[i]?=some x):oZ row f (i+1)=oZ row f i+(i+1)*dN x:=by
 have hi:i<f.length:=(List.getElem?_eq_some_iff.1 h).1
 have ht:f.take (i+1)=f.take i++[x]:=by rw[List.take_add_one,h];rfl
 unfold oZ
 rw[ht,zB,List.length_take,Nat.min_eq_left (by omega)]
 rw[show 0+i+1=i+1 by omega,Nat.add_assoc]
theorem aKi {row:Nat} {f:List Nat} (hf:f.length=40) (i:Nat):oZ row f i≤row+408000:=by
 have h:=aDB (f.take i) 0
 have h1:(f.take i).length≤40:=by rw[List.length_take];omega
 have h2:(f.take i).length*((0+(f.take i).length)*255)≤40*(40*255):=Nat.mul_le_mul h1 (Nat.mul_le_mul (by omega) (Nat.le_refl _))
 unfold oZ
 omega
theorem aKj {row:Nat} {f:List Nat} (hf:f.length=40):oZ row f 40%9973=oE row f:=by
 unfold oZ oE
 rw[List.take_of_length_le (by omega)]

theorem aGy (l1 l2:List UInt8):(⟨⟨l1⟩⟩:ByteArray)++⟨⟨l2⟩⟩=⟨⟨l1++l2⟩⟩:=by
 have h:((⟨⟨l1⟩⟩:ByteArray)++⟨⟨l2⟩⟩).data=(⟨⟨l1++l2⟩⟩:ByteArray).data:=by
  rw[ByteArray.data_append]
  simp
 cases hx:(⟨⟨l1⟩⟩:ByteArray)++⟨⟨l2⟩⟩with
 | mk d=>rw[hx]at h;simp only at h;rw[h]
theorem pO {a b:ByteArray} (h:a.size+b.size≤1000000):zM BinOp.add a b=some (.str (a++b)):=by
 have e:IntKind.i64.max=9223372036854775807:=by decide
 simp only[zM]
 rw[if_neg (by rw[e];omega)]
theorem rV (l:List UInt8):(⟨⟨l⟩⟩:ByteArray).size=l.length:=rfl
def aCu (c:Nat):ByteArray:=lF (fL c)
theorem aHN {c:Nat} (h:c<9973):1≤(Lib.itoa (c:Int)).length∧(Lib.itoa (c:Int)).length≤4∧Lib.repeatL [48] (4-(Lib.itoa (c:Int)).length)++Lib.itoa (c:Int)=(fL c).map UInt8.ofNat:=by
 have e:Lib.itoa (c:Int)=Lib.decDigits c:=by
  unfold Lib.itoa
  rw[if_neg (by omega)];rfl
 rw[e]
 by_cases h1:c<10
 ·rw[Lib.decDigits_one h1]
  refine⟨by simp,by simp,?_⟩
  have:fL c=[48,48,48,48+c]:=by simp[fL];omega
  rw[this];rfl
 ·by_cases h2:c<100
  ·rw[Lib.decDigits_two h1 h2]
   refine⟨by simp,by simp,?_⟩
   have:fL c=[48,48,48+c/10,48+c%10]:=by simp[fL];omega
   rw[this];rfl
  ·have s3:∀ {m:Nat},¬m<10→Lib.decDigits m=Lib.decDigits (m/10)++[UInt8.ofNat (48+m%10)]:=fun {m} hm=>by
    conv=>lhs;rw[Lib.decDigits,dif_neg hm]
   by_cases h3:c<1000
   ·rw[s3 h1,Lib.decDigits_two (by omega) (by omega)]
    refine⟨by simp,by simp,?_⟩
    have:fL c=[48,48+c/10/10,48+c/10%10,48+c%10]:=by simp[fL];omega
    rw[this];rfl
   ·rw[s3 h1,s3 (by omega),Lib.decDigits_two (by omega) (by omega)]
    refine⟨by simp,by simp,?_⟩
    have:fL c=[48+c/10/10/10,48+c/10/10%10,48+c/10%10,48+c%10]:=by simp[fL];omega
    rw[this];rfl

theorem w57 {c:Nat} (h:c<9973):runW aN 57 [I (c:Int)] []=some (.str ⟨⟨Lib.itoa (c:Int)⟩⟩,[]):=by
 rw[p57];unfold uW;dsimp only;rw[if_pos (by omega)]
theorem aOH {d:Nat} (h:d≤4):runW aN 143 [.str ⟨#[48]⟩,I (d:Int)] []=some (.str ⟨⟨Lib.repeatL [48] d⟩⟩,[]):=by
 rw[aRi];unfold mA;dsimp only
 rw[if_pos (by refine⟨by omega,by omega,by decide⟩)]
 simp

theorem aOI {f:List Nat} {row:Nat} (hf:f.length=40) (hb:∀ (i x:Nat),f[i]?=some x→x<256) (hrow:row≤1000000):runW aN 119 [nA f,I (row:Int)] []=some (.str (aCu (oE row f)),[]):=by
 rw[aRf (by simp)];unfold x119;dsimp only
 have e0:((40:Int)<40)=False:=eq_false (by omega)
 have lf:=aI f
 rw[hf]at lf
 have gf:=aZ f
 rw[bJ]
 have t1:=dS hf
 have t2:=fM hf
 sym =>
  simp[aO,aP,bG,Za,Zb,Zf,Zh,Zl,Zm,Zo,Zu,Zx,ZL,YX,Xz,XJ,XX,XZ,Wa,Wb,Wh,Vw,V8,VC,VH,Uj,Uk,Ut,Uu,U6,U7,UA,UE,UL,UP,UQ,UX,UY,e0,lf,gf,t1,t2,bE,bC,bB,bH]
  tactic =>
   unfold aEI
   rw[bU 40 (fun i=>[I (oZ row f i:Nat),.agg (aW f),I (i:Nat)]) (fun _=>[])]
   ·have hc:oE row f<9973:=Nat.mod_lt _ (by decide)
    have c1:zJ ((oZ row f 40:Nat):Int) 9973=((oE row f:Nat):Int):=by rw[←aKj hf];exact eR _ _
    have c2:=w57 hc
    obtain⟨d1,d2,d3⟩:=aHN hc
    have c3:=aOH (d:=4-(Lib.itoa ((oE row f:Nat):Int)).length) (by omega)
    have c4:aCu (oE row f)=(⟨⟨Lib.repeatL [48] (4-(Lib.itoa ((oE row f:Nat):Int)).length)⟩⟩:ByteArray)++⟨⟨Lib.itoa ((oE row f:Nat):Int)⟩⟩:=by
     rw[aGy,d3];rfl
    rw[c4]
    have c5:(⟨⟨Lib.itoa ((oE row f:Nat):Int)⟩⟩:ByteArray).size=(Lib.itoa ((oE row f:Nat):Int)).length:=rfl
    have c6:IntKind.i64.wrap (4-((Lib.itoa ((oE row f:Nat):Int)).length:Int))=((4-(Lib.itoa ((oE row f:Nat):Int)).length:Nat):Int):=by rw[aL (by omega) (by omega)];omega
    have c7:=pO (a:=⟨⟨Lib.repeatL [48] (4-(Lib.itoa ((oE row f:Nat):Int)).length)⟩⟩) (b:=⟨⟨Lib.itoa ((oE row f:Nat):Int)⟩⟩) (by
     rw[rV,rV,Lib.repeatL_length]
     simp only[List.length_cons,List.length_nil,Nat.zero_add,Nat.mul_one]
     omega)
    generalize Lib.itoa ((oE row f:Nat):Int)=ss at *
    generalize hz:(⟨⟨ss⟩⟩:ByteArray)=a at *
    generalize hd:4-ss.length=d at *
    generalize hy:(⟨⟨Lib.repeatL [48] d⟩⟩:ByteArray)=z at *
    (sym=>(simp[aO,aP,bG,Za,Zb,Zf,Zh,Zl,Zm,Zu,Z0,ZJ,ZS,ZU,ZZ,Ya,Yj,Yp,Yt,YF,YH,YZ,Xb,Xm,XI,Wg,Wp,Ws,Wt,Wu,Ww,Wx,Wz,WB,WM,WN,WO,Va,Vj,Vk,Vl,Vm,Vn,Vo,Vp,Vr,Vs,Vt,Vu,Vx,V0,V5,V9,VA,VC,VD,VF,VH,VV,VY,VZ,Ua,Ub,Uc,UJ,UK,UL,UM,UO,UQ,UR,UV,UX,UY,Tx,T6,e0,lf,c1,c2,c3,c5,c6,c7,bE,bC,bB,bH];all_goals tactic=>exact rfl))
   ·have a0:=aOy row f
    (sym=>(simp[aO,aP,bG,Za,Y5,YF,YJ,YZ,Xc,Wp,Wt,Wv,Ww,Wx,Vy,Vz,V9,VA,VD,VF,VZ,Ua,Ub,Uc,UW,lf,a0,bE,bC,bB,bH];all_goals tactic=>exact rfl))
   ·intro i hi
    have i1:((i:Int)<40)=True:=eq_true (by omega)
    have a2:=gJ (n:=40) hi (by omega)
    obtain⟨x,hx⟩:=iA (l:=f) (i:=i) (by omega)
    have hx':=lB hx
    have hxb:=hb i x hx
    have b1:=aGq hxb
    have hcx:=aAo x
    have b2:IntKind.i64.wrap ((dN x:Nat):Int)=((dN x:Nat):Int):=aL (by omega) (by omega)
    have hm:(i+1)*dN x≤40*255:=Nat.mul_le_mul (by omega) (by omega)
    have b3:IntKind.i64.wrap (((i:Int)+1)*((dN x:Nat):Int))=(((i+1)*dN x:Nat):Int):=by
     have:(((i:Int)+1)*((dN x:Nat):Int))=(((i+1)*dN x:Nat):Int):=by rw[Int.natCast_mul];rfl
     rw[this];exact aL (by omega) (by omega)
    have hal:=aKi (row:=row) hf i
    have b4:IntKind.i64.wrap (((oZ row f i:Nat):Int)+(((i+1)*dN x:Nat):Int))=((oZ row f (i+1):Nat):Int):=by
     rw[aOx hx,aL (by omega) (by omega)];omega
    generalize oZ row f i=A at *
    generalize oZ row f (i+1)=A' at *
    generalize dN x=cx at *
    generalize (i+1)*cx=px at *
    (sym=>(simp[aO,aP,bG,Za,Zb,Zf,Zh,Zl,Zm,Zu,Z0,ZA,ZE,Yf,Yo,Yp,Yq,Yt,Yx,Yy,YE,YF,YJ,YZ,Xc,Wp,Wt,Wu,Ww,Wx,Vx,Vy,Vz,V0,V4,V9,VA,VD,VF,VR,VU,VY,VZ,Ua,Ub,Uc,UB,UJ,UL,UN,UP,UQ,UT,UW,UX,UY,Tn,T6,i1,a2,hx',b1,b2,b3,b4,lf,bE,bC,bB,bH];all_goals tactic=>exact rfl))
   ·(sym=>(simp[aO,aP,bG,Za,Zb,Zf,Zh,Zl,Zm,Z0,Yt,Vx,V0,V5,V6,VV,UJ,UL,UO,UQ,UR,UX,UY,T6,e0];all_goals tactic=>exact rfl))
theorem q77 {vs:List AV} {h:XH} (hl:vs.length≤12):runW aN 77 vs h=eG none x77.res x77.ownR h.length (execW aN 77 h.length none x77.body (aY (if x77.ownA then vs else iF vs)) h):=dB rfl hl h rfl
theorem q45 {vs:List AV} {h:XH} (hl:vs.length≤31):runW aN 45 vs h=eG none x45.res x45.ownR h.length (execW aN 45 h.length none x45.body (aY (if x45.ownA then vs else iF vs)) h):=dB rfl hl h rfl
def jT (f:List Nat):Prop:=∀ (i x:Nat),f[i]?=some x→x<256
theorem gE:∀ {f:List Nat},eV (aW f)=some (f.map UInt8.ofNat)
 | []=>rfl
 | x::f=>by
   have ih:=gE (f:=f)
   show (eV (aW f)).map _=_
   rw[ih];rfl

theorem aGt {run:bZ} {g:Nat} {vs:List AV} {v:AV} {hl h:XH} (hn:qI vs=[]) (hr:∀ s,jE s vs=vs) (hrun:run g vs []=some (v,hl)) (hg:gdA v=true):hZ run (.fn (.func g) [] []) vs h=some v:=by
 unfold hZ
 dsimp only
 have hp:bT (.fn (.func g) [] []) vs h=[]:=by
  unfold bT mD
  dsimp only
  rw[List.nil_append,List.append_nil,hn]
  rfl
 rw[hp,List.nil_append,List.append_nil,hr]
 show (match run g vs []with|some (v,hl)=>if gdA v&&yL [] hl then some v else none|none=>none)=some v
 rw[hrun]
 dsimp only
 rw[hg]
 cases hl<;>rfl
theorem w77 {f:List Nat} {row:Nat} (hf:f.length=40) (hb:jT f) (hrow:row≤1000000):runW aN 77 [nA f,I (row:Int)] []=some (.str (lF (cM row f)),[]):=by
 rw[q77 (by simp)];unfold x77;dsimp only
 have lf:=aI f
 rw[hf]at lf
 have gf:=aZ f
 have c1:=aOI hf hb hrow
 rw[bJ]at c1 ⊢
 have t1:=dS hf
 have t2:=fM hf
 have bu:=gE (f:=f)
 have cq:=aGt (run:=runW aN) (h:=[some (XB.blk true (ABlk.cells true (aW f)))]) (by show sD (.agg (aW f))++_=[];simp only[sD,bC];rfl) (fun s=>by show rnA s (.agg (aW f))::_=_;simp only[rnA,bB];rfl) c1 rfl
 have hd:(aCu (oE row f)).size=4:=rfl
 have s1:=pO (a:=aCu (oE row f)) (b:=⟨⟨f.map UInt8.ofNat⟩⟩) (by rw[hd,rV,List.length_map];omega)
 have s2:=pO (a:=aCu (oE row f)++⟨⟨f.map UInt8.ofNat⟩⟩) (b:=⟨#[10]⟩) (by rw[ByteArray.size_append,hd,rV,List.length_map];simp[ByteArray.size];omega)
 have s3:lF (cM row f)=(aCu (oE row f)++⟨⟨f.map UInt8.ofNat⟩⟩)++⟨#[10]⟩:=by
  unfold aCu lF cM
  rw[aGy,aGy]
  simp
 rw[s3]
 (sym=>(simp[aO,aP,bG,Za,Zb,Zf,Zg,Zh,Zk,Zl,Zm,Zn,Zo,Zu,Zx,Z0,ZF,ZM,ZN,ZX,YH,YX,Xb,Xk,Xm,Xz,XI,XJ,XX,XZ,Wa,Wb,Wh,Wp,Wt,Wv,Ww,Wx,Va,Vc,Vd,Ve,Vj,Vk,Vl,Vm,Vn,Vo,Vp,Vr,Vs,Vt,Vu,Vw,V8,V9,VA,VC,VD,VF,VH,VI,VR,VZ,Ua,Uj,Uk,Uq,Ut,Uu,Uz,U0,U6,U7,UA,UE,UK,UL,UM,UQ,UX,UY,UZ,Ta,Tb,Tc,Tx,T8,T9,TA,TB,TC,TD,TS,TT,TU,lf,gf,t1,t2,cq,bu,s1,s2,bE,bC,bB,bH];all_goals tactic=>exact rfl))

def pv (t x y:Nat):Nat:=32+(dN x+t*dN y)%95
theorem uX {t x y:Nat}:∀ {l m:List Nat},l.length=m.length→cL t (l++[x]) (m++[y])=cL t l m++[pv t x y]
 | [],[],_=>rfl
 | [],_::_,h=>by simp at h
 | _::_,[],h=>by simp at h
 | a::l,b::m,h=>by
   simp only[List.cons_append,cL]
   rw[uX (by simpa using h)]
theorem jG {t:Nat}:∀ {l m:List Nat},l.length=m.length→(cL t l m).length=l.length
 | [],[],_=>rfl
 | [],_::_,h=>by simp at h
 | _::_,[],h=>by simp at h
 | a::l,b::m,h=>by simp only[cL,List.length_cons,jG (l:=l) (m:=m) (by simpa using h)]
theorem aLV (t x y:Nat):pv t x y<127:=by
 have:=Nat.mod_lt (dN x+t*dN y) (show 0<95 by decide)
 unfold pv;omega
theorem nO {t:Nat}:∀ {l m:List Nat},jT (cL t l m)
 | [],m=>by intro i x h;simp[cL]at h
 | a::l,[]=>by intro i x h;simp[cL]at h
 | a::l,b::m=>by
   intro i x h
   simp only[cL]at h
   cases i with
   | zero=>simp at h;subst h;exact Nat.lt_of_lt_of_le (aLV t a b) (by decide)
   | succ i=>exact nO (l:=l) (m:=m) i x (by simpa using h)
def plS (t:Nat) (f o:List Nat) (i:Nat):List Nat:=cL t (f.take i) (o.take i)++f.drop i
section
variable {t:Nat} {f o:List Nat}
theorem aRg:plS t f o 0=f:=by simp[plS,cL]
theorem aMb (hf:f.length=40) (ho:o.length=40):plS t f o 40=cL t f o:=by
 unfold plS
 rw[List.take_of_length_le (by omega),List.take_of_length_le (by omega),List.drop_eq_nil_of_le (by omega),List.append_nil]
theorem uY (hf:f.length=40) (ho:o.length=40) {i:Nat} (hi:i≤40):(cL t (f.take i) (o.take i)).length=i:=by
 rw[jG (by simp[hf,ho])];simp;omega
theorem aBY (hf:f.length=40) (ho:o.length=40) {i:Nat} (hi:i≤40):(plS t f o i).length=40:=by
 unfold plS
 rw[List.length_append,uY hf ho hi,List.length_drop];omega
theorem aMa (hf:f.length=40) (ho:o.length=40) {i x:Nat} (hi:i<40) (hx:f[i]?=some x):(plS t f o i)[i]?=some x:=by
 unfold plS
 rw[List.getElem?_append_right (by rw[uY hf ho (by omega)];exact Nat.le_refl _),uY hf ho (by omega),Nat.sub_self,List.getElem?_drop]
 exact hx
theorem aJr (hf:f.length=40) (ho:o.length=40) {i x y:Nat} (hi:i<40) (hx:f[i]?=some x) (hy:o[i]?=some y):bL (aW (plS t f o i)) i [.int .u8 ((pv t x y:Nat):Int)]=aW (plS t f o (i+1)):=by
 rw[gH (by rw[aBY hf ho (by omega)];exact hi)]
 congr 1
 unfold plS
 have h1:f.take (i+1)=f.take i++[x]:=by rw[List.take_add_one,hx];rfl
 have h2:o.take (i+1)=o.take i++[y]:=by rw[List.take_add_one,hy];rfl
 have h3:f.drop i=x::f.drop (i+1):=by
  obtain⟨k1,k2⟩:=List.getElem?_eq_some_iff.1 hx
  rw[←k2]
  exact List.drop_eq_getElem_cons k1
 rw[h1,h2,uX (by simp[hf,ho]),h3,List.set_append_right _ _ (by rw[uY hf ho (by omega)];exact Nat.le_refl _),uY hf ho (by omega),Nat.sub_self]
 simp
end

theorem w45 {f o:List Nat} {t:Nat} (hf:f.length=40) (ho:o.length=40) (bf:jT f) (bo:jT o) (ht:t≤94):runW aN 45 [nA f,nA o,I (t:Int)] []=some (nA (cL t f o),[]):=by
 rw[q45 (by simp)];unfold x45;dsimp only
 have e0:((40:Int)<40)=False:=eq_false (by omega)
 have lf:=aI f
 rw[hf]at lf
 have lo:=aI o
 rw[ho]at lo
 have gf:=aZ f
 have go:=aZ o
 have l0:(aW (nf 0)).length=40:=by rw[aI];exact cJ (by omega)
 have g0:=aZ (nf 0)
 rw[bJ,bJ,bJ]
 sym =>
  simp[aO,aP,bG,Za,Zb,Zf,Zh,Zl,Zo,Zu,Zv,Zx,YU,YX,Xz,XJ,XX,Wh,Vw,V8,VB,VC,VG,VH,VK,Ud,Ue,Uj,Uk,Ut,Uu,UE,UL,UP,UQ,UX,UY,e0,lf,lo,gf,go,bE,bC,bB,bH]
  tactic =>
   unfold aIb
   rw[bU 40 (fun i=>[I (t:Int),.pt 0 0,.pt 1 0,.pt 2 0,I (i:Nat)]) (fun i=>[some (.blk true (.cells true (aW (plS t f o i)))),some (.blk true (.cells true (aW o))),some (.blk true (.cells true (aW (nf 0))))])]
   ·have hp:=aMb (t:=t) hf ho
    have hpl:=aBY (t:=t) hf ho (i:=40) (by omega)
    rw[hp]at hpl
    have c4:=aI (cL t f o)
    rw[hpl]at c4
    have c5:=dS hpl
    have c6:=fM hpl
    have c7:=aZ (cL t f o)
    have c8:=fB (a:=nf 0) (b:=cL t f o) (by rw[hpl];exact cJ (by omega))
    (sym=>(simp[aO,aP,bG,Za,Zb,Zc,Zf,Zh,Zl,Zm,Z0,ZL,ZO,ZP,Yt,YJ,Xc,Xn,XJ,XX,XZ,Wa,Wb,Wc,Wp,Wt,Wv,Ww,Wx,Va,Vj,Vk,Vl,Vm,Vn,Vo,Vp,Vr,Vs,Vt,Vv,Vx,V0,V5,VA,VD,VF,VK,VR,VV,VZ,Ua,U6,U7,UA,UC,UD,UJ,UL,UM,UO,UQ,UR,UV,UX,UY,Tx,T6,e0,hp,lo,l0,c4,c5,c6,c7,c8,go,g0,bE,bC,bB,bH];all_goals tactic=>exact rfl))
   ·have h0:=aRg (t:=t) (f:=f) (o:=o)
    (sym=>(simp[aO,aP,bG,Za,Y5,YF,YN,YZ,Xg,XZ,Wh,Wj,Wk,Wm,Wn,Wp,Wq,Wr,Wt,Wv,Ww,Wx,Wy,WF,WG,WK,Vw,Vy,Vz,V9,VA,VB,VC,VD,VF,VI,VT,VZ,Ua,Ub,Uc,UW,Tq,h0,lf,lo,gf,go,bE,bC,bB,bH];all_goals tactic=>exact rfl))
   ·intro i hi
    have i1:((i:Int)<40)=True:=eq_true (by omega)
    have a2:=gJ (n:=40) hi (by omega)
    obtain⟨x,hx⟩:=iA (l:=f) (i:=i) (by omega)
    obtain⟨y,hy⟩:=iA (l:=o) (i:=i) (by omega)
    have hx':=lB (aMa (t:=t) hf ho hi hx)
    have hy':=lB hy
    have b1:=aGq (bf i x hx)
    have b2:=aGq (bo i y hy)
    have hcx:=aAo x
    have hcy:=aAo y
    have b3:IntKind.i64.wrap ((dN x:Nat):Int)=((dN x:Nat):Int):=aL (by omega) (by omega)
    have b4:IntKind.i64.wrap ((dN y:Nat):Int)=((dN y:Nat):Int):=aL (by omega) (by omega)
    have hm:t*dN y≤94*255:=Nat.mul_le_mul ht (by omega)
    have b5:IntKind.i64.wrap ((t:Int)*((dN y:Nat):Int))=((t*dN y:Nat):Int):=by
     have:((t:Int)*((dN y:Nat):Int))=((t*dN y:Nat):Int):=by rw[Int.natCast_mul]
     rw[this];exact aL (by omega) (by omega)
    have b6:IntKind.i64.wrap (((dN x:Nat):Int)+((t*dN y:Nat):Int))=((dN x+t*dN y:Nat):Int):=by
     rw[aL (by omega) (by omega)];omega
    have b7:zJ ((dN x+t*dN y:Nat):Int) 95=(((dN x+t*dN y)%95:Nat):Int):=eR _ _
    have hr:=Nat.mod_lt (dN x+t*dN y) (show 0<95 by decide)
    have b8:IntKind.u8.wrap (((dN x+t*dN y)%95:Nat):Int)=(((dN x+t*dN y)%95:Nat):Int):=by
     simp[IntKind.wrap,IntKind.bits,IntKind.signed];omega
    have b9:IntKind.u8.wrap (32+(((dN x+t*dN y)%95:Nat):Int))=((pv t x y:Nat):Int):=by
     unfold pv
     simp[IntKind.wrap,IntKind.bits,IntKind.signed];omega
    have ns:=aJr (t:=t) hf ho hi hx hy
    have n1:=aI (plS t f o i)
    rw[aBY hf ho (by omega)]at n1
    have n3:=aNl hi
    generalize pv t x y=P at *
    generalize (dN x+t*dN y)%95=R at *
    generalize dN x+t*dN y=S at *
    generalize t*dN y=T at *
    generalize dN x=cx at *
    generalize dN y=cy at *
    (sym=>(simp[aO,aP,bG,Za,Zb,Zc,Zf,Zh,Zi,Zl,Zm,Zu,Z0,ZA,ZC,ZM,ZN,ZO,ZQ,ZR,Yf,Yo,Yp,Yq,Yt,Yx,Yy,YA,YF,YN,YU,YZ,Xg,XV,XY,XZ,Wa,Wb,Wc,Wj,Wk,Wm,Wn,Wp,Wq,Wr,Wt,Wv,Ww,Wx,Wy,WF,WG,WK,WQ,Vx,Vy,Vz,V0,V4,V9,VA,VB,VC,VD,VF,VG,VH,VI,VK,VO,VP,VR,VT,VU,VV,VW,VX,VZ,Ua,Ub,Uc,Ud,Ue,U6,U7,UB,UC,UD,UJ,UL,UN,UP,UQ,UT,UW,UX,UY,Tn,Tp,Tq,Tw,T6,i1,a2,hx',hy',b1,b2,b3,b4,b5,b6,b7,b8,b9,ns,n1,n3,lo,l0,go,g0,bE,bC,bB,bH];all_goals tactic=>exact rfl))
   ·(sym=>(simp[aO,aP,bG,Za,Zb,Zf,Zh,Zl,Zm,Z0,Yt,Vx,V0,V5,V6,VV,UJ,UL,UO,UQ,UR,UX,UY,T6,e0];all_goals tactic=>exact rfl))
theorem q46 {vs:List AV} {h:XH} (hl:vs.length≤6):runW aN 46 vs h=eG none x46.res x46.ownR h.length (execW aN 46 h.length none x46.body (aY (if x46.ownA then vs else iF vs)) h):=dB rfl hl h rfl
theorem q36 {vs:List AV} {h:XH} (hl:vs.length≤5):runW aN 36 vs h=eG none x36.res x36.ownR h.length (execW aN 36 h.length none x36.body (aY (if x36.ownA then vs else iF vs)) h):=dB rfl hl h rfl
theorem q42 {vs:List AV} {h:XH} (hl:vs.length≤23):runW aN 42 vs h=eG none x42.res x42.ownR h.length (execW aN 42 h.length none x42.body (aY (if x42.ownA then vs else iF vs)) h):=dB rfl hl h rfl
theorem p74 {xs:List AV} {h:XH}:runW aN 74 xs h=aCY xs h:=fC rfl rfl xs h
theorem p80 {xs:List AV} {h:XH}:runW aN 80 xs h=uU xs h:=fC rfl rfl xs h
def lnB (f:List Nat):ByteArray:=⟨⟨Lib.trimRightB (f.map UInt8.ofNat) 32⟩⟩
theorem w46 {f:List Nat} (hf:f.length=40):runW aN 46 [nA f] []=some (.str (lnB f),[]):=by
 rw[q46 (by simp)];unfold x46;dsimp only
 have lf:=aI f
 rw[hf]at lf
 have gf:=aZ f
 have bu:=gE (f:=f)
 have t1:=dS hf
 have t2:=fM hf
 have c1:runW aN 80 [.str ⟨⟨f.map UInt8.ofNat⟩⟩,.str ⟨⟨[32]⟩⟩] []=some (.str (lnB f),[]):=by
  rw[p80];unfold uU;dsimp only
  rw[if_pos ⟨by decide,by rw[rV,List.length_map];omega⟩]
  rfl
 rw[bJ]
 (sym=>(simp[Za,Zb,Zf,Zh,Zl,Zm,Zn,Zo,Zu,Zx,ZF,ZS,ZU,ZZ,Ya,YH,YX,Xb,Xm,XI,XJ,XX,XZ,Wa,Wb,Wg,Wh,Wp,Ws,Wt,Wu,Wv,Ww,Wx,Wz,WB,WM,WN,WO,Va,Vj,Vk,Vl,Vm,Vn,Vo,Vp,Vr,Vs,Vt,Vu,Vw,V8,V9,VA,VC,VD,VF,VG,VH,VI,VR,VY,VZ,Ua,Ub,Uc,Uj,Uk,Uq,Ut,Uu,Uz,U0,UE,UL,UM,UQ,UX,UY,UZ,Ta,Tb,Tc,Tx,TS,TT,TU,lf,gf,t1,t2,bu,c1,bE,bC,bB,bH];all_goals tactic=>exact rfl))
theorem w36 (s:ByteArray):runW aN 36 [.str s] []=some (.bool (iQ s.data.toList),[]):=by
 rw[q36 (by simp)];unfold x36;dsimp only
 have c1:runW aN 74 [.str s,.fn (.func 75) [] []] []=some (.bool (iQ s.data.toList),[]):=by rw[p74];rfl
 (sym=>(simp[Za,Zb,Zf,Zg,Zh,Zj,Zl,Zu,ZS,ZU,ZZ,Ya,YG,YH,YP,Xa,Xb,Xi,Xl,Xm,X0,XI,Wg,Wh,Wp,Ws,Wt,Wu,Ww,Wx,Wz,WB,WM,WN,WO,Va,Vc,Vd,Ve,Vj,Vk,Vl,Vm,Vn,Vo,Vp,Vr,Vs,Vt,Vu,Vw,V8,V9,VA,VC,VD,VF,VH,VY,VZ,Ua,Ub,Uc,Uj,Uk,UL,UM,UQ,UX,UY,Tx,T8,T9,TA,TB,TC,TD,c1];all_goals tactic=>exact rfl))

def txB (s:ByteArray):ByteArray:=oA s 4 44
def rdF (s:ByteArray):List Nat:=cR (bN (txB s))
def yP (s:ByteArray) (n:Nat):Bool := !iQ (txB s).data.toList&&((lF (cM n (rdF s))).toList==s.toList)
theorem oY (s:ByteArray):jT (bN s):=by
 intro i x h
 unfold bN at h
 rw[List.getElem?_map,Option.map_eq_some_iff]at h
 obtain⟨b,_,rfl⟩:=h
 exact b.toNat_lt
theorem jI {l:List Nat} (h:jT l):jT (cR l):=by
 intro i x hx
 unfold cR at hx
 rw[List.getElem?_append]at hx
 split at hx
 ·rw[List.getElem?_take]at hx
  split at hx
  ·exact h i x hx
  ·cases hx
 ·rw[List.getElem?_replicate]at hx
  split at hx
  ·simp only[oSI]at hx;omega
  ·cases hx
theorem pN (a b:ByteArray):zM BinOp.eql a b=some (.bool (a.toList==b.toList)):=rfl
theorem w42 {s:ByteArray} {n:Nat} (hs:s.size=45) (hn:n≤1000000):runW aN 42 [.str s,I (n:Int)] []=some (.tup [nA (rdF s),.bool (yP s n)],[]):=by
 rw[q42 (by simp)];unfold x42;dsimp only
 have hs':((45:Int)=45)=True:=eq_true rfl
 have l1:=fE (bN (txB s))
 have b1:=jI (oY (txB s))
 have c1:=w44 (txB s)
 have c2:=w36 (txB s)
 have c3:=w77 (row:=n) l1 b1 hn
 have hx:oA s 4 44=txB s:=rfl
 have n44:Int.toNat 44=44:=rfl
 have n4:Int.toNat 4=4:=rfl
 have n45:((4:Int)≤((44:Nat):Int))=True:=eq_true (by omega)
 rw[bJ]at c1 c3 ⊢
 have lf:=aI (cR (bN (txB s)))
 rw[l1]at lf
 have t1:=dS l1
 have t2:=fM l1
 have gf:=aZ (cR (bN (txB s)))
 have l0:(aW (nf 0)).length=40:=by rw[aI];exact cJ (by omega)
 have g0:=aZ (nf 0)
 have a1:=fB (a:=nf 0) (b:=cR (bN (txB s))) (by rw[l1];exact cJ (by omega))
 have e1:=pN (lF (cM n (cR (bN (txB s))))) s
 unfold yP rdF
 cases hu:iQ (txB s).data.toList with
 | true =>
   rw[hu]at c2
   (sym=>(simp[Za,Zb,Zc,Ze,Zf,Zg,Zh,Zk,Zl,Zm,Zn,Zp,Zs,Zu,Zv,Zw,Z8,ZH,ZM,ZN,ZO,ZP,ZQ,ZR,ZS,ZU,ZV,ZW,ZZ,Ya,Yc,Ye,Y9,YG,YH,YJ,YK,YU,Xa,Xb,Xc,Xd,Xk,Xl,Xn,Xo,Xz,X0,XI,XJ,XK,XX,XY,XZ,Wa,Wb,Wc,Wd,Wf,Wg,Wh,Wp,Ws,Wt,Wu,Wv,Ww,Wx,Wz,WB,WM,WN,WO,WQ,WR,WS,WT,Va,Vc,Vd,Ve,Vj,Vk,Vl,Vm,Vn,Vo,Vq,Vr,Vs,Vt,Vu,Vv,Vw,V8,V9,VA,VB,VC,VD,VF,VG,VH,VK,VL,VN,VO,VP,VQ,VR,VW,VX,VY,VZ,Ua,Ub,Uc,Ud,Ue,Uf,Ug,Uj,Uk,Ul,Ur,Us,U6,U7,UA,UC,UD,UL,UM,UQ,UX,UY,Th,Ti,Tj,Tk,Tw,Tx,T7,T8,T9,TA,TB,TC,TD,hs,hx,n44,n4,n45,c1,c2,lf,t1,t2,gf,l0,g0,a1,bE,bC,bB,bH];all_goals tactic=>exact rfl))
 | false =>
   rw[hu]at c2
   (sym=>(simp[Za,Zb,Zc,Ze,Zf,Zg,Zh,Zk,Zl,Zm,Zn,Zp,Zq,Zu,Zv,Zw,Z0,Z8,ZH,ZM,ZN,ZO,ZP,ZQ,ZR,ZS,ZU,ZV,ZW,ZZ,Ya,Yb,Ye,Y9,YF,YG,YH,YJ,YK,YU,YZ,Xa,Xb,Xc,Xd,Xk,Xl,Xn,Xo,Xz,X0,XI,XJ,XK,XX,XY,XZ,Wa,Wb,Wc,Wd,Wf,Wg,Wh,Wp,Ws,Wt,Wu,Wv,Ww,Wx,Wz,WB,WM,WN,WO,WQ,WR,WS,WT,Va,Vc,Vd,Ve,Vj,Vk,Vl,Vm,Vn,Vo,Vq,Vr,Vs,Vt,Vu,Vv,Vw,V8,V9,VA,VB,VC,VD,VF,VG,VH,VJ,VK,VO,VP,VQ,VR,VW,VX,VY,VZ,Ua,Ub,Uc,Ud,Ue,Uf,Ug,Uj,Uk,Ul,Ur,Us,U6,U7,UA,UC,UD,UK,UL,UM,UQ,UX,UY,Th,Ti,Tj,Tk,Tw,Tx,T7,T8,T9,TA,TB,TC,TD,hs,hx,n44,n4,n45,c1,c2,c3,e1,lf,t1,t2,gf,l0,g0,a1,bE,bC,bB,bH];all_goals tactic=>exact rfl))
theorem q43 {vs:List AV} {h:XH} (hl:vs.length≤18):runW aN 43 vs h=eG none x43.res x43.ownR h.length (execW aN 43 h.length none x43.body (aY (if x43.ownA then vs else iF vs)) h):=dB rfl hl h rfl
def fA (C:List Nat) (k:Nat):List Nat:=(C.drop (k*40)).take 40
def cU (C:List Nat):Nat→List Nat
 | 0=>cR []
 | k+1=>cL 1 (cU C k) (fA C k)
theorem nT {C:List Nat} {n k:Nat} (h:n*40≤C.length) (hk:k<n):(fA C k).length=40:=by
 have h1:(k+1)*40≤n*40:=Nat.mul_le_mul_right _ hk
 have h2:(k+1)*40=k*40+40:=by omega
 simp[fA];omega
theorem tK {C:List Nat} (h:jT C) (k:Nat):jT (fA C k):=by
 intro i x hx
 unfold fA at hx
 rw[List.getElem?_take]at hx
 split at hx
 ·rw[List.getElem?_drop]at hx;exact h _ _ hx
 ·cases hx
theorem dZ {C:List Nat} {n:Nat} (h:n*40≤C.length):∀ k,k≤n→(cU C k).length=40
 | 0,_=>fE []
 | k+1,hk=>by
   have h1:=dZ h k (by omega)
   rw[cU,jG (by rw[h1,nT h (by omega)])]
   exact h1
theorem nH {C:List Nat}:∀ k,jT (cU C k)
 | 0=>jI (fun i x h=>by simp at h)
 | k+1=>nO
theorem yV {C:List Nat} {k:Nat}:((aW C).drop (k*40)).take 40=aW (fA C k):=by
 simp[aW,fA,List.map_take,List.map_drop]

def aEC:XCode:=(.loop [2,3,7,8,9] (.seq (.reg [] false [⟨0,(some 10),(.bin .lss (.t 9) (.t 8)),none⟩]) (.seq (.cond (.t 10) .skip (.exit 0)) (.seq (.block 1 (.seq (.reg [] false [⟨0,(some 11),(.idx 40 (.t 7) (.t 9)),none⟩,⟨0,(some 12),(.load true 40 (.t 11)),none⟩,⟨0,(some 5),(.alloc (aW (nf 0))),none⟩,⟨0,none,(.store 40 (.t 5) (.t 12) []),none⟩]) (.reg [] false [⟨0,(some 13),(.load true 40 (.t 3)),none⟩,⟨0,(some 14),(.load true 40 (.t 5)),none⟩,⟨0,(some 15),(.callf false (.c (.fn (.func 45) [] [])) [(.t 13),(.t 14),(.c (.int .i64 1))] []),none⟩,⟨0,none,(.store 40 (.t 3) (.t 15) []),none⟩]))) (.reg [] false [⟨0,(some 16),(.bin .add (.t 9) (.c (.int .i64 1))),none⟩,⟨0,(some 9),(.mv (.t 16)),none⟩])))))
theorem aED:aId=aEC:=rfl
theorem w43 {C:List Nat} {n:Nat} (hC:n*40≤C.length) (hb:jT C) (hn:n≤1000):runW aN 43 [.sl 0 0 40 n] [some (.blk true (.cells true (aW C)))]=some (nA (cU C n),[some (.blk true (.cells true (aW C)))]):=by
 rw[q43 (by simp)];unfold x43;dsimp only
 have c1:=w44 ⟨⟨[]⟩⟩
 have hnf:cR (bN ⟨⟨[]⟩⟩)=cR []:=rfl
 rw[hnf]at c1
 rw[bJ]at c1 ⊢
 have l0:(aW (nf 0)).length=40:=by rw[aI];exact cJ (by omega)
 have g0:=aZ (nf 0)
 have l1:=fE []
 have lf:=aI (cR [])
 rw[l1]at lf
 have gf:=aZ (cR [])
 have a1:=fB (a:=nf 0) (b:=cR []) (by rw[l1];exact cJ (by omega))
 have t1:=dS l1
 have t2:=fM l1
 have gC:=aZ C
 sym =>
  simp[Za,Zb,Zc,Zf,Zh,Zl,Zm,Zu,Zv,ZJ,ZO,ZP,ZS,ZU,ZZ,Ya,Yi,YH,YU,Xb,Xc,XM,XX,XZ,Wc,Wd,Wf,Wg,Wh,Wp,Ws,Wu,Wz,WB,WM,WN,WO,Vw,V8,V9,VA,VB,VC,VD,VG,VH,VK,VR,VY,VZ,Ua,Ub,Uc,Ud,Ue,Uj,Uk,Ul,UC,UD,UL,UP,UQ,UX,UY,c1,l0,g0,lf,gf,a1,t1,t2,gC,bE,bC,bB,bH]
  tactic =>
   rw[aED]
   unfold aEC
   rw[bU n (fun i=>[.pt 1 0,.pt 2 0,.sl 0 0 40 n,I (n:Nat),I (i:Nat)]) (fun i=>[some (.blk true (.cells true (aW C))),some (.blk true (.cells true (aW (nf 0)))),some (.blk true (.cells true (aW (cU C i))))])]
   ·have e0:((n:Int)<(n:Int))=False:=eq_false (by omega)
    have l3:=dZ hC n (Nat.le_refl _)
    have c4:=aI (cU C n)
    rw[l3]at c4
    have c5:=dS l3
    have c6:=fM l3
    have c7:=aZ (cU C n)
    have c8:=fB (a:=nf 0) (b:=cU C n) (by rw[l3];exact cJ (by omega))
    (sym=>(simp[Za,Zb,Zc,Zf,Zh,Zl,Zm,Z0,ZL,ZO,ZP,Yt,YJ,Xc,Xn,XJ,XX,XZ,Wa,Wb,Wc,Wp,Wt,Wv,Ww,Wx,WF,WG,WJ,WK,Va,Vj,Vk,Vl,Vm,Vn,Vo,Vp,Vr,Vs,Vt,Vv,Vx,V0,V5,V9,VA,VD,VE,VF,VK,VR,VV,VZ,Ua,U5,U6,U7,UA,UC,UD,UJ,UL,UM,UO,UQ,UR,UV,UX,Tx,e0,l0,g0,c4,c5,c6,c7,c8,gC,bE,bC,bB,bH];all_goals tactic=>exact rfl))
   ·have s0:cU C 0=cR []:=rfl
    (sym=>(simp[Za,Y5,YF,YM,YN,YZ,Xf,Xg,XZ,Wj,Wk,Wm,Wn,Wp,Wq,Wr,Wt,Wv,Ww,Wx,Wy,WF,WG,WJ,WK,Vy,Vz,V9,VA,VB,VC,VD,VE,VF,VI,VT,VZ,Ua,Ub,Uc,UW,s0,l0,g0,lf,gf,gC,bE,bC,bB,bH];all_goals tactic=>exact rfl))
   ·intro i hi
    have i1:((i:Int)<(n:Int))=True:=eq_true (by omega)
    have a2:=gJ hi (by omega)
    have lC:=aI C
    have i3:(i*40+40≤(aW C).length)=True:=eq_true (by
     rw[lC]
     have h1:(i+1)*40≤n*40:=Nat.mul_le_mul_right _ hi
     omega)
    have fu:=yV (C:=C) (k:=i)
    have l3:=dZ hC i (by omega)
    have l4:=dZ hC (i+1) (by omega)
    have l5:=nT hC hi
    have w:=w45 (t:=1) l3 l5 (nH i) (tK hb i) (by omega)
    have ws:cL 1 (cU C i) (fA C i)=cU C (i+1):=rfl
    rw[ws]at w
    rw[bJ,bJ,bJ]at w
    have m3:=aI (cU C i)
    rw[l3]at m3
    have m4:=aI (cU C (i+1))
    rw[l4]at m4
    have m5:=aI (fA C i)
    rw[l5]at m5
    have c8:=fB (a:=nf 0) (b:=fA C i) (by rw[l5];exact cJ (by omega))
    have c9:=fB (a:=cU C i) (b:=cU C (i+1)) (by rw[l3,l4])
    have k3:=dS l3
    have k4:=fM l3
    have k5:=dS l5
    have k6:=fM l5
    have g3:=aZ (cU C i)
    have g4:=aZ (cU C (i+1))
    have g5:=aZ (fA C i)
    have w':runW aN 45 [.agg (aW (cU C i)),.agg (aW (fA C i)),I 1] []=some (.agg (aW (cU C (i+1))),[]):=w
    generalize cU C (i+1)=S' at *
    generalize cU C i=S at *
    generalize fA C i=f at *
    (sym=>(simp[Za,Zb,Zc,Zf,Zh,Zl,Zm,Zu,Zv,Z0,ZD,ZL,ZO,ZP,ZS,ZU,ZZ,Ya,Yk,Yo,Yt,Yx,Yy,YF,YJ,YM,YN,YZ,Xc,Xf,Xg,XX,XZ,Wa,Wb,Wc,Wg,Wj,Wk,Wm,Wn,Wp,Wq,Wr,Ws,Wt,Wu,Wv,Ww,Wx,Wy,Wz,WB,WF,WG,WJ,WK,WM,WN,WO,Vx,Vy,Vz,V0,V4,V9,VA,VB,VC,VD,VE,VF,VG,VH,VI,VK,VR,VT,VU,VY,VZ,Ua,Ub,Uc,U6,U7,UA,UC,UD,UJ,UL,UN,UP,UQ,UT,UW,UX,UY,Tp,i1,a2,i3,fu,w',m3,m4,m5,c8,c9,k3,k4,k5,k6,g3,g4,g5,gC,l0,g0,bE,bC,bB,bH];all_goals tactic=>exact rfl))
   ·have e0:((n:Int)<(n:Int))=False:=eq_false (by omega)
    (sym=>(simp[Za,Zb,Zf,Zh,Zl,Zm,Z0,Yt,Vx,V0,V5,V6,VV,U5,UJ,UL,UO,UQ,UR,UX,e0];all_goals tactic=>exact rfl))
theorem zA {cs:List AV} {s:Nat}:∀ {n o i:Nat},i<n→(bY cs o s n)[i]?=some ((cs.drop (o+i*s)).take s)
 | 0,_,_,h=>absurd h (by omega)
 | n+1,o,0,_=>by rw[bY,List.getElem?_cons_zero,Nat.zero_mul,Nat.add_zero]
 | n+1,o,i+1,h=>by
   rw[bY,List.getElem?_cons_succ,zA (by omega),Nat.add_mul i 1,Nat.one_mul,Nat.add_assoc,Nat.add_comm s]
theorem aOu {C:List Nat} {n:Nat} (hC:n*40≤C.length):(bY (aW C) 0 40 n).length=n∧∀ i,i<n→(bY (aW C) 0 40 n)[i]?=some (aW (fA C i)):=by
 obtain⟨h1,_,_⟩:=oU (cs:=aW C) (s:=40) (n:=n) (o:=0) (by rw[aI];omega)
 refine⟨h1,fun i hi=>?_⟩
 rw[zA hi,Nat.zero_add,yV]
theorem aOG {C:List Nat} {n:Nat} (hC:n*40≤C.length) (hb:jT C) (hn:n≤1000):runW aN 43 [.fs (bY (aW C) 0 40 n)] []=some (nA (cU C n),[]):=by
 rw[q43 (by simp)];unfold x43;dsimp only
 have c1:=w44 ⟨⟨[]⟩⟩
 have hnf:cR (bN ⟨⟨[]⟩⟩)=cR []:=rfl
 rw[hnf]at c1
 rw[bJ]at c1 ⊢
 have l0:(aW (nf 0)).length=40:=by rw[aI];exact cJ (by omega)
 have g0:=aZ (nf 0)
 have l1:=fE []
 have lf:=aI (cR [])
 rw[l1]at lf
 have gf:=aZ (cR [])
 have a1:=fB (a:=nf 0) (b:=cR []) (by rw[l1];exact cJ (by omega))
 have t1:=dS l1
 have t2:=fM l1
 obtain⟨rl,ra⟩:=aOu hC
 generalize bY (aW C) 0 40 n=R at *
 sym =>
  simp[Za,Zb,Zc,Zf,Zh,Zl,Zm,Zu,Zv,ZJ,ZO,ZP,ZS,ZU,ZZ,Ya,Yh,YH,YU,Xb,Xc,XL,XX,XZ,Wc,Wd,Wf,Wg,Wh,Wp,Ws,Wu,Wz,WB,WM,WN,WO,Vw,V8,V9,VA,VB,VC,VD,VG,VH,VK,VR,VY,VZ,Ua,Ub,Uc,Ud,Ue,Uj,Uk,Ul,UC,UD,UL,UP,UQ,UX,UY,rl,c1,l0,g0,lf,gf,a1,t1,t2,bE,bC,bB,bH]
  tactic =>
   rw[aED]
   unfold aEC
   rw[bU n (fun i=>[.pt 0 0,.pt 1 0,.fs R,I (n:Nat),I (i:Nat)]) (fun i=>[some (.blk true (.cells true (aW (nf 0)))),some (.blk true (.cells true (aW (cU C i))))])]
   ·have e0:((n:Int)<(n:Int))=False:=eq_false (by omega)
    have l3:=dZ hC n (Nat.le_refl _)
    have c4:=aI (cU C n)
    rw[l3]at c4
    have c5:=dS l3
    have c6:=fM l3
    have c7:=aZ (cU C n)
    have c8:=fB (a:=nf 0) (b:=cU C n) (by rw[l3];exact cJ (by omega))
    (sym=>(simp[Za,Zb,Zc,Zf,Zh,Zl,Zm,Z0,ZL,ZO,ZP,Yt,YJ,Xc,Xn,XJ,XX,XZ,Wa,Wb,Wc,Wp,Wt,Wv,Ww,Wx,Va,Vj,Vk,Vl,Vm,Vn,Vo,Vp,Vr,Vs,Vt,Vv,Vx,V0,V5,VA,VD,VF,VK,VR,VV,VZ,Ua,U5,U6,U7,UA,UC,UD,UJ,UL,UM,UO,UQ,UR,UV,UX,Tx,e0,l0,g0,c4,c5,c6,c7,c8,bE,bC,bB,bH];all_goals tactic=>exact rfl))
   ·have s0:cU C 0=cR []:=rfl
    (sym=>(simp[Za,Y5,YF,YL,YN,YZ,Xe,Xg,XZ,Wj,Wk,Wm,Wn,Wp,Wq,Wr,Wt,Wv,Ww,Wx,Wy,WF,WG,WK,Vy,Vz,V9,VA,VB,VC,VD,VF,VI,VT,VZ,Ua,Ub,Uc,UW,Tq,s0,l0,g0,lf,gf,bE,bC,bB,bH];all_goals tactic=>exact rfl))
   ·intro i hi
    have i1:((i:Int)<(n:Int))=True:=eq_true (by omega)
    have a2:=gJ hi (by omega)
    have i3:(i<R.length)=True:=eq_true (by omega)
    have fu:=ra i hi
    have l3:=dZ hC i (by omega)
    have l4:=dZ hC (i+1) (by omega)
    have l5:=nT hC hi
    have w:=w45 (t:=1) l3 l5 (nH i) (tK hb i) (by omega)
    have ws:cL 1 (cU C i) (fA C i)=cU C (i+1):=rfl
    rw[ws]at w
    rw[bJ,bJ,bJ]at w
    have m3:=aI (cU C i)
    rw[l3]at m3
    have m4:=aI (cU C (i+1))
    rw[l4]at m4
    have m5:=aI (fA C i)
    rw[l5]at m5
    have c8:=fB (a:=nf 0) (b:=fA C i) (by rw[l5];exact cJ (by omega))
    have c9:=fB (a:=cU C i) (b:=cU C (i+1)) (by rw[l3,l4])
    have k3:=dS l3
    have k4:=fM l3
    have k5:=dS l5
    have k6:=fM l5
    have g3:=aZ (cU C i)
    have g4:=aZ (cU C (i+1))
    have g5:=aZ (fA C i)
    have w':runW aN 45 [.agg (aW (cU C i)),.agg (aW (fA C i)),I 1] []=some (.agg (aW (cU C (i+1))),[]):=w
    generalize cU C (i+1)=S' at *
    generalize cU C i=S at *
    generalize fA C i=f at *
    (sym=>(simp[Za,Zb,Zc,Zf,Zh,Zl,Zm,Zu,Zv,Z0,ZD,ZL,ZO,ZP,ZS,ZU,ZZ,Ya,Yl,Ym,Yo,Yt,Yx,Yy,YF,YJ,YL,YN,YZ,Xc,Xe,Xg,XX,XZ,Wa,Wb,Wc,Wg,Wj,Wk,Wm,Wn,Wp,Wq,Wr,Ws,Wt,Wu,Wv,Ww,Wx,Wy,Wz,WB,WF,WG,WK,WM,WN,WO,Vx,Vy,Vz,V0,V4,V9,VA,VB,VC,VD,VF,VG,VH,VI,VK,VR,VT,VU,VY,VZ,Ua,Ub,Uc,U6,U7,U8,U9,UA,UC,UD,UJ,UL,UN,UP,UQ,UT,UW,UX,UY,Tq,i1,a2,i3,fu,rl,w',m3,m4,m5,c8,c9,k3,k4,k5,k6,g3,g4,g5,l0,g0,bE,bC,bB,bH];all_goals tactic=>exact rfl))
   ·have e0:((n:Int)<(n:Int))=False:=eq_false (by omega)
    (sym=>(simp[Za,Zb,Zf,Zh,Zl,Zm,Z0,Yt,Vx,V0,V5,V6,VV,U5,UJ,UL,UO,UQ,UR,UX,e0];all_goals tactic=>exact rfl))
theorem q69 {vs:List AV} {h:XH} (hl:vs.length≤19):runW aN 69 vs h=eG none x69.res x69.ownR h.length (execW aN 69 h.length none x69.body (aY (if x69.ownA then vs else iF vs)) h):=dB rfl hl h rfl
theorem aMd {xs:List AV} {h:XH}:runW aN 115 xs h=zX xs h:=fC rfl rfl xs h
theorem p71 {xs:List AV} {h:XH}:runW aN 71 xs h=aAS xs h:=fC rfl rfl xs h
def gO (s:ByteArray):List AV:=s.data.toList.map fun b=>.int .u8 (b.toNat:Int)
theorem aAA (s:ByteArray):(gO s).length=s.size:=by
 unfold gO;rw[List.length_map,Array.length_toList];rfl
theorem aES (a b:ByteArray):gO a++gO b=gO (a++b):=by
 unfold gO
 rw[←List.map_append,ByteArray.data_append,Array.toList_append]
theorem sX (s:ByteArray):hO (gO s)=true:=cY fun v hv=>by
 obtain⟨n,_,rfl⟩:=List.mem_map.1 hv;rfl
theorem aFM {α:Type} {g:α→AV} (hg:∀ a,sD (g a)=[]) (l:List α):qI (l.map g)=[]:=by
 induction l with
 | nil=>rfl
 | cons a l ih=>show sD _++qI (l.map g)=[];rw[ih,hg];rfl
theorem aFK {α:Type} {g:α→AV} (hg:∀ a,rX (g a)=[]) (l:List α):slL (l.map g)=[]:=by
 induction l with
 | nil=>rfl
 | cons a l ih=>show rX _++slL (l.map g)=[];rw[ih,hg];rfl
theorem aFL {α:Type} {g:α→AV} {s:Nat→Option Nat} (hg:∀ a,rnA s (g a)=g a) (l:List α):jE s (l.map g)=l.map g:=by
 induction l with
 | nil=>rfl
 | cons a l ih=>show rnA s _::jE s (l.map g)=_;rw[ih,hg];rfl
theorem pM (s:ByteArray):qI (gO s)=[]:=aFM (fun _=>rfl) _
theorem pK (s:ByteArray):slL (gO s)=[]:=aFK (fun _=>rfl) _
theorem pL (f:Nat→Option Nat) (s:ByteArray):jE f (gO s)=gO s:=aFL (fun _=>rfl) _
theorem aDC:∀ l:List UInt8,sS (l.map fun b=>AV.int .u8 (b.toNat:Int))=some l
 | []=>rfl
 | b::l=>by
   have ih:=aDC l
   have hb:=b.toNat_lt
   show (if 0≤(b.toNat:Int)∧(b.toNat:Int)<256 then (sS (l.map fun b=>AV.int .u8 (b.toNat:Int))).map (UInt8.ofNat (b.toNat:Int).toNat :: ·) else none)=_
   rw[if_pos (by omega),ih]
   simp

theorem aAC {H:Hp} {s:ByteArray}:dJ 1 H (.str s)=some (s.size,gO s):=rfl
theorem aBl {h:XH} {s:ByteArray}:gL h (.str s)=true:=rfl
theorem aOF {s:ByteArray} (h0:0<s.size) (h1:s.size≤100000):runW aN 69 [.bp 0,.str s] [some (.blk true (.cells true [.nilpt,.nilsl]))] =
 some (.tup [I (s.size:Nat),.nilifc],[some (.blk false (.cells true [.pt 0 0,.sb 1 s.size])),some (.blk true (.cells true (gO s)))]):=by
 rw[q69 (by simp)];unfold x69;dsimp only
 have c1:runW aN 115 [.bp 0] [some (.blk true (.cells true [.nilpt,.nilsl]))]=some (.tup [],[some (.blk false (.cells true [.pt 0 0,.nilsl]))]):=by rw[aMd];rfl
 have z1:(s.size=0)=False:=eq_false (by omega)
 have z2:(s.size*1048577≤1099511627776)=True:=eq_true (by omega)
 have z3:(s.size≤1099511627776)=True:=eq_true (by omega)
 have g1:=sX s
 (sym=>(simp[Za,Zb,Zc,Zf,Zg,Zh,Zj,Zl,Zm,Zo,Zu,Zz,ZB,ZJ,ZL,ZO,ZP,ZS,ZU,ZY,ZZ,Ya,Yg,Yj,YF,YK,YN,YR,YZ,Xd,Xg,Xh,Xj,Xk,Xo,Xv,Xz,XI,XK,XO,XZ,Wa,Wb,Wc,Wd,Wf,Wg,Wh,Wi,Wj,Wl,Wm,Wn,Wo,Wp,Wq,Wr,Ws,Wt,Wu,Wv,Ww,Wx,Wy,Wz,WB,WC,WF,WG,WH,WJ,WK,WL,WM,WN,WO,WP,Va,Vc,Vd,Ve,Vj,Vk,Vl,Vm,Vn,Vo,Vq,Vr,Vs,Vt,Vu,Vw,V8,V9,VA,VB,VC,VD,VE,VF,VG,VH,VI,VK,VM,VR,VT,VY,VZ,Ua,Ub,Uc,Ud,Ue,Uf,Ug,Uj,Uk,Ul,U1,U2,U6,U7,UB,UC,UD,UE,UI,UL,UM,UQ,UX,UY,Tx,T8,T9,TA,TB,TC,TD,TF,TI,TJ,TK,TM,TN,TO,TP,TR,c1,z1,z2,z3,aAC,aBl,pM,pK,pL,g1];all_goals tactic=>exact rfl))

theorem aKD {s a:ByteArray} (h0:0<s.size) (h1:s.size≤100000) (h2:a.size≤100000):runW aN 69 [.bp 0,.str s] [some (.blk false (.cells true [.pt 0 0,.sb 1 a.size])),some (.blk true (.cells true (gO a)))] =
 some (.tup [I (s.size:Nat),.nilifc],[some (.blk false (.cells true [.pt 0 0,.sb 2 (a.size+s.size)])),none,some (.blk true (.cells true (gO (a++s))))]):=by
 rw[q69 (by simp)];unfold x69;dsimp only
 have c1:runW aN 115 [.bp 0] [some (.blk false (.cells true [.pt 0 0,.sb 1 a.size])),some (.blk true (.cells true (gO a)))]=some (.tup [],[some (.blk false (.cells true [.pt 0 0,.sb 1 a.size])),some (.blk true (.cells true (gO a)))]):=by rw[aMd];rfl
 have l1:=aAA a
 have z3:(a.size+s.size≤1099511627776)=True:=eq_true (by omega)
 have z4:(a.size+s.size≤1099511627776∧True)=True:=eq_true ⟨by omega,trivial⟩
 have g1:=sX s
 have g2:=sX a
 have g3:=sX (a++s)
 have e1:=aES a s
 (sym=>(simp[Za,Zb,Zc,Zf,Zg,Zh,Zj,Zl,Zm,Zo,Zu,Zz,ZB,ZJ,ZL,ZO,ZP,ZS,ZU,ZY,ZZ,Ya,Yg,Yj,YF,YK,YN,YR,YZ,Xd,Xg,Xj,Xk,Xo,Xv,Xz,XI,XK,XO,XZ,Wa,Wb,Wc,Wd,Wf,Wg,Wh,Wi,Wj,Wk,Wl,Wm,Wn,Wo,Wp,Wq,Wr,Ws,Wt,Wu,Wv,Ww,Wz,WB,WC,WE,WF,WG,WH,WI,WJ,WK,WL,WM,WN,WO,WP,Va,Vc,Vd,Ve,Vj,Vk,Vl,Vm,Vn,Vo,Vq,Vr,Vs,Vt,Vu,Vw,V8,V9,VA,VB,VC,VD,VE,VF,VG,VH,VI,VK,VM,VR,VS,VT,VY,VZ,Ua,Ub,Uc,Ud,Ue,Uf,Ug,Uj,Uk,Ul,U1,U6,U7,UB,UC,UD,UF,UL,UM,UQ,UX,UY,Tx,T8,T9,TA,TB,TC,TD,TF,TG,TH,TI,TJ,TK,TM,TN,TO,TP,TR,c1,l1,z3,aAC,aBl,pM,pK,pL,g1,g2,g3,e1];all_goals tactic=>exact rfl))
theorem w71 {a:ByteArray} (h0:0<a.size) (h1:a.size≤1000000):runW aN 71 [.bp 0] [some (.blk false (.cells true [.pt 0 0,.sb 1 a.size])),some (.blk true (.cells true (gO a)))]=some (.str a,[some (.blk false (.cells true [.pt 0 0,.sb 1 a.size])),none]):=by
 rw[p71]
 have hl:=aAA a
 have hb:=aDC a.data.toList
 have hsz:a.size=a.data.toList.length:=by rw[Array.length_toList];rfl
 unfold aAS
 simp only[bF,List.getD_cons_zero,List.getD_cons_succ]
 rw[List.take_of_length_le (by rw[hl];exact Nat.le_refl _)]
 unfold gO
 rw[hb]
 cases hd:a.data.toList with
 | nil=>rw[hsz,hd]at h0;simp at h0
 | cons x l =>
   dsimp only
   have hc:a.size≤(List.map (fun b:UInt8=>AV.int IntKind.u8 (b.toNat:Int)) (x::l)).length∧(1:Nat)≠0∧a.size≤1000000:=⟨by rw[List.length_map,←hd,←hsz];exact Nat.le_refl _,by decide,h1⟩
   rw[if_pos hc]
   have ha:(⟨⟨x::l⟩⟩:ByteArray)=a:=by
    rw[←hd]
   rw[ha]
   rfl
theorem q38 {vs:List AV} {h:XH} (hl:vs.length≤40):runW aN 38 vs h=eG none x38.res x38.ownR h.length (execW aN 38 h.length none x38.body (aY (if x38.ownA then vs else iF vs)) h):=dB rfl hl h rfl
def aHY:XCode:=(.loop [1,5,6,9,10,11] (.seq (.reg [] false [⟨0,(some 12),(.bin .lss (.t 11) (.t 10)),none⟩]) (.seq (.cond (.t 12) .skip (.exit 0)) (.seq (.block 1 (.seq (.reg [] false [⟨0,(some 13),(.mv (.t 11)),none⟩,⟨0,(some 14),(.idx 1 (.t 9) (.t 11)),none⟩,⟨0,(some 15),(.load false 1 (.t 14)),none⟩,⟨0,(some 7),(.mv (.t 13)),none⟩,⟨0,(some 8),(.mv (.t 15)),none⟩]) (.seq (.reg [(8,false)] false [⟨0,(some 16),(.mv (.t 6)),none⟩,⟨0,(some 17),(.mv (.t 8)),none⟩,⟨0,(some 18),(.callf false (.c (.fn (.func 44) [] [])) [(.t 17)] []),none⟩,⟨0,(some 19),(.bslice 40 1 (aW (nf 0)) [(0,(40,(.t 18)))]),none⟩,⟨0,(some 20),(.app 40 40 (.t 16) (.t 19)),none⟩,⟨0,(some 6),(.mv (.t 20)),none⟩]) (.reg [(5,false)] false [⟨0,(some 21),(.mv (.t 6)),none⟩,⟨0,(some 22),(.mv (.t 7)),none⟩,⟨0,(some 23),(.idx 40 (.t 21) (.t 22)),none⟩,⟨0,(some 24),(.load true 40 (.t 23)),none⟩,⟨0,(some 25),(.mv (.t 1)),none⟩,⟨0,(some 26),(.mv (.t 7)),none⟩,⟨0,(some 27),(.bin .add (.t 25) (.t 26)),none⟩,⟨0,(some 28),(.callf false (.c (.fn (.func 77) [] [])) [(.t 24),(.t 27)] []),none⟩,⟨0,(some 29),(.callf false (.c (.fn (.func 69) [] [])) [(.t 5),(.t 28)] []),none⟩])))) (.reg [] false [⟨0,(some 30),(.bin .add (.t 11) (.c (.int .i64 1))),none⟩,⟨0,(some 11),(.mv (.t 30)),none⟩])))))
theorem aIK:aIe=aHY:=rfl
def sG (s:ByteArray):List Nat:=cR (bN s)
theorem qL (s:ByteArray):(sG s).length=40:=fE _
theorem aAd (s:ByteArray):jT (sG s):=jI (oY s)
def Cn (ls:List ByteArray) (i:Nat):List Nat:=((ls.take i).map sG).flatten
def wT (row:Nat) (f:List Nat):ByteArray:=lF (cM row f)
def Bn (ls:List ByteArray) (row:Nat):Nat→ByteArray
 | 0=>⟨⟨[]⟩⟩
 | i+1=>Bn ls row i++wT (row+i) (sG (ls.getD i ⟨⟨[]⟩⟩))
theorem aFl {row:Nat} {f:List Nat} (h:f.length=40):(cM row f).length=45:=by simp[cM,fL,h]
theorem uG {row:Nat} {f:List Nat} (h:f.length=40):(wT row f).size=45:=by
 unfold wT lF
 rw[rV,List.length_map,aFl h]
theorem aAu (ls:List ByteArray) (row:Nat):∀ i,(Bn ls row i).size=i*45
 | 0=>rfl
 | i+1=>by rw[Bn,ByteArray.size_append,aAu ls row i,uG (qL _)];omega
theorem aHM (a:ByteArray):(⟨⟨[]⟩⟩:ByteArray)++a=a:=by
 cases a with
 | mk d=>cases d with
   | mk l=>rw[aGy];rfl
theorem pA {ls:List ByteArray}:∀ {i:Nat},i≤ls.length→(Cn ls i).length=i*40
 | 0,_=>by simp[Cn]
 | i+1,h=>by
   have ih:=pA (ls:=ls) (i:=i) (by omega)
   unfold Cn at *
   rw[List.take_add_one]
   obtain⟨x,hx⟩:=iA (l:=ls) (i:=i) (by omega)
   rw[hx]
   simp only[Option.toList_some,List.map_append,List.map_cons,List.map_nil,List.flatten_append,List.flatten_cons,List.flatten_nil,List.append_nil,List.length_append,ih,qL]
   omega
theorem aKn {ls:List ByteArray} {i:Nat} {s:ByteArray} (h:ls[i]?=some s):Cn ls (i+1)=Cn ls i++sG s:=by
 unfold Cn
 rw[List.take_add_one,h]
 simp
theorem aKo (ls:List ByteArray) (i:Nat):jT (Cn ls i):=by
 intro k x h
 have hm:=List.mem_of_getElem? h
 unfold Cn at hm
 obtain⟨l,h1,h2⟩:=List.mem_flatten.1 hm
 obtain⟨s,_,rfl⟩:=List.mem_map.1 h1
 obtain⟨j,hj⟩:=List.getElem?_of_mem h2
 exact aAd s j x hj
theorem aOC {ls:List ByteArray} {i:Nat} {s:ByteArray} (h:ls[i]?=some s):((aW (Cn ls (i+1))).drop (i*40)).take 40=aW (sG s):=by
 have hi:i<ls.length:=(List.getElem?_eq_some_iff.1 h).1
 have hl:=pA (ls:=ls) (i:=i) (by omega)
 rw[aKn h]
 unfold aW
 rw[List.map_append,List.drop_append_of_le_length (by rw[List.length_map,hl];exact Nat.le_refl _),List.drop_eq_nil_of_le (by rw[List.length_map,hl];exact Nat.le_refl _),List.nil_append]
 exact List.take_of_length_le (by rw[List.length_map,qL];exact Nat.le_refl _)
theorem aEM (a b:List Nat):aW a++aW b=aW (a++b):=by simp[aW]
theorem aKp {ls:List ByteArray} {row i:Nat} {s:ByteArray} (h:ls[i]?=some s):Bn ls row (i+1)=Bn ls row i++wT (row+i) (sG s):=by
 rw[Bn,List.getD_eq_getElem?_getD,h];rfl
def lS (i:Nat):AV:=if i=0 then .nilsl else .sl 2 0 40 i
def lG (ls:List ByteArray) (row i:Nat):XH:=if i=0 then [some (.blk true (.cells true [.nilpt,.nilsl]))] else
 [some (.blk false (.cells true [.pt 0 0,.sb 1 (Bn ls row i).size])),some (.blk true (.cells true (gO (Bn ls row i)))),some (.blk true (.cells true (aW (Cn ls i))))]
def rS (ls:List ByteArray):List (List AV):=ls.map fun s=>[.str s]
theorem aBW (ls:List ByteArray):(rS ls).length=ls.length:=by simp[rS]
theorem aCV {ls:List ByteArray} {i:Nat} {s:ByteArray} (h:ls[i]?=some s):(rS ls)[i]?=some [.str s]:=by simp[rS,h]

theorem w38 {ls:List ByteArray} {row:Nat} (h0:1≤ls.length) (h1:ls.length≤1000) (hr:row≤10000):runW aN 38 [.fs (rS ls),I (row:Int)] []=some (.str (Bn ls row ls.length++wT (row+ls.length) (cU (Cn ls ls.length) ls.length)),[]):=by
 rw[q38 (by simp)];unfold x38;dsimp only
 have rl:=aBW ls
 have l0:(aW (nf 0)).length=40:=by rw[aI];exact cJ (by omega)
 have gz:=aZ (nf 0)
 sym =>
  simp[Za,Zb,Zf,Zh,Zl,Zm,Zu,ZJ,Yh,Xz,XL,Wh,Vw,V8,VC,VH,Uj,Uk,UL,UP,UQ,UX,UY,TE,rl]
  tactic =>
   rw[aIK]
   unfold aHY
   rw[bU ls.length (fun i=>[I (row:Int),.bp 0,lS i,.fs (rS ls),I (ls.length:Nat),I (i:Nat)]) (fun i=>lG ls row i)]
   ·have hn0:¬ls.length=0:=by omega
    have e0:((ls.length:Int)<(ls.length:Int))=False:=eq_false (by omega)
    have s0:lS ls.length = .sl 2 0 40 ls.length:=if_neg hn0
    have g0:lG ls row ls.length=[some (.blk false (.cells true [.pt 0 0,.sb 1 (Bn ls row ls.length).size])),some (.blk true (.cells true (gO (Bn ls row ls.length)))),some (.blk true (.cells true (aW (Cn ls ls.length))))]:=if_neg hn0
    have bz:=aAu ls row ls.length
    have lc:=pA (ls:=ls) (Nat.le_refl _)
    have c1:=aOG (C:=Cn ls ls.length) (n:=ls.length) (by omega) (aKo ls _) h1
    have l3:=dZ (C:=Cn ls ls.length) (n:=ls.length) (by omega) ls.length (Nat.le_refl _)
    have b3:=nH (C:=Cn ls ls.length) ls.length
    have c2:=w77 (row:=row+ls.length) l3 b3 (by omega)
    have zs:=uG (row:=row+ls.length) l3
    have nr:lF (cM (row+ls.length) (cU (Cn ls ls.length) ls.length))=wT (row+ls.length) (cU (Cn ls ls.length) ls.length):=rfl
    rw[nr]at c2
    rw[bJ]at c1 c2
    have c3:=aKD (s:=wT (row+ls.length) (cU (Cn ls ls.length) ls.length)) (a:=Bn ls row ls.length) (by omega) (by omega) (by omega)
    rw[zs]at c3
    have sz:(Bn ls row ls.length++wT (row+ls.length) (cU (Cn ls ls.length) ls.length)).size=(Bn ls row ls.length).size+45:=by rw[ByteArray.size_append,zs]
    have c4:=w71 (a:=Bn ls row ls.length++wT (row+ls.length) (cU (Cn ls ls.length) ls.length)) (by omega) (by omega)
    rw[sz]at c4
    have r1:IntKind.i64.wrap ((row:Int)+(ls.length:Int))=((row+ls.length:Nat):Int):=by rw[aL (by omega) (by omega)];omega
    have m1:=aI (cU (Cn ls ls.length) ls.length)
    rw[l3]at m1
    have k5:=dS l3
    have k6:=fM l3
    have g5:=aZ (cU (Cn ls ls.length) ls.length)
    have gc:=aZ (Cn ls ls.length)
    have fz:(ls.length*40≤(aW (Cn ls ls.length)).length)=True:=eq_true (by rw[aI,lc];exact Nat.le_refl _)
    have fl:=(aOu (C:=Cn ls ls.length) (n:=ls.length) (by omega)).1
    generalize Bn ls row ls.length++wT (row+ls.length) (cU (Cn ls ls.length) ls.length)=T at *
    generalize wT (row+ls.length) (cU (Cn ls ls.length) ls.length)=R at *
    generalize cU (Cn ls ls.length) ls.length=f at *
    generalize (Bn ls row ls.length).size=sz at *
    generalize Bn ls row ls.length=B0 at *
    generalize Cn ls ls.length=C0 at *
    (sym=>(simp[Za,Zb,Zf,Zg,Zh,Zj,Zl,Zm,Zu,Z0,ZJ,ZS,ZU,ZZ,Ya,Yh,Yo,Yt,YF,YH,YJ,YL,YN,YY,YZ,Xb,Xc,Xd,Xe,Xg,Xj,Xm,Xq,Xw,Xx,Xy,XI,XL,XZ,Wc,Wf,Wg,Wi,Wj,Wk,Wl,Wm,Wo,Wp,Wq,Wr,Ws,Wt,Wu,Wv,Ww,Wx,Wz,WB,WC,WE,WF,WG,WH,WK,WL,WM,WN,WO,WP,WV,WW,WX,Va,Vb,Vc,Vd,Ve,Vg,Vh,Vi,Vj,Vk,Vl,Vm,Vn,Vo,Vp,Vr,Vs,Vt,Vu,Vx,V0,V5,V9,VA,VB,VC,VD,VF,VG,VH,VI,VK,VM,VR,VS,VT,VV,VY,VZ,Ua,Ub,Uc,Ud,Ue,Uh,Ui,U5,UJ,UL,UM,UO,UQ,UR,UV,UX,UY,Tp,Tx,Ty,Tz,T7,T8,T9,TA,TB,TC,TD,TI,TJ,TK,TL,TN,TO,TP,TQ,TR,s0,g0,e0,fz,fl,c1,c2,c3,c4,r1,m1,k5,k6,g5,gc,zs,rl,bE,bC,bB,bH,pM,pK,pL];all_goals tactic=>exact rfl))
   ·have s0:lS 0 = .nilsl:=rfl
    have g0:lG ls row 0=[some (.blk true (.cells true [.nilpt,.nilsl]))]:=rfl
    (sym=>(simp[Za,Y5,YF,YL,YO,YZ,Xe,Xh,XZ,Wh,Wj,Wm,Wn,Wp,Wq,Wr,Wt,Wv,Ww,Wx,Wy,WF,WG,WK,Vw,Vy,Vz,V9,VA,VC,VD,VF,VI,VT,VZ,Ua,Ub,Uc,UW,Tq,TN,TO,s0,g0,rl];all_goals tactic=>exact rfl))
   ·intro i hi
    have i1:((i:Int)<(ls.length:Int))=True:=eq_true (by omega)
    have a2:=gJ hi (by omega)
    obtain⟨s,hs⟩:=iA hi
    have hx:=aCV hs
    have i2:(i<(rS ls).length)=True:=eq_true (by omega)
    have c1:=w44 s
    rw[bJ]at c1
    have lf:=qL s
    have c2:=w77 (row:=row+i) lf (aAd s) (by omega)
    rw[bJ]at c2
    have r1:IntKind.i64.wrap ((row:Int)+(i:Int))=((row+i:Nat):Int):=by rw[aL (by omega) (by omega)];omega
    have m1:=aI (sG s)
    rw[lf]at m1
    have k5:=dS lf
    have k6:=fM lf
    have g5:=aZ (sG s)
    have c8:=fB (a:=nf 0) (b:=sG s) (by rw[lf];exact cJ (by omega))
    have zs:=uG (row:=row+i) lf
    have nl:cR (bN s)=sG s:=rfl
    have nr:lF (cM (row+i) (sG s))=wT (row+i) (sG s):=rfl
    rw[nl]at c1
    rw[nr]at c2
    by_cases hi0:i=0
    ·subst hi0
     have s0:lS 0 = .nilsl:=rfl
     have g0:lG ls row 0=[some (.blk true (.cells true [.nilpt,.nilsl]))]:=rfl
     have cn:=aKn hs
     have cn0:Cn ls 0=[]:=rfl
     rw[cn0,List.nil_append]at cn
     have bn:=aKp (row:=row) hs
     have bn0:Bn ls row 0=⟨⟨[]⟩⟩:=rfl
     rw[bn0,aHM]at bn
     rw[Nat.add_zero]at c2 zs
     have bn:Bn ls row (0+1)=wT row (sG s):=bn
     have c3:=aOF (s:=wT row (sG s)) (by omega) (by omega)
     rw[zs]at c3
     have s1:lS (0+1) = .sl 2 0 40 1:=rfl
     have g1:lG ls row (0+1)=[some (.blk false (.cells true [.pt 0 0,.sb 1 (Bn ls row (0+1)).size])),some (.blk true (.cells true (gO (Bn ls row (0+1))))),some (.blk true (.cells true (aW (Cn ls (0+1)))))]:=rfl
     rw[s1,g1,cn,bn,zs]
     have j1:((0:Int)<(ls.length:Int))=True:=eq_true (by omega)
     have j2:(0<(rS ls).length)=True:=eq_true (by omega)
     have j3:IntKind.i64.wrap ((row:Int)+0)=(row:Int):=by rw[Int.add_zero];exact aL (by omega) (by omega)
     have j4:(0<ls.length)=True:=eq_true (by omega)
     generalize hR:wT row (sG s)=R at *
     generalize sG s=f at *
     (sym=>(simp[Za,Zb,Zd,Ze,Zf,Zg,Zh,Zj,Zl,Zm,Zo,Zu,Zy,Z0,ZD,ZL,ZS,ZU,ZY,ZZ,Ya,Yk,Yl,Ym,Yo,Yt,Y2,Y4,Y5,Y7,YF,YH,YJ,YL,YM,YN,YX,YZ,Xb,Xc,Xd,Xe,Xf,Xg,Xj,Xm,XI,XX,XZ,Wa,Wb,Wc,Wf,Wg,Wi,Wj,Wk,Wl,Wm,Wn,Wo,Wp,Wq,Wr,Ws,Wt,Wu,Wv,Ww,Wx,Wy,Wz,WB,WC,WF,WG,WH,WK,WL,WM,WN,WO,WP,Va,Vc,Vd,Ve,Vx,Vy,Vz,V0,V4,V9,VA,VB,VC,VD,VF,VG,VH,VI,VK,VR,VS,VT,VU,VW,VX,VY,VZ,Ua,Ub,Uc,Um,Un,Uo,Uv,Uw,Ux,Uy,Uz,U0,U1,U2,U6,U7,U8,U9,UA,UB,UE,UG,UH,UI,UJ,UL,UN,UP,UQ,UT,UW,UX,UY,Tq,Tt,Tx,T7,T8,T9,TA,TB,TC,TD,TI,TK,TN,TO,TP,TR,s0,g0,j1,j2,j3,j4,hx,c1,c2,c3,m1,k5,k6,g5,c8,zs,rl,l0,gz,bE,bC,bB,bH,pM,pK,pL];all_goals tactic=>exact rfl))
    ·have s0:lS i = .sl 2 0 40 i:=if_neg hi0
     have g0:lG ls row i=[some (.blk false (.cells true [.pt 0 0,.sb 1 (Bn ls row i).size])),some (.blk true (.cells true (gO (Bn ls row i)))),some (.blk true (.cells true (aW (Cn ls i))))]:=if_neg hi0
     have s1:lS (i+1) = .sl 2 0 40 (i+1):=if_neg (by omega)
     have g1:lG ls row (i+1)=[some (.blk false (.cells true [.pt 0 0,.sb 1 (Bn ls row (i+1)).size])),some (.blk true (.cells true (gO (Bn ls row (i+1))))),some (.blk true (.cells true (aW (Cn ls (i+1)))))]:=if_neg (by omega)
     have bn:=aKp (row:=row) hs
     have bz:=aAu ls row i
     have bs1:(Bn ls row (i+1)).size=(Bn ls row i).size+45:=by rw[bn,ByteArray.size_append,zs]
     have ap:=aEM (Cn ls i) (sG s)
     rw[←aKn hs]at ap
     have ca:=aOC hs
     have lc:=aI (Cn ls i)
     rw[pA (by omega)]at lc
     have lc1:=aI (Cn ls (i+1))
     rw[pA (by omega)]at lc1
     have gc:=aZ (Cn ls i)
     have gc1:=aZ (Cn ls (i+1))
     have c3:=aKD (s:=wT (row+i) (sG s)) (a:=Bn ls row i) (by omega) (by omega) (by omega)
     rw[zs,←bn]at c3
     rw[s1,g1,bs1]
     have z2:((i+1)*40≤1099511627776)=True:=eq_true (by omega)
     have z3:(i+1≤1099511627776)=True:=eq_true (by omega)
     have z4:((i:Int)<((i+1:Nat):Int))=True:=eq_true (by omega)
     have z5:(i*40+40≤(i+1)*40)=True:=eq_true (by omega)
     generalize (Bn ls row i).size=sz at *
     generalize Bn ls row (i+1)=B1 at *
     generalize Bn ls row i=B0 at *
     generalize Cn ls (i+1)=C1 at *
     generalize Cn ls i=C0 at *
     generalize wT (row+i) (sG s)=R at *
     generalize sG s=f at *
     (sym=>(simp[Za,Zb,Zd,Ze,Zf,Zg,Zh,Zj,Zl,Zm,Zo,Zu,Zy,Z0,ZD,ZL,ZS,ZU,ZY,ZZ,Ya,Yk,Yl,Ym,Yo,Yt,Yx,Yy,YF,YH,YJ,YL,YM,YN,YX,YZ,Xb,Xc,Xd,Xe,Xf,Xg,Xj,Xm,XI,XX,XZ,Wa,Wb,Wc,Wf,Wg,Wi,Wj,Wk,Wl,Wm,Wn,Wo,Wp,Wq,Wr,Ws,Wt,Wu,Wv,Ww,Wx,Wy,Wz,WB,WC,WE,WF,WG,WH,WK,WL,WM,WN,WO,WP,Va,Vc,Vd,Ve,Vx,Vy,Vz,V0,V4,V9,VA,VB,VC,VD,VF,VG,VH,VI,VK,VR,VS,VT,VU,VW,VX,VY,VZ,Ua,Ub,Uc,Um,Un,Uo,Uv,Uw,Ux,Uy,Uz,U0,U1,U3,U4,U6,U7,U8,U9,UA,UB,UE,UF,UG,UH,UJ,UL,UN,UP,UQ,UT,UW,UX,UY,Tp,Tq,Tt,Tx,T7,T8,T9,TA,TB,TC,TD,TI,TK,TN,TO,TP,TR,s0,g0,i1,i2,a2,hx,c1,c2,c3,r1,m1,k5,k6,g5,c8,zs,rl,l0,gz,ap,ca,lc,lc1,gc,gc1,z2,z3,z4,z5,bE,bC,bB,bH,pM,pK,pL];all_goals tactic=>exact rfl))
   ·have e0:((ls.length:Int)<(ls.length:Int))=False:=eq_false (by omega)
    (sym=>(simp[Za,Zb,Zf,Zh,Zl,Zm,Z0,Yt,Vx,V0,V5,V6,VV,U5,UJ,UL,UO,UQ,UR,UX,e0];all_goals tactic=>exact rfl))
theorem q35 {vs:List AV} {h:XH} (hl:vs.length≤15):runW aN 35 vs h=eG none x35.res x35.ownR h.length (execW aN 35 h.length none x35.body (aY (if x35.ownA then vs else iF vs)) h):=dB rfl hl h rfl
theorem q14 {vs:List AV} {h:XH} (hl:vs.length≤45):runW aN 14 vs h=eG none x14.res x14.ownR h.length (execW aN 14 h.length none x14.body (aY (if x14.ownA then vs else iF vs)) h):=dB rfl hl h rfl
theorem p37 {xs:List AV} {h:XH}:runW aN 37 xs h=lZ xs h:=fC rfl rfl xs h
def iV (f:Nat→Int):Nat→Int
 | 0=>0
 | n+1=>if iV f n=0 then f n else iV f n
theorem yT (f:Nat→Int):∀ n,∃ m,m≤n∧(∀ i,i<m→f i=0)∧((m=n∧iV f n=0)∨(m<n∧f m≠0∧iV f n=f m))
 | 0=>⟨0,Nat.le_refl _,fun i hi=>absurd hi (by omega),.inl ⟨rfl,rfl⟩⟩
 | n+1=>by
   obtain⟨m,h1,h2,h3⟩:=yT f n
   rcases h3 with ⟨rfl,h3⟩|⟨h4,h5,h6⟩
   ·by_cases hf:f m=0
    ·refine⟨m+1,Nat.le_refl _,fun i hi=>?_,.inl ⟨rfl,by rw[iV,if_pos h3,hf]⟩⟩
     by_cases him:i=m
     ·subst him;exact hf
     ·exact h2 i (by omega)
    ·exact⟨m,by omega,h2,.inr ⟨by omega,hf,by rw[iV,if_pos h3]⟩⟩
   ·exact⟨m,by omega,h2,.inr ⟨by omega,h5,by rw[iV,if_neg (by rw[h6];exact h5),h6]⟩⟩
theorem w35 (lo n hi:Int):runW aN 35 [I lo,I n,I hi] []=some (.bool (decide (lo≤n)&&decide (n≤hi)),[]):=by
 rw[q35 (by simp)];unfold x35;dsimp only
 rcases wW (lo≤n)with h1|h1
 ·have d1:decide (lo≤n)=true:=by simp[h1]
  (sym=>(simp[Za,Zb,Zf,Zh,Zl,Zm,Zp,Zq,Zu,Zw,Z0,Yb,Yu,YG,Xa,Xl,Xz,X0,Wh,Wp,Wt,Wu,Ww,Wx,Va,Vj,Vk,Vl,Vm,Vn,Vo,Vp,Vr,Vs,Vt,Vu,Vw,V8,VA,VD,VF,VH,VJ,VU,VY,VZ,Ua,Uj,Uk,UJ,UL,UM,UQ,UX,UY,Tx,h1,d1];all_goals tactic=>exact rfl))
 ·have d1:decide (lo≤n)=false:=by simp[h1]
  (sym=>(simp[Za,Zb,Zf,Zh,Zl,Zm,Zp,Zs,Zu,Zw,Z0,Yc,Yu,YG,Xa,Xl,Xz,X0,Wh,Wp,Wt,Wu,Ww,Wx,Va,Vj,Vk,Vl,Vm,Vn,Vo,Vp,Vr,Vs,Vt,Vu,Vw,V8,VA,VD,VF,VH,VL,VV,VY,VZ,Ua,Uj,Uk,UJ,UL,UM,UQ,UX,UY,Tx,h1,d1];all_goals tactic=>exact rfl))
def yJ (s:ByteArray):Int:=if 40<s.size then 14 else if s.size=0||(iQ s.data.toList||Lib.hasSuffix s.data.toList [32]) then 13 else 0
def emB:ByteArray:=⟨#[]⟩
def lsE (ls:List ByteArray):Int:=iV (fun i=>yJ (ls.getD i emB)) ls.length
def pgE (ls:List ByteArray) (row:Int):Int:=if (decide (0≤row)&&decide (row≤1000))=true then (if ls.length=0 then 4 else if 5<ls.length then 1 else lsE ls) else 2
def cW (ls:List ByteArray) (row:Nat):ByteArray:=Bn ls row ls.length++wT (row+ls.length) (cU (Cn ls ls.length) ls.length)
theorem xG (s:ByteArray):s.toList=s.data.toList:=ByteArray.toList_eq s
theorem aCs (s:ByteArray):(s.toList==(⟨#[]⟩:ByteArray).toList)=decide (s.size=0):=by
 rw[xG,xG]
 cases s with
 | mk d =>
   cases d with
   | mk l=>cases l<;>rfl
theorem aJt {s:ByteArray} (hs:s.size≤1000000):runW aN 37 [.str s,.str ⟨#[32]⟩] []=some (.bool (Lib.hasSuffix s.data.toList [32]),[]):=by
 rw[p37];unfold lZ;dsimp only;rw[if_pos hs]
theorem aFP {s:ByteArray} (h:40<s.size):yJ s=14:=by rw[yJ,if_pos h]
theorem w14 {ls:List ByteArray} {row:Int} (hn:ls.length≤1000) (hz:∀ s∈ls,s.size≤1000000):runW aN 14 [.fs (rS ls),I row] []=some (.tup [.str (if pgE ls row=0 then cW ls row.toNat else emB),I (pgE ls row)],[]):=by
 rw[q14 (by simp)];unfold x14;dsimp only
 have rl:=aBW ls
 have c1:=w35 0 row 1000
 unfold pgE
 cases hb:decide (0≤row)&&decide (row≤1000)with
 | false =>
   rw[hb]at c1
   have hE:emB=⟨#[]⟩:=rfl
   (sym=>(simp[Za,Zb,Zf,Zg,Zh,Zj,Zl,Zm,Zu,Z8,ZS,ZU,ZZ,Ya,Ye,YF,YH,YK,YZ,Xa,Xb,Xd,Xk,Xm,Xo,Xz,XI,XK,XL,Wg,Wh,Wp,Ws,Wt,Wu,Ww,Wx,Wz,WB,WM,WN,WO,Va,Vc,Vd,Ve,Vj,Vk,Vl,Vm,Vn,Vo,Vq,Vr,Vs,Vt,Vu,Vw,V0,V4,V8,V9,VA,VC,VD,VF,VH,VO,VY,VZ,Ua,Ub,Uc,Uf,Ug,Uj,Uk,UL,UM,UP,UQ,US,UU,UX,UY,Tx,T8,T9,TA,TB,TC,TD,c1,hE];all_goals tactic=>exact rfl))
 | true =>
   rw[hb]at c1
   rcases wW (ls.length=0)with h0|h0
   ·have h0':=of_eq_true h0
    have z0:((ls.length:Int)=0)=True:=eq_true (by omega)
    have hE:emB=⟨#[]⟩:=rfl
    (sym=>(simp[Za,Zb,Zf,Zg,Zh,Zj,Zl,Zm,Zu,Z0,Z8,ZJ,ZS,ZU,ZZ,Ya,Ye,Yh,Yr,YF,YH,YK,YZ,Xa,Xb,Xd,Xk,Xm,Xo,Xz,XI,XK,XL,Wg,Wh,Wp,Ws,Wt,Wu,Ww,Wx,Wz,WB,WM,WN,WO,Va,Vc,Vd,Ve,Vj,Vk,Vl,Vm,Vn,Vo,Vq,Vr,Vs,Vt,Vu,Vw,V0,V4,V5,V8,V9,VA,VC,VD,VF,VH,VN,VU,VY,VZ,Ua,Ub,Uc,Uf,Ug,Uj,Uk,UJ,UL,UM,UP,UQ,US,UU,UX,UY,Tx,T8,T9,TA,TB,TC,TD,c1,rl,h0,z0,hE];all_goals tactic=>exact rfl))
   ·have h0':=of_eq_false h0
    have z0:((ls.length:Int)=0)=False:=eq_false (by omega)
    rcases wW (5<ls.length)with h5|h5
    ·have h5':=of_eq_true h5
     have z5:((5:Int)<(ls.length:Int))=True:=eq_true (by omega)
     have hE:emB=⟨#[]⟩:=rfl
     (sym=>(simp[Za,Zb,Zf,Zg,Zh,Zj,Zl,Zm,Zu,Z0,Z8,ZJ,ZS,ZU,ZZ,Ya,Ye,Yh,Yr,Yv,YF,YH,YK,YZ,Xa,Xb,Xd,Xk,Xm,Xo,Xz,XI,XK,XL,Wg,Wh,Wp,Ws,Wt,Wu,Ww,Wx,Wz,WB,WM,WN,WO,Va,Vc,Vd,Ve,Vj,Vk,Vl,Vm,Vn,Vo,Vq,Vr,Vs,Vt,Vu,Vw,V0,V4,V5,V8,V9,VA,VC,VD,VF,VH,VN,VU,VV,VY,VZ,Ua,Ub,Uc,Uf,Ug,Uj,Uk,UJ,UL,UM,UP,UQ,US,UU,UX,UY,Tx,T8,T9,TA,TB,TC,TD,c1,rl,h0,z0,h5,z5,hE];all_goals tactic=>exact rfl))
    ·have h5':=of_eq_false h5
     have z5:((5:Int)<(ls.length:Int))=False:=eq_false (by omega)
     unfold lsE
     obtain⟨m,m1,m2,m3⟩:=yT (fun i=>yJ (ls.getD i emB)) ls.length
     have e0:((ls.length:Int)<(ls.length:Int))=False:=eq_false (by omega)
     simp only[Bool.and_eq_true,decide_eq_true_eq]at hb
     obtain⟨R,hR⟩:∃ R:Nat,row=(R:Int):=⟨row.toNat,by omega⟩
     have hR1:row.toNat=R:=by omega
     rw[hR1]
     subst hR
     have w:=w38 (ls:=ls) (row:=R) (by omega) (by omega) (by omega)
     have hE:emB=⟨#[]⟩:=rfl
     have hP:Bn ls R ls.length++wT (R+ls.length) (cU (Cn ls ls.length) ls.length)=cW ls R:=rfl
     rw[hP]at w
     generalize cW ls R=P at *
     sym =>
      simp[Za,Zb,Zf,Zg,Zh,Zj,Zl,Zm,Zu,Z0,Z8,ZJ,ZS,ZU,ZZ,Ya,Ye,Yh,Yr,Yv,YF,YZ,Xa,Xk,Xz,XL,Wg,Wh,Wp,Ws,Wu,Wz,WB,WM,WN,WO,Va,Vc,Vd,Ve,Vw,V0,V5,V8,V9,VA,VC,VD,VH,VN,VV,VY,VZ,Ua,Ub,Uc,Uj,Uk,UJ,UL,UN,UP,UQ,UT,UX,UY,Tx,T8,T9,TA,TB,TC,TD,c1,rl,h0,z0,h5,z5]
      tactic =>
       unfold aIi
       rw[bU m (fun i=>[.fs (rS ls),I (R:Int),.fs (rS ls),I (ls.length:Nat),I (i:Nat)]) (fun _=>[])]
       ·rcases m3 with ⟨rfl,hf⟩|⟨hm,hf,hF⟩
        ·rw[hf]
         (sym=>(simp[Za,Zb,Zf,Zg,Zh,Zj,Zl,Zm,Zu,Z0,ZS,ZU,ZZ,Ya,Yt,YF,YH,YK,YL,YZ,Xb,Xd,Xe,Xk,Xm,Xo,Xp,Xz,XI,XK,XL,Wg,Wp,Ws,Wt,Wu,Ww,Wx,Wz,WB,WM,WN,WO,Va,Vc,Vd,Ve,Vj,Vk,Vl,Vm,Vn,Vo,Vq,Vr,Vs,Vt,Vu,Vx,V0,V5,V9,VA,VC,VD,VF,VH,VV,VY,VZ,Ua,Ub,Uc,Uf,Ug,Uj,Uk,U5,UJ,UL,UM,UO,UQ,UR,UV,UX,UY,Tx,T8,T9,TA,TB,TC,TD,e0,w];all_goals tactic=>exact rfl))
        ·rw[hF]
         obtain⟨s,hs⟩:=iA hm
         have hx:=aCV hs
         have g1:ls.getD m emB=s:=by rw[List.getD_eq_getElem?_getD,hs];rfl
         rw[g1]at hf ⊢
         have i1:((m:Int)<(ls.length:Int))=True:=eq_true (by omega)
         have i2:(m<(rS ls).length)=True:=eq_true (by omega)
         have c2:=w36 s
         have c3:=aJt (hz s (List.mem_of_getElem? hs))
         have em:=aCs s
         have eq1:=pN s ⟨#[]⟩
         rw[em]at eq1
         rcases wW (40<s.size)with k1|k1
         ·have k2:((40:Int)<(s.size:Int))=True:=eq_true (by have:=of_eq_true k1;omega)
          rw[aFP (of_eq_true k1)]
          (sym=>(simp[Za,Zb,Zf,Zh,Zl,Zm,Zu,Z0,ZD,ZJ,ZL,Yj,Yl,Ym,Yt,Yv,Yx,Yy,YF,YH,YK,YZ,Xb,Xd,Xk,Xm,Xo,Xz,XI,XK,Wi,Wp,Wt,Wu,Ww,Wx,Va,Vj,Vk,Vl,Vm,Vn,Vo,Vq,Vr,Vs,Vt,Vu,Vx,V0,V4,VA,VD,VF,VG,VH,VR,VU,VY,VZ,Ua,Ub,Uc,Uf,Ug,Uj,Uk,U8,U9,UB,UJ,UL,UM,UN,UP,UQ,US,UU,UX,UY,Tx,rl,i1,i2,hx,k2,hE];all_goals tactic=>exact rfl))
         ·have k2:((40:Int)<(s.size:Int))=False:=eq_false (by have:=of_eq_false k1;omega)
          have hL:yJ s=13:=by
           unfold yJ at hf ⊢
           rw[if_neg (of_eq_false k1)]at hf ⊢
           split
           ·rfl
           ·rename_i hc;rw[if_neg hc]at hf;exact absurd rfl hf
          unfold yJ at hf
          rw[if_neg (of_eq_false k1)]at hf
          rw[hL]
          cases hz:decide (s.size=0)with
          | true =>
            rw[hz]at eq1
            (sym=>(simp[Za,Zb,Zf,Zh,Zl,Zm,Zp,Zt,Zu,Zw,Z0,ZD,ZJ,ZL,Yb,Yj,Yl,Ym,Yt,Yv,Yx,Yy,YF,YH,YK,YZ,Xb,Xd,Xk,Xm,Xo,Xz,XI,XK,Wi,Wp,Wt,Wu,Ww,Wx,Va,Vj,Vk,Vl,Vm,Vn,Vo,Vq,Vr,Vs,Vt,Vu,Vx,V0,V4,V5,VA,VD,VF,VG,VH,VR,VU,VV,VY,VZ,Ua,Ub,Uc,Uf,Ug,Uj,Uk,U8,U9,UB,UJ,UK,UL,UM,UN,UP,UQ,US,UU,UX,UY,Tx,rl,i1,i2,hx,k2,hE,eq1];all_goals tactic=>exact rfl))
          | false =>
            rw[hz]at eq1
            cases hu:iQ s.data.toList with
            | true =>
              rw[hu]at c2
              (sym=>(simp[Za,Zb,Zf,Zh,Zl,Zm,Zp,Zr,Zt,Zu,Zw,Z0,ZD,ZJ,ZL,ZS,ZU,ZZ,Ya,Yb,Yc,Yj,Yl,Ym,Yt,Yv,Yx,Yy,YF,YH,YK,YZ,Xa,Xb,Xd,Xk,Xm,Xo,Xz,XI,XK,Wg,Wi,Wp,Ws,Wt,Wu,Ww,Wx,Wz,WB,WM,WN,WO,Va,Vj,Vk,Vl,Vm,Vn,Vo,Vq,Vr,Vs,Vt,Vu,Vx,V0,V4,V5,V9,VA,VC,VD,VF,VG,VH,VR,VU,VV,VY,VZ,Ua,Ub,Uc,Uf,Ug,Uj,Uk,U8,U9,UB,UJ,UK,UL,UM,UN,UP,UQ,US,UU,UX,UY,Tx,rl,i1,i2,hx,k2,hE,eq1,c2];all_goals tactic=>exact rfl))
            | false =>
              rw[hu]at c2
              cases hh:Lib.hasSuffix s.data.toList [32]with
              | true =>
                rw[hh]at c3
                (sym=>(simp[Za,Zb,Zf,Zh,Zl,Zm,Zp,Zr,Zu,Zw,Z0,ZD,ZJ,ZL,ZS,ZU,ZZ,Ya,Yc,Yj,Yl,Ym,Yt,Yv,Yx,Yy,YF,YH,YK,YZ,Xa,Xb,Xd,Xk,Xm,Xo,Xz,XI,XK,Wg,Wi,Wp,Ws,Wt,Wu,Ww,Wx,Wz,WB,WM,WN,WO,Va,Vj,Vk,Vl,Vm,Vn,Vo,Vq,Vr,Vs,Vt,Vu,Vx,V0,V4,V5,V9,VA,VC,VD,VF,VG,VH,VR,VU,VV,VY,VZ,Ua,Ub,Uc,Uf,Ug,Uj,Uk,U8,U9,UB,UJ,UK,UL,UM,UN,UP,UQ,US,UU,UX,UY,Tx,rl,i1,i2,hx,k2,hE,eq1,c2,c3];all_goals tactic=>exact rfl))
              | false =>
                rw[hz,hu,hh]at hf
                exact absurd rfl hf
       ·(sym=>(simp[Za,Y5,YF,YL,YZ,Xe,Xz,Wh,Wp,Wt,Wu,Ww,Wx,Vw,Vy,Vz,V9,VA,VD,VF,VY,VZ,Ua,Ub,Uc,UW,T9,TA,rl];all_goals tactic=>exact rfl))
       ·intro i hi
        obtain⟨s,hs⟩:=iA (l:=ls) (i:=i) (by omega)
        have hx:=aCV hs
        have g1:ls.getD i emB=s:=by rw[List.getD_eq_getElem?_getD,hs];rfl
        have hf:=m2 i hi
        rw[g1]at hf
        have i1:((i:Int)<(ls.length:Int))=True:=eq_true (by omega)
        have a2:=gJ (n:=ls.length) (i:=i) (by omega) (by omega)
        have i2:(i<(rS ls).length)=True:=eq_true (by omega)
        have c2:=w36 s
        have c3:=aJt (hz s (List.mem_of_getElem? hs))
        have em:=aCs s
        have eq1:=pN s ⟨#[]⟩
        rw[em]at eq1
        unfold yJ at hf
        split at hf
        ·exact absurd hf (by decide)
        ·rename_i k1
         have k2:((40:Int)<(s.size:Int))=False:=eq_false (by omega)
         split at hf
         ·exact absurd hf (by decide)
         ·rename_i hc
          simp only[Bool.or_eq_true,not_or,Bool.not_eq_true]at hc
          obtain⟨hz,hu,hh⟩:=hc
          rw[hz]at eq1
          rw[hu]at c2
          rw[hh]at c3
          (sym=>(simp[Za,Zb,Zf,Zh,Zl,Zm,Zp,Zr,Zu,Zw,Z0,ZD,ZJ,ZL,ZS,ZU,ZZ,Ya,Yc,Yj,Yl,Ym,Yo,Yt,Yv,Yx,Yy,YF,YH,YL,YZ,Xa,Xb,Xe,Wg,Wi,Wp,Ws,Wt,Wu,Ww,Wx,Wz,WB,WM,WN,WO,Vx,Vy,Vz,V0,V4,V5,V9,VA,VC,VD,VF,VG,VH,VR,VU,VV,VY,VZ,Ua,Ub,Uc,U8,U9,UB,UJ,UK,UL,UN,UP,UQ,UT,UW,UX,UY,rl,i1,i2,a2,hx,k2,eq1,c2,c3];all_goals tactic=>exact rfl))
       ·rcases m3 with ⟨rfl,hf⟩|⟨hm,hf,hF⟩
        ·(sym=>(simp[Za,Zb,Zf,Zh,Zl,Zm,Z0,Yt,Vx,V0,V5,V6,VV,U5,UJ,UL,UO,UQ,UR,UX,e0];all_goals tactic=>exact rfl))
        ·obtain⟨s,hs⟩:=iA hm
         have hx:=aCV hs
         have g1:ls.getD m emB=s:=by rw[List.getD_eq_getElem?_getD,hs];rfl
         rw[g1]at hf
         have i1:((m:Int)<(ls.length:Int))=True:=eq_true (by omega)
         have i2:(m<(rS ls).length)=True:=eq_true (by omega)
         have c2:=w36 s
         have c3:=aJt (hz s (List.mem_of_getElem? hs))
         have em:=aCs s
         have eq1:=pN s ⟨#[]⟩
         rw[em]at eq1
         rcases wW (40<s.size)with k1|k1
         ·have k2:((40:Int)<(s.size:Int))=True:=eq_true (by have:=of_eq_true k1;omega)
          (sym=>(simp[Za,Zb,Zf,Zh,Zl,Zm,Zu,Z0,ZD,ZJ,ZL,Yj,Yl,Ym,Yt,Yv,Yx,Yy,Wi,Vx,V0,V4,V7,VG,VH,VR,VU,U8,U9,UB,UJ,UL,UM,UN,UP,UQ,US,UU,UX,UY,rl,i1,i2,hx,k2,hE];all_goals tactic=>exact rfl))
         ·have k2:((40:Int)<(s.size:Int))=False:=eq_false (by have:=of_eq_false k1;omega)
          unfold yJ at hf
          rw[if_neg (of_eq_false k1)]at hf
          cases hz:decide (s.size=0)with
          | true =>
            rw[hz]at eq1
            (sym=>(simp[Za,Zb,Zf,Zh,Zl,Zm,Zp,Zt,Zu,Zw,Z0,ZD,ZJ,ZL,Yb,Yj,Yl,Ym,Yt,Yv,Yx,Yy,Wi,Vx,V0,V4,V5,V7,VG,VH,VR,VU,VV,U8,U9,UB,UJ,UK,UL,UM,UN,UP,UQ,US,UU,UX,UY,rl,i1,i2,hx,k2,hE,eq1];all_goals tactic=>exact rfl))
          | false =>
            rw[hz]at eq1
            cases hu:iQ s.data.toList with
            | true =>
              rw[hu]at c2
              (sym=>(simp[Za,Zb,Zf,Zh,Zl,Zm,Zp,Zr,Zt,Zu,Zw,Z0,ZD,ZJ,ZL,ZS,ZU,ZZ,Ya,Yb,Yc,Yj,Yl,Ym,Yt,Yv,Yx,Yy,YH,Xa,Xb,Wg,Wi,Wp,Ws,Wu,Wz,WB,WM,WN,WO,Vx,V0,V4,V5,V7,V9,VA,VC,VD,VG,VH,VR,VU,VV,VY,VZ,Ua,Ub,Uc,U8,U9,UB,UJ,UK,UL,UM,UN,UP,UQ,US,UU,UX,UY,rl,i1,i2,hx,k2,hE,eq1,c2];all_goals tactic=>exact rfl))
            | false =>
              rw[hu]at c2
              cases hh:Lib.hasSuffix s.data.toList [32]with
              | true =>
                rw[hh]at c3
                (sym=>(simp[Za,Zb,Zf,Zh,Zl,Zm,Zp,Zr,Zu,Zw,Z0,ZD,ZJ,ZL,ZS,ZU,ZZ,Ya,Yc,Yj,Yl,Ym,Yt,Yv,Yx,Yy,YH,Xa,Xb,Wg,Wi,Wp,Ws,Wu,Wz,WB,WM,WN,WO,Vx,V0,V4,V5,V7,V9,VA,VC,VD,VG,VH,VR,VU,VV,VY,VZ,Ua,Ub,Uc,U8,U9,UB,UJ,UK,UL,UM,UN,UP,UQ,US,UU,UX,UY,rl,i1,i2,hx,k2,hE,eq1,c2,c3];all_goals tactic=>exact rfl))
              | false =>
                rw[hz,hu,hh]at hf
                exact absurd rfl hf
end Go.Proofs.YtmapgnepfgnphaaGreatDoor
