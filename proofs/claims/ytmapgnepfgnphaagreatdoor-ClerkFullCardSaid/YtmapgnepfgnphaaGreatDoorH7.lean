/- Parts of a proof, joined: GT SH Z1 Z2 Z3 Z5 Z6 Y0 Y1 Z4 W1 W2 W3 W4 W5 W6 W7 W8 W9 W10 WA V1 V2 V3 WY WZ Z7 PF F0 K1 K2 RTX K3 K4 K5 K6 K7 K8 K9 K10 K11 K12 P1 P2 P3 P4 P5 P6 K13 LB. No statement of the seed is proved here. -/
import Derived.Shelf.Strings.Builder1
import Derived.Shelf.Strings.Builder2
import Derived.Shelf.Strings.OnBuilder
import Derived.Shelf.Strings.Trim
import Derived.Shelf.Small.Utf8
import Derived.Shelf.Small.Strs
import Derived.Shelf.Small.Wraps
import Derived.Shelf.Strings.BuilderF
import Derived.Shelf.Strings.BuilderK
import Derived.Shelf.Strconv.Atoi
import Derived.Shelf.Strconv.Itoa0
import Derived.Shelf.Strconv.Itoa1
import Derived.Shelf.LaysM
import Derived.Shelf.Strconv.Itoa2
import Derived.Shelf.Strconv.Itoa3
import Derived.Shelf.Strconv.AtoiErrFast
import Derived.Shelf.Strconv.ParseIntEmpty
import Derived.Shelf.Strconv.AtoiFail
import Derived.Shelf.Strconv.Clone
import Derived.Shelf.Strconv.SyntaxError
import Derived.Shelf.LaysC
import Derived.Shelf.Strconv.ToError
import Derived.Shelf.Strconv.Lower
import Derived.Shelf.Strconv.ParseUint10
import Derived.Shelf.Strconv.ParseUint10Empty
import Derived.Shelf.Strconv.ParseUint10Any
import Derived.Shelf.Strconv.ParseInt10
import Derived.Shelf.Strconv.AtoiLong
import Derived.Shelf.Strconv.AtoiInnerAll
import Derived.Shelf.Strconv.RangeError
import Derived.Shelf.Strconv.ToErrorRange
import Derived.Shelf.Strconv.AtoiAll
import Derived.Shelf.Strings.Search1
import Derived.Shelf.Strings.Search2
import Derived.Shelf.Strings.Search3
import Derived.Shelf.Strings.Count
import Derived.Shelf.Strings.Shaped
import Derived.Shelf.GgClosure.StringsIndexFunc
import Derived.Ground.GgwProg
import Derived.Shelf.GgClosure.StringsIndexFuncTop
import Derived.Shelf.GgClosure.StringsRunes
import Derived.Shelf.Strings.Prefix
import Derived.Shelf.Strings.Split
import Derived.Shelf.Strings.SplitShaped
import Derived.Shelf.Unicode.Decode
import Derived.Shelf.Strings.Runes
import Derived.Shelf.Strings.RuneCount
import Derived.Shelf.Strings.AsciiSet
import Derived.Shelf.Strings.Explode
import Derived.Shelf.Bits.Mul64
import Derived.Shelf.Strings.Repeat
import Derived.Shelf.Unicode.DecodeSlow
import Derived.Shelf.Unicode.DecodeAny
import Derived.Shelf.Unicode.DecodeLast
import Derived.Shelf.Strings.FuncGrows
import Derived.Shelf.Slices.Turned
import Derived.Test.YtmapgnepfgnphaaGreatDoorProg
import Derived.KernelRfl
import Derived.Lib.AtoiAllCases
import Derived.Test.YtmapgnepfgnphaaGreatDoorH6
set_option linter.unusedSimpArgs false
set_option linter.unusedVariables false
set_option linter.unusedSectionVars false
namespace Go.Proofs.YtmapgnepfgnphaaGreatDoor
open Go Go.DL Go.Proofs.Tryz

def aQL:List (Nat×XFn):=[(6,x6),(13,sN),(14,vK),(16,x16),(18,x18),(19,x19),(23,x23),(25,x25),(31,x31),(34,x34),(35,x35),(36,x36),(38,x38),(42,x42),(43,x43),(44,x44),(45,x45),(46,x46),(52,x52),(53,x53),(54,x54),(55,x55),(58,x58),(59,x59),(60,x60),(61,x61),(62,x62),(69,x69),(70,x70),(73,x73),(75,x75),(77,x77),(84,x84),(85,x85),(86,x86),(87,x87),(88,x88),(89,x89),(90,x90),(91,x91),(92,x92),(93,x93),(94,x94),(95,x95),(96,x96),(97,x97),(98,x98),(116,aGH),(119,x119),(126,aQz),(127,aQy),(128,aQx),(129,aQw),(130,aQv),(131,aQu),(132,aQt),(133,aQs),(134,aCC),(135,aGG),(136,aCB),(137,aQr),(154,aQp),(155,aQo),(156,aQn),(157,aQm),(158,aQl),(159,aQk),(160,aQj),(175,aQg),(179,aQf),(180,aQe),(181,aQd),(182,aQc),(183,aQb),(184,aQa),(185,aPZ),(186,aPY),(197,aPW),(198,aPV),(201,aPU),(202,aPT),(203,aPS),(204,aPR),(205,aPQ),(206,aPP),(207,aPO),(211,aPN),(212,aPM),(213,aPL),(215,aPK),(234,aPJ),(235,aPI),(236,aPH),(237,aPG),(242,aPF),(243,aPE),(244,aPD),(245,aPC)]
def aDd:Nat→Option XFn:=aDH aQL
set_option maxRecDepth 100000
theorem wP:∀ p∈aQL,aR prog p :=
 aX is6 (aX aWA (aX aWz (aX aWy (aX aWx (aX aWw (aX aWv (aX aWu (aX aWt (aX aWs (aX aWr (aX aWq (aX aWp (aX aWo (aX aWn (aX aWm (aX aWl (aX aWk (aX aWj (aX aWi (aX aWh (aX aWg (aX aWf (aX aWe (aX aWd (aX aWc (aX aWb (aX aWa (aX aVZ (aX aVY (aX aVX (aX aVW (aX aVV (aX aVU (aX aVT (aX aVS (aX aVR (aX aVQ (aX aVP (aX aVO (aX aVN (aX aVM (aX aVL (aX aVK (aX aVJ (aX aVI (aX aVH (aX aTp (aX aTo (aX aTn (aX aTm (aX aTl (aX aTk (aX aTj (aX aTi (aX aTh (aX aTg (aX aTf (aX aTe (aX aTd (aX aTc (aX aTb (aX aTa (aX aSZ (aX aSY (aX aSX (aX aSW (aX aSV (aX aSU (aX aST (aX aSS (aX aSR (aX aSQ (aX aSP (aX aSO (aX aSN (aX aSM (aX aSL (aX aSK (aX aSJ (aX aSI (aX aSH (aX aSG (aX aSF (aX aSE (aX aSD (aX aSC (aX aSB (aX aSA (aX aSz (aX aSy (aX aSx (aX aSw (aX aSv (aX aSu (aX aSt (aX aSs (aX aSr (aXa))))))))))))))))))))))))))))))))))))))))))))))))))))))))))))))))))))))))))))))))))))))))))))))))))
theorem aLF {k:Nat} {d:XFn} (h:aDd k=some d):d.prm=none:=(wP _ (nC h)).2.2.2
theorem progX_ok:XOk prog aDd:=⟨rfl,fun k d h _=>(wP _ (nC h)).1,fun k d f h hp=>(by rw[aLF h]at hp;cases hp),fun k d h=>(wP _ (nC h)).2.1,fun k d h=>(wP _ (nC h)).2.2.1⟩
theorem r6 {vs:List AV} {h:XH} (hl:vs.length≤113):runW aDd 6 vs h=fV none x6.res x6.ownR h.length (execW aDd 6 h.length none x6.body (aM (if x6.ownA then vs else jJ vs)) h):=eK rfl hl h rfl
end Go.Proofs.YtmapgnepfgnphaaGreatDoor
namespace Go.Proofs
open Go.Shelf
def Tryz.lays156_ren:Go.Shelf.Ren:=⟨fun|156=>99|165=>138|166=>69|169=>71|240=>115|241=>161|276=>140|277=>187|n=>n,fun|31=>22|9=>9|3=>3|4=>4|0=>0|20=>20|72=>126|76=>129|70=>124|37=>59|75=>128|127=>183|164=>215|5=>5|80=>37|n=>n,fun|n=>n⟩
theorem Tryz.lays156:Go.Proofs.Lays.n156 Tryz.prog Tryz.lays156_ren:={
 mixed:=by kernel_rfl
 f156:=Tryz.func99.trans (congrArg some (by kernel_rfl))
 f165:=Tryz.func138.trans (congrArg some (by kernel_rfl))
 f166:=Tryz.func69.trans (congrArg some (by kernel_rfl))
 f169:=Tryz.func71.trans (congrArg some (by kernel_rfl))
 f240:=Tryz.func115.trans (congrArg some (by kernel_rfl))
 f241:=Tryz.func161.trans (congrArg some (by kernel_rfl))
 f276:=Tryz.func140.trans (congrArg some (by kernel_rfl))
 f277:=Tryz.func187.trans (congrArg some (by kernel_rfl))
 t0:=Tryz.underlying0
 a0:=Tryz.isAgg0
 z0:=Tryz.sizeOf0
 v0:=Tryz.zeroValue0
 t3:=Tryz.underlying3
 a3:=Tryz.isAgg3
 z3:=Tryz.sizeOf3
 v3:=Tryz.zeroValue3
 t4:=Tryz.underlying4
 a4:=Tryz.isAgg4
 z4:=Tryz.sizeOf4
 v4:=Tryz.zeroValue4
 t9:=Tryz.underlying9
 a9:=Tryz.isAgg9
 z9:=Tryz.sizeOf9
 v9:=Tryz.zeroValue9
 t20:=Tryz.underlying20
 a20:=Tryz.isAgg20
 z20:=Tryz.sizeOf20
 v20:=Tryz.zeroValue20
 t31:=Tryz.underlying22
 a31:=Tryz.isAgg22
 z31:=Tryz.sizeOf22
 v31:=Tryz.zeroValue22
 t37:=Tryz.underlying59
 a37:=Tryz.isAgg59
 z37:=Tryz.sizeOf59
 v37:=Tryz.zeroValue59
 t70:=Tryz.underlying124
 a70:=Tryz.isAgg124
 z70:=Tryz.sizeOf124
 v70:=Tryz.zeroValue124
 t72:=Tryz.underlying126
 a72:=Tryz.isAgg126
 z72:=Tryz.sizeOf126
 v72:=Tryz.zeroValue126
 t75:=Tryz.underlying128
 a75:=Tryz.isAgg128
 z75:=Tryz.sizeOf128
 v75:=Tryz.zeroValue128
 t76:=Tryz.underlying129
 a76:=Tryz.isAgg129
 z76:=Tryz.sizeOf129
 v76:=Tryz.zeroValue129
 t127:=Tryz.underlying183
 a127:=Tryz.isAgg183
 z127:=Tryz.sizeOf183
 v127:=Tryz.zeroValue183
 t164:=Tryz.underlying215
 a164:=Tryz.isAgg215
 z164:=Tryz.sizeOf215
 v164:=Tryz.zeroValue215 }
theorem Tryz.Builder_Extra_156:Builder.Extra Tryz.prog Tryz.lays156_ren:={
 sizeBuilder:=by kernel_rfl
 liesBuilder:=by kernel_rfl
 t5:=Tryz.underlying5
 a5:=Tryz.isAgg5
 z5:=Tryz.sizeOf5
 v5:=Tryz.zeroValue5
 infoByte:=by kernel_rfl
 cellsByte:=by kernel_rfl
 sizeByte:=by kernel_rfl
 neB5:=by decide }
open Go.RowKit in
theorem Tryz.strings_Join_none (a:Option Addr) (c:Nat) (sep:ByteArray) (w:World) :
 Calls Tryz.prog 99 #[.slice a 0 c,.string sep] w fun e w'=>e = .returned (.string ⟨#[]⟩)∧w'=w:=Any.strings_Join_none Tryz.lays156 Tryz.Builder_Extra_156 a c sep w
open Go.RowKit in
theorem Tryz.strings_Join (bk o c:Nat) (xs:List ByteArray) (sep:ByteArray) (w:World) (hcells:∀ (j:Nat) x,xs[j]?=some x→w.cell? ⟨bk,o+j,none⟩=some (.string x)) (hbk:bk<w.heap.size) (hN:xs.length≤140737488355328) (hcap:xs.length≤c) (hlen:(Lib.join (xs.map (·.data.toList)) sep.data.toList).length≤140737488355328) :
 Calls Tryz.prog 99 #[.slice (some ⟨bk,o,none⟩) xs.length c,.string sep] w fun e w'=>e = .returned (.string ⟨(Lib.join (xs.map (·.data.toList)) sep.data.toList).toArray⟩)∧Below w.heap.size w w':=Any.strings_Join Tryz.lays156 Tryz.Builder_Extra_156 bk o c xs sep w hcells hbk hN hcap hlen
def Tryz.lays162_ren:Go.Shelf.Ren:=⟨fun|162=>80|232=>120|227=>121|234=>122|236=>123|228=>144|271=>145|151=>146|120=>168|197=>169|152=>170|260=>192|137=>193|119=>194|224=>195|225=>196|217=>199|266=>209|n=>n,fun|9=>9|4=>4|3=>3|5=>5|117=>188|116=>187|0=>0|124=>191|21=>21|105=>218|46=>238|119=>286|139=>289|138=>288|n=>n,fun|3=>4|4=>5|n=>n⟩
theorem Tryz.lays162:Go.Proofs.Lays.n162 Tryz.prog Tryz.lays162_ren:={
 mixed:=by kernel_rfl
 f119:=Tryz.func194.trans (congrArg some (by kernel_rfl))
 f120:=Tryz.func168.trans (congrArg some (by kernel_rfl))
 f137:=Tryz.func193.trans (congrArg some (by kernel_rfl))
 f151:=Tryz.func146.trans (congrArg some (by kernel_rfl))
 f152:=Tryz.func170.trans (congrArg some (by kernel_rfl))
 f162:=Tryz.func80.trans (congrArg some (by kernel_rfl))
 f197:=Tryz.func169.trans (congrArg some (by kernel_rfl))
 f217:=Tryz.func199.trans (congrArg some (by kernel_rfl))
 f224:=Tryz.func195.trans (congrArg some (by kernel_rfl))
 f225:=Tryz.func196.trans (congrArg some (by kernel_rfl))
 f227:=Tryz.func121.trans (congrArg some (by kernel_rfl))
 f228:=Tryz.func144.trans (congrArg some (by kernel_rfl))
 f232:=Tryz.func120.trans (congrArg some (by kernel_rfl))
 f234:=Tryz.func122.trans (congrArg some (by kernel_rfl))
 f236:=Tryz.func123.trans (congrArg some (by kernel_rfl))
 f260:=Tryz.func192.trans (congrArg some (by kernel_rfl))
 f266:=Tryz.func209.trans (congrArg some (by kernel_rfl))
 f271:=Tryz.func145.trans (congrArg some (by kernel_rfl))
 t0:=Tryz.underlying0
 a0:=Tryz.isAgg0
 z0:=Tryz.sizeOf0
 v0:=Tryz.zeroValue0
 t3:=Tryz.underlying3
 a3:=Tryz.isAgg3
 z3:=Tryz.sizeOf3
 v3:=Tryz.zeroValue3
 t4:=Tryz.underlying4
 a4:=Tryz.isAgg4
 z4:=Tryz.sizeOf4
 v4:=Tryz.zeroValue4
 t5:=Tryz.underlying5
 a5:=Tryz.isAgg5
 z5:=Tryz.sizeOf5
 v5:=Tryz.zeroValue5
 t9:=Tryz.underlying9
 a9:=Tryz.isAgg9
 z9:=Tryz.sizeOf9
 v9:=Tryz.zeroValue9
 t21:=Tryz.underlying21
 a21:=Tryz.isAgg21
 z21:=Tryz.sizeOf21
 v21:=Tryz.zeroValue21
 t46:=Tryz.underlying238
 a46:=Tryz.isAgg238
 z46:=Tryz.sizeOf238
 v46:=Tryz.zeroValue238
 t105:=Tryz.underlying218
 a105:=Tryz.isAgg218
 z105:=Tryz.sizeOf218
 v105:=Tryz.zeroValue218
 t116:=Tryz.underlying187
 a116:=Tryz.isAgg187
 z116:=Tryz.sizeOf187
 t117:=Tryz.underlying188
 a117:=Tryz.isAgg188
 z117:=Tryz.sizeOf188
 v117:=Tryz.zeroValue188
 t119:=Tryz.underlying286
 a119:=Tryz.isAgg286
 z119:=Tryz.sizeOf286
 t124:=Tryz.underlying191
 a124:=Tryz.isAgg191
 z124:=Tryz.sizeOf191
 v124:=Tryz.zeroValue191
 t138:=Tryz.underlying288
 a138:=Tryz.isAgg288
 z138:=Tryz.sizeOf288
 v138:=Tryz.zeroValue288
 t139:=Tryz.underlying289
 a139:=Tryz.isAgg289
 z139:=Tryz.sizeOf289
 v139:=Tryz.zeroValue289
 g3:=by kernel_rfl
 g4:=by kernel_rfl }
open Go.RowKit in
theorem Tryz.strings_TrimRight_one (s:ByteArray) (c:UInt8) (hc:c.toNat<128) (w:World) (hs:s.size≤9223372036854775807) :
 Calls Tryz.prog 80 #[.string s,.string ⟨#[c]⟩] w fun e w'=>e = .returned (.string ⟨(Lib.trimRightB s.data.toList c).toArray⟩)∧w'=w:=Any.strings_TrimRight_one Tryz.lays162 s c hc w hs
def Tryz.lays103_ren:Go.Shelf.Ren:=⟨fun|103=>72|210=>117|206=>141|n=>n,fun|9=>9|4=>4|24=>55|3=>3|n=>n,fun|n=>n⟩
theorem Tryz.lays103:Go.Proofs.Lays.n103 Tryz.prog Tryz.lays103_ren:={
 mixed:=by kernel_rfl
 f103:=Tryz.func72.trans (congrArg some (by kernel_rfl))
 f206:=Tryz.func141.trans (congrArg some (by kernel_rfl))
 f210:=Tryz.func117.trans (congrArg some (by kernel_rfl))
 t3:=Tryz.underlying3
 a3:=Tryz.isAgg3
 z3:=Tryz.sizeOf3
 v3:=Tryz.zeroValue3
 t4:=Tryz.underlying4
 a4:=Tryz.isAgg4
 z4:=Tryz.sizeOf4
 v4:=Tryz.zeroValue4
 t9:=Tryz.underlying9
 a9:=Tryz.isAgg9
 z9:=Tryz.sizeOf9
 v9:=Tryz.zeroValue9
 t24:=Tryz.underlying55
 a24:=Tryz.isAgg55
 z24:=Tryz.sizeOf55
 v24:=Tryz.zeroValue55 }
open Go.RowKit in
theorem Tryz.strings_CutPrefix (s p:ByteArray) (w:World) :
 Calls Tryz.prog 72 #[.string s,.string p] w fun e w'=>e = .returned (.tuple #[.string ⟨(Lib.trimPrefix s.data.toList p.data.toList).toArray⟩,.bool (Lib.hasPrefix s.data.toList p.data.toList)])∧w'=w:=Any.strings_CutPrefix Tryz.lays103 s p w
def Tryz.laysM171_ren:Go.Shelf.Ren:=⟨fun|171=>57|243=>82|246=>124|283=>147|284=>148|285=>149|286=>150|129=>172|317=>171|318=>173|319=>174|320=>175|337=>197|338=>198|n=>n,fun|3=>3|9=>9|2=>2|4=>4|171=>221|0=>0|53=>222|37=>59|5=>5|173=>225|212=>251|51=>252|20=>20|213=>253|46=>238|232=>290|233=>291|n=>n,fun|17=>0|18=>6|19=>7|n=>n⟩
theorem Tryz.laysM171:Go.Proofs.LaysM.n171 Tryz.prog Tryz.laysM171_ren:={
 mixed:=by kernel_rfl
 f129:=Tryz.func172.trans (congrArg some (by kernel_rfl))
 f171:=Tryz.func57.trans (congrArg some (by kernel_rfl))
 f243:=Tryz.func82.trans (congrArg some (by kernel_rfl))
 f246:=Tryz.func124.trans (congrArg some (by kernel_rfl))
 f283:=Tryz.func147.trans (congrArg some (by kernel_rfl))
 f284:=Tryz.func148.trans (congrArg some (by kernel_rfl))
 f285:=Tryz.func149.trans (congrArg some (by kernel_rfl))
 f286:=Tryz.func150.trans (congrArg some (by kernel_rfl))
 f317:=Tryz.func171.trans (congrArg some (by kernel_rfl))
 f318:=Tryz.func173.trans (congrArg some (by kernel_rfl))
 f319:=Tryz.func174.trans (congrArg some (by kernel_rfl))
 f320:=Tryz.func175.trans (congrArg some (by kernel_rfl))
 f337:=Tryz.func197.trans (congrArg some (by kernel_rfl))
 f338:=Tryz.func198.trans (congrArg some (by kernel_rfl))
 t0:=Tryz.underlying0
 a0:=Tryz.isAgg0
 z0:=Tryz.sizeOf0
 v0:=Tryz.zeroValue0
 t2:=Tryz.underlying2
 a2:=Tryz.isAgg2
 z2:=Tryz.sizeOf2
 v2:=Tryz.zeroValue2
 t3:=Tryz.underlying3
 a3:=Tryz.isAgg3
 z3:=Tryz.sizeOf3
 v3:=Tryz.zeroValue3
 t4:=Tryz.underlying4
 a4:=Tryz.isAgg4
 z4:=Tryz.sizeOf4
 v4:=Tryz.zeroValue4
 t5:=Tryz.underlying5
 a5:=Tryz.isAgg5
 z5:=Tryz.sizeOf5
 v5:=Tryz.zeroValue5
 t9:=Tryz.underlying9
 a9:=Tryz.isAgg9
 z9:=Tryz.sizeOf9
 v9:=Tryz.zeroValue9
 t20:=Tryz.underlying20
 a20:=Tryz.isAgg20
 z20:=Tryz.sizeOf20
 v20:=Tryz.zeroValue20
 t37:=Tryz.underlying59
 a37:=Tryz.isAgg59
 z37:=Tryz.sizeOf59
 v37:=Tryz.zeroValue59
 t46:=Tryz.underlying238
 a46:=Tryz.isAgg238
 z46:=Tryz.sizeOf238
 v46:=Tryz.zeroValue238
 t51:=Tryz.underlying252
 a51:=Tryz.isAgg252
 z51:=Tryz.sizeOf252
 v51:=Tryz.zeroValue252
 t53:=Tryz.underlying222
 a53:=Tryz.isAgg222
 z53:=Tryz.sizeOf222
 v53:=Tryz.zeroValue222
 t171:=Tryz.underlying221
 a171:=Tryz.isAgg221
 z171:=Tryz.sizeOf221
 v171:=Tryz.zeroValue221
 t173:=Tryz.underlying225
 a173:=Tryz.isAgg225
 z173:=Tryz.sizeOf225
 v173:=Tryz.zeroValue225
 t212:=Tryz.underlying251
 a212:=Tryz.isAgg251
 z212:=Tryz.sizeOf251
 v212:=Tryz.zeroValue251
 t213:=Tryz.underlying253
 a213:=Tryz.isAgg253
 z213:=Tryz.sizeOf253
 t232:=Tryz.underlying290
 a232:=Tryz.isAgg290
 z232:=Tryz.sizeOf290
 v232:=Tryz.zeroValue290
 t233:=Tryz.underlying291
 a233:=Tryz.isAgg291
 z233:=Tryz.sizeOf291
 v233:=Tryz.zeroValue291
 g17:=by kernel_rfl
 g18:=by kernel_rfl
 g19:=by kernel_rfl
 i0:=by kernel_rfl
 i2:=by kernel_rfl
 i3:=by kernel_rfl
 i4:=by kernel_rfl
 i5:=by kernel_rfl
 i9:=by kernel_rfl
 i20:=by kernel_rfl
 i37:=by kernel_rfl
 i46:=by kernel_rfl
 i51:=by kernel_rfl
 i53:=by kernel_rfl
 i171:=by kernel_rfl
 i173:=by kernel_rfl
 i212:=by kernel_rfl
 i232:=by kernel_rfl
 i233:=by kernel_rfl
 m17:=by kernel_rfl
 m18:=by kernel_rfl
 m19:=by kernel_rfl }
open Go.RowKit Go.Sort Go.Lib in
theorem Tryz.strconv_Itoa (n:Int) (h0 : -9223372036854775808≤n) (h1:n≤9223372036854775807) (w:World) (htab:Lib.TabIs Tryz.prog w "internal/strconv.uint64pow10" .u64 Lib.pow10Tab) :
 Calls Tryz.prog 57 #[.int .i64 n] w fun e w'=>e = .returned (.string ⟨(Lib.itoa n).toArray⟩)∧∃ k os,w'=grow (w.drewN k) os:=Any.strconv_Itoa Tryz.laysM171 n h0 h1 w htab
def Tryz.laysC172_ren:Go.Shelf.Ren:=⟨fun|172=>86|244=>126|245=>127|247=>154|279=>155|280=>156|281=>157|282=>158|287=>179|316=>180|171=>57|205=>181|321=>201|322=>202|243=>82|246=>124|283=>147|284=>148|285=>149|286=>150|129=>172|317=>171|318=>173|319=>174|320=>175|337=>197|338=>198|n=>n,fun|9=>9|3=>3|75=>128|76=>129|4=>4|5=>5|167=>229|37=>59|0=>0|85=>230|2=>2|168=>232|53=>222|175=>257|46=>238|210=>260|127=>183|145=>280|143=>278|21=>21|171=>221|173=>225|212=>251|51=>252|20=>20|213=>253|232=>290|233=>291|80=>37|n=>n,fun|15=>1|16=>2|17=>0|18=>6|19=>7|n=>n⟩
theorem Tryz.laysC172:Go.Proofs.LaysC.n172 Tryz.prog Tryz.laysC172_ren:={
 mixed:=by kernel_rfl
 f129:=Tryz.func172.trans (congrArg some (by kernel_rfl))
 f171:=Tryz.func57.trans (congrArg some (by kernel_rfl))
 f172:=Tryz.func86.trans (congrArg some (by kernel_rfl))
 f205:=Tryz.func181.trans (congrArg some (by kernel_rfl))
 f243:=Tryz.func82.trans (congrArg some (by kernel_rfl))
 f244:=Tryz.func126.trans (congrArg some (by kernel_rfl))
 f245:=Tryz.func127.trans (congrArg some (by kernel_rfl))
 f246:=Tryz.func124.trans (congrArg some (by kernel_rfl))
 f247:=Tryz.func154.trans (congrArg some (by kernel_rfl))
 f279:=Tryz.func155.trans (congrArg some (by kernel_rfl))
 f280:=Tryz.func156.trans (congrArg some (by kernel_rfl))
 f281:=Tryz.func157.trans (congrArg some (by kernel_rfl))
 f282:=Tryz.func158.trans (congrArg some (by kernel_rfl))
 f283:=Tryz.func147.trans (congrArg some (by kernel_rfl))
 f284:=Tryz.func148.trans (congrArg some (by kernel_rfl))
 f285:=Tryz.func149.trans (congrArg some (by kernel_rfl))
 f286:=Tryz.func150.trans (congrArg some (by kernel_rfl))
 f287:=Tryz.func179.trans (congrArg some (by kernel_rfl))
 f316:=Tryz.func180.trans (congrArg some (by kernel_rfl))
 f317:=Tryz.func171.trans (congrArg some (by kernel_rfl))
 f318:=Tryz.func173.trans (congrArg some (by kernel_rfl))
 f319:=Tryz.func174.trans (congrArg some (by kernel_rfl))
 f320:=Tryz.func175.trans (congrArg some (by kernel_rfl))
 f321:=Tryz.func201.trans (congrArg some (by kernel_rfl))
 f322:=Tryz.func202.trans (congrArg some (by kernel_rfl))
 f337:=Tryz.func197.trans (congrArg some (by kernel_rfl))
 f338:=Tryz.func198.trans (congrArg some (by kernel_rfl))
 t0:=Tryz.underlying0
 a0:=Tryz.isAgg0
 z0:=Tryz.sizeOf0
 v0:=Tryz.zeroValue0
 t2:=Tryz.underlying2
 a2:=Tryz.isAgg2
 z2:=Tryz.sizeOf2
 v2:=Tryz.zeroValue2
 t3:=Tryz.underlying3
 a3:=Tryz.isAgg3
 z3:=Tryz.sizeOf3
 v3:=Tryz.zeroValue3
 t4:=Tryz.underlying4
 a4:=Tryz.isAgg4
 z4:=Tryz.sizeOf4
 v4:=Tryz.zeroValue4
 t5:=Tryz.underlying5
 a5:=Tryz.isAgg5
 z5:=Tryz.sizeOf5
 v5:=Tryz.zeroValue5
 t9:=Tryz.underlying9
 a9:=Tryz.isAgg9
 z9:=Tryz.sizeOf9
 v9:=Tryz.zeroValue9
 t20:=Tryz.underlying20
 a20:=Tryz.isAgg20
 z20:=Tryz.sizeOf20
 v20:=Tryz.zeroValue20
 t21:=Tryz.underlying21
 a21:=Tryz.isAgg21
 z21:=Tryz.sizeOf21
 v21:=Tryz.zeroValue21
 t37:=Tryz.underlying59
 a37:=Tryz.isAgg59
 z37:=Tryz.sizeOf59
 v37:=Tryz.zeroValue59
 t46:=Tryz.underlying238
 a46:=Tryz.isAgg238
 z46:=Tryz.sizeOf238
 v46:=Tryz.zeroValue238
 t51:=Tryz.underlying252
 a51:=Tryz.isAgg252
 z51:=Tryz.sizeOf252
 v51:=Tryz.zeroValue252
 t53:=Tryz.underlying222
 a53:=Tryz.isAgg222
 z53:=Tryz.sizeOf222
 v53:=Tryz.zeroValue222
 t75:=Tryz.underlying128
 a75:=Tryz.isAgg128
 z75:=Tryz.sizeOf128
 v75:=Tryz.zeroValue128
 t76:=Tryz.underlying129
 a76:=Tryz.isAgg129
 z76:=Tryz.sizeOf129
 v76:=Tryz.zeroValue129
 t85:=Tryz.underlying230
 a85:=Tryz.isAgg230
 z85:=Tryz.sizeOf230
 v85:=Tryz.zeroValue230
 t127:=Tryz.underlying183
 a127:=Tryz.isAgg183
 z127:=Tryz.sizeOf183
 v127:=Tryz.zeroValue183
 t143:=Tryz.underlying278
 a143:=Tryz.isAgg278
 z143:=Tryz.sizeOf278
 v143:=Tryz.zeroValue278
 t145:=Tryz.underlying280
 a145:=Tryz.isAgg280
 z145:=Tryz.sizeOf280
 v145:=Tryz.zeroValue280
 t167:=Tryz.underlying229
 a167:=Tryz.isAgg229
 z167:=Tryz.sizeOf229
 v167:=Tryz.zeroValue229
 t168:=Tryz.underlying232
 a168:=Tryz.isAgg232
 z168:=Tryz.sizeOf232
 v168:=Tryz.zeroValue232
 t171:=Tryz.underlying221
 a171:=Tryz.isAgg221
 z171:=Tryz.sizeOf221
 v171:=Tryz.zeroValue221
 t173:=Tryz.underlying225
 a173:=Tryz.isAgg225
 z173:=Tryz.sizeOf225
 v173:=Tryz.zeroValue225
 t175:=Tryz.underlying257
 a175:=Tryz.isAgg257
 z175:=Tryz.sizeOf257
 v175:=Tryz.zeroValue257
 t210:=Tryz.underlying260
 a210:=Tryz.isAgg260
 z210:=Tryz.sizeOf260
 v210:=Tryz.zeroValue260
 t212:=Tryz.underlying251
 a212:=Tryz.isAgg251
 z212:=Tryz.sizeOf251
 v212:=Tryz.zeroValue251
 t213:=Tryz.underlying253
 a213:=Tryz.isAgg253
 z213:=Tryz.sizeOf253
 t232:=Tryz.underlying290
 a232:=Tryz.isAgg290
 z232:=Tryz.sizeOf290
 v232:=Tryz.zeroValue290
 t233:=Tryz.underlying291
 a233:=Tryz.isAgg291
 z233:=Tryz.sizeOf291
 v233:=Tryz.zeroValue291
 g15:=by kernel_rfl
 g16:=by kernel_rfl
 g17:=by kernel_rfl
 g18:=by kernel_rfl
 g19:=by kernel_rfl
 t80:=Tryz.underlying37
 a80:=Tryz.isAgg37
 z80:=Tryz.sizeOf37
 v80:=Tryz.zeroValue37
 i0:=by kernel_rfl
 i2:=by kernel_rfl
 i3:=by kernel_rfl
 i4:=by kernel_rfl
 i5:=by kernel_rfl
 i9:=by kernel_rfl
 i20:=by kernel_rfl
 i21:=by kernel_rfl
 i37:=by kernel_rfl
 i46:=by kernel_rfl
 i51:=by kernel_rfl
 i53:=by kernel_rfl
 i75:=by kernel_rfl
 i76:=by kernel_rfl
 i80:=by kernel_rfl
 i85:=by kernel_rfl
 i127:=by kernel_rfl
 i143:=by kernel_rfl
 i145:=by kernel_rfl
 i167:=by kernel_rfl
 i168:=by kernel_rfl
 i171:=by kernel_rfl
 i173:=by kernel_rfl
 i175:=by kernel_rfl
 i210:=by kernel_rfl
 i212:=by kernel_rfl
 i232:=by kernel_rfl
 i233:=by kernel_rfl
 m15:=by kernel_rfl
 m16:=by kernel_rfl
 m17:=by kernel_rfl
 m18:=by kernel_rfl
 m19:=by kernel_rfl
 c0:=by kernel_rfl
 c2:=by kernel_rfl
 c3:=by kernel_rfl
 c4:=by kernel_rfl
 c5:=by kernel_rfl
 c9:=by kernel_rfl
 c20:=by kernel_rfl
 c21:=by kernel_rfl
 c37:=by kernel_rfl
 c46:=by kernel_rfl
 c51:=by kernel_rfl
 c53:=by kernel_rfl
 c75:=by kernel_rfl
 c76:=by kernel_rfl
 c80:=by kernel_rfl
 c85:=by kernel_rfl
 c127:=by kernel_rfl
 c143:=by kernel_rfl
 c145:=by kernel_rfl
 c167:=by kernel_rfl
 c168:=by kernel_rfl
 c171:=by kernel_rfl
 c173:=by kernel_rfl
 c175:=by kernel_rfl
 c210:=by kernel_rfl
 c212:=by kernel_rfl
 c213:=by kernel_rfl
 c232:=by kernel_rfl
 c233:=by kernel_rfl }
open Go.RowKit in
theorem Tryz.strconv_Atoi_ok (s:ByteArray) (hmax:s.size≤9223372036854775806) (v:Int) (h:Lib.atoiAll s.data.toList = .ok v) (w:World) :
 Calls Tryz.prog 86 #[.string s] w fun e w'=>e = .returned (.tuple #[.int .i64 v,.nilIface])∧(w'=w∨∃ t,w'=Lib.bytesWorld w 5 t):=Any.strconv_Atoi_ok Tryz.laysC172 s hmax v h w
open Go.RowKit in
theorem Tryz.strconv_Atoi_syntax (s:ByteArray) (hlim:s.size≤281474976710656) (h:Lib.atoiAll s.data.toList=Lib.NumEnd.syntax) (ev:Value) (w:World) (hv:w.cell? ⟨1,0,none⟩=some ev) (hev:ev = .nilIface∨∃ te pe,ev = .iface te pe) :
 Calls Tryz.prog 86 #[.string s] w fun e w'=>∃ N,e = .returned (.tuple #[.int .i64 (0),.iface 232 (.pointer (some ⟨N,0,none⟩))])∧w.heap.size≤N∧w'.heap[N]?=some (.cells #[.string ⟨#[65,116,111,105]⟩,.string s,ev] 260 (0,0))∧Below w.heap.size w w':=Any.strconv_Atoi_syntax Tryz.laysC172 s hlim h ev w hv hev
open Go.RowKit in
theorem Tryz.strconv_Atoi_range (s:ByteArray) (hlim:s.size≤281474976710656) (h:Lib.atoiAll s.data.toList = .range) (ev:Value) (w:World) (hv:w.cell? ⟨2,0,none⟩=some ev) (hev:ev = .nilIface∨∃ te pe,ev = .iface te pe) :
 Calls Tryz.prog 86 #[.string s] w fun e w'=>∃ N,e = .returned (.tuple #[.int .i64 (Lib.atoiSat s.data.toList),.iface 232 (.pointer (some ⟨N,0,none⟩))])∧w.heap.size≤N∧w'.heap[N]?=some (.cells #[.string ⟨#[65,116,111,105]⟩,.string s,ev] 260 (0,0))∧Below w.heap.size w w':=Any.strconv_Atoi_range Tryz.laysC172 s hlim h ev w hv hev
def Tryz.laysGw17_ren:Go.Shelf.Ren:=⟨fun|17=>74|15=>118|20=>142|n=>n,fun|9=>9|23=>137|4=>4|3=>3|0=>0|21=>21|n=>n,fun|n=>n⟩
theorem Tryz.laysGw17:Go.Proofs.LaysGw.n17 Tryz.prog Tryz.laysGw17_ren:={
 mixed:=by kernel_rfl
 f15:=Tryz.func118.trans (congrArg some (by kernel_rfl))
 f17:=Tryz.func74.trans (congrArg some (by kernel_rfl))
 f20:=Tryz.func142.trans (congrArg some (by kernel_rfl))
 t0:=Tryz.underlying0
 a0:=Tryz.isAgg0
 z0:=Tryz.sizeOf0
 v0:=Tryz.zeroValue0
 i0:=by kernel_rfl
 t3:=Tryz.underlying3
 a3:=Tryz.isAgg3
 z3:=Tryz.sizeOf3
 v3:=Tryz.zeroValue3
 i3:=by kernel_rfl
 t4:=Tryz.underlying4
 a4:=Tryz.isAgg4
 z4:=Tryz.sizeOf4
 v4:=Tryz.zeroValue4
 i4:=by kernel_rfl
 t9:=Tryz.underlying9
 a9:=Tryz.isAgg9
 z9:=Tryz.sizeOf9
 v9:=Tryz.zeroValue9
 i9:=by kernel_rfl
 t21:=Tryz.underlying21
 a21:=Tryz.isAgg21
 z21:=Tryz.sizeOf21
 v21:=Tryz.zeroValue21
 i21:=by kernel_rfl
 t23:=Tryz.underlying137
 a23:=Tryz.isAgg137
 z23:=Tryz.sizeOf137
 v23:=Tryz.zeroValue137
 i23:=by kernel_rfl }
open Go.RowKit Go.Lib in
theorem Tryz.strings_ContainsFunc_runes (g:Nat) (lb:Array Value) (eg:∀ args w,(callFunc g args).run Tryz.prog w = .ok (.enter g args) w) (p:Nat→Bool) (s:ByteArray) (w:World) (hp:PredAtRunes Tryz.prog g lb p w) :
 Calls Tryz.prog 74 #[.string s,.func (.func g) #[] lb] w fun e w'=>e = .returned (.bool (decide (0≤Lib.idxFunc p true s)))∧Below w.heap.size w w':=Any.strings_ContainsFunc_runes Tryz.laysGw17 g lb eg p s w hp
def Tryz.lays100_ren:Go.Shelf.Ren:=⟨fun|100=>37|207=>76|n=>n,fun|9=>9|4=>4|3=>3|n=>n,fun|n=>n⟩
theorem Tryz.lays100:Go.Proofs.Lays.n100 Tryz.prog Tryz.lays100_ren:={
 mixed:=by kernel_rfl
 f100:=Tryz.func37.trans (congrArg some (by kernel_rfl))
 f207:=Tryz.func76.trans (congrArg some (by kernel_rfl))
 t3:=Tryz.underlying3
 a3:=Tryz.isAgg3
 z3:=Tryz.sizeOf3
 v3:=Tryz.zeroValue3
 t4:=Tryz.underlying4
 a4:=Tryz.isAgg4
 z4:=Tryz.sizeOf4
 v4:=Tryz.zeroValue4
 t9:=Tryz.underlying9
 a9:=Tryz.isAgg9
 z9:=Tryz.sizeOf9
 v9:=Tryz.zeroValue9 }
open Go.RowKit Go.Lib in
theorem Tryz.strings_HasSuffix (s p:ByteArray) (w:World) (hs:s.size≤9223372036854775807) :
 Calls Tryz.prog 37 #[.string s,.string p] w fun e w'=>e = .returned (.bool (Lib.hasSuffix s.data.toList p.data.toList))∧w'=w:=Any.strings_HasSuffix Tryz.lays100 s p w hs
def Tryz.lays146_ren:Go.Shelf.Ren:=⟨fun|146=>83|221=>125|268=>151|138=>152|143=>153|195=>176|197=>169|218=>177|219=>178|260=>192|217=>199|225=>196|224=>195|267=>200|266=>209|314=>210|n=>n,fun|9=>9|31=>22|3=>3|4=>4|0=>0|105=>218|21=>21|5=>5|46=>238|119=>286|139=>289|138=>288|146=>272|51=>252|n=>n,fun|1=>3|3=>4|4=>5|n=>n⟩
theorem Tryz.lays146:Go.Proofs.Lays.n146 Tryz.prog Tryz.lays146_ren:={
 mixed:=by kernel_rfl
 f138:=Tryz.func152.trans (congrArg some (by kernel_rfl))
 f143:=Tryz.func153.trans (congrArg some (by kernel_rfl))
 f146:=Tryz.func83.trans (congrArg some (by kernel_rfl))
 f195:=Tryz.func176.trans (congrArg some (by kernel_rfl))
 f197:=Tryz.func169.trans (congrArg some (by kernel_rfl))
 f217:=Tryz.func199.trans (congrArg some (by kernel_rfl))
 f218:=Tryz.func177.trans (congrArg some (by kernel_rfl))
 f219:=Tryz.func178.trans (congrArg some (by kernel_rfl))
 f221:=Tryz.func125.trans (congrArg some (by kernel_rfl))
 f224:=Tryz.func195.trans (congrArg some (by kernel_rfl))
 f225:=Tryz.func196.trans (congrArg some (by kernel_rfl))
 f260:=Tryz.func192.trans (congrArg some (by kernel_rfl))
 f266:=Tryz.func209.trans (congrArg some (by kernel_rfl))
 f267:=Tryz.func200.trans (congrArg some (by kernel_rfl))
 f268:=Tryz.func151.trans (congrArg some (by kernel_rfl))
 f314:=Tryz.func210.trans (congrArg some (by kernel_rfl))
 t0:=Tryz.underlying0
 a0:=Tryz.isAgg0
 z0:=Tryz.sizeOf0
 v0:=Tryz.zeroValue0
 t3:=Tryz.underlying3
 a3:=Tryz.isAgg3
 z3:=Tryz.sizeOf3
 v3:=Tryz.zeroValue3
 t4:=Tryz.underlying4
 a4:=Tryz.isAgg4
 z4:=Tryz.sizeOf4
 v4:=Tryz.zeroValue4
 t5:=Tryz.underlying5
 a5:=Tryz.isAgg5
 z5:=Tryz.sizeOf5
 v5:=Tryz.zeroValue5
 t9:=Tryz.underlying9
 a9:=Tryz.isAgg9
 z9:=Tryz.sizeOf9
 v9:=Tryz.zeroValue9
 t21:=Tryz.underlying21
 a21:=Tryz.isAgg21
 z21:=Tryz.sizeOf21
 v21:=Tryz.zeroValue21
 t31:=Tryz.underlying22
 a31:=Tryz.isAgg22
 z31:=Tryz.sizeOf22
 v31:=Tryz.zeroValue22
 t46:=Tryz.underlying238
 a46:=Tryz.isAgg238
 z46:=Tryz.sizeOf238
 v46:=Tryz.zeroValue238
 t51:=Tryz.underlying252
 a51:=Tryz.isAgg252
 z51:=Tryz.sizeOf252
 v51:=Tryz.zeroValue252
 t105:=Tryz.underlying218
 a105:=Tryz.isAgg218
 z105:=Tryz.sizeOf218
 v105:=Tryz.zeroValue218
 t119:=Tryz.underlying286
 a119:=Tryz.isAgg286
 z119:=Tryz.sizeOf286
 t138:=Tryz.underlying288
 a138:=Tryz.isAgg288
 z138:=Tryz.sizeOf288
 v138:=Tryz.zeroValue288
 t139:=Tryz.underlying289
 a139:=Tryz.isAgg289
 z139:=Tryz.sizeOf289
 v139:=Tryz.zeroValue289
 t146:=Tryz.underlying272
 a146:=Tryz.isAgg272
 z146:=Tryz.sizeOf272
 v146:=Tryz.zeroValue272
 g1:=by kernel_rfl
 g3:=by kernel_rfl
 g4:=by kernel_rfl }
open Go.RowKit Go.Lib in
theorem Tryz.strings_Split (s sep:ByteArray) (m:Int) (w:World) (hs:s.size<4294967281) (hm:w.cell? ⟨3,0,none⟩=some (.int .i64 m)) (h1:1≤sep.size) :
 Calls Tryz.prog 83 #[.string s,.string sep] w fun e w' =>
  e = .returned (.slice (some ⟨w.heap.size,0,none⟩) (Lib.countB s sep+1) (Lib.countB s sep+1))∧w'=w.alloc (.cells ((Lib.splitB sep 0 (Lib.countB s sep) s).map Value.string).toArray 9):=Any.strings_Split Tryz.lays146 (by kernel_rfl) s sep m w hs hm h1
def Tryz.lays105_ren:Go.Shelf.Ren:=⟨fun|105=>143|212=>165|99=>166|165=>138|166=>69|170=>167|169=>71|263=>190|264=>191|206=>141|240=>115|241=>161|276=>140|277=>187|n=>n,fun|9=>9|3=>3|4=>4|20=>20|0=>0|46=>238|109=>246|5=>5|72=>126|76=>129|51=>252|146=>272|53=>222|148=>274|70=>124|37=>59|75=>128|127=>183|164=>215|80=>37|n=>n,fun|n=>n⟩
theorem Tryz.lays105:Go.Proofs.Lays.n105 Tryz.prog Tryz.lays105_ren:={
 mixed:=by kernel_rfl
 f99:=Tryz.func166.trans (congrArg some (by kernel_rfl))
 f105:=Tryz.func143.trans (congrArg some (by kernel_rfl))
 f165:=Tryz.func138.trans (congrArg some (by kernel_rfl))
 f166:=Tryz.func69.trans (congrArg some (by kernel_rfl))
 f169:=Tryz.func71.trans (congrArg some (by kernel_rfl))
 f170:=Tryz.func167.trans (congrArg some (by kernel_rfl))
 f206:=Tryz.func141.trans (congrArg some (by kernel_rfl))
 f212:=Tryz.func165.trans (congrArg some (by kernel_rfl))
 f240:=Tryz.func115.trans (congrArg some (by kernel_rfl))
 f241:=Tryz.func161.trans (congrArg some (by kernel_rfl))
 f263:=Tryz.func190.trans (congrArg some (by kernel_rfl))
 f264:=Tryz.func191.trans (congrArg some (by kernel_rfl))
 f276:=Tryz.func140.trans (congrArg some (by kernel_rfl))
 f277:=Tryz.func187.trans (congrArg some (by kernel_rfl))
 t0:=Tryz.underlying0
 a0:=Tryz.isAgg0
 z0:=Tryz.sizeOf0
 v0:=Tryz.zeroValue0
 t3:=Tryz.underlying3
 a3:=Tryz.isAgg3
 z3:=Tryz.sizeOf3
 v3:=Tryz.zeroValue3
 t4:=Tryz.underlying4
 a4:=Tryz.isAgg4
 z4:=Tryz.sizeOf4
 v4:=Tryz.zeroValue4
 t5:=Tryz.underlying5
 a5:=Tryz.isAgg5
 z5:=Tryz.sizeOf5
 v5:=Tryz.zeroValue5
 t9:=Tryz.underlying9
 a9:=Tryz.isAgg9
 z9:=Tryz.sizeOf9
 v9:=Tryz.zeroValue9
 t20:=Tryz.underlying20
 a20:=Tryz.isAgg20
 z20:=Tryz.sizeOf20
 v20:=Tryz.zeroValue20
 t37:=Tryz.underlying59
 a37:=Tryz.isAgg59
 z37:=Tryz.sizeOf59
 v37:=Tryz.zeroValue59
 t46:=Tryz.underlying238
 a46:=Tryz.isAgg238
 z46:=Tryz.sizeOf238
 v46:=Tryz.zeroValue238
 t51:=Tryz.underlying252
 a51:=Tryz.isAgg252
 z51:=Tryz.sizeOf252
 v51:=Tryz.zeroValue252
 t53:=Tryz.underlying222
 a53:=Tryz.isAgg222
 z53:=Tryz.sizeOf222
 v53:=Tryz.zeroValue222
 t70:=Tryz.underlying124
 a70:=Tryz.isAgg124
 z70:=Tryz.sizeOf124
 v70:=Tryz.zeroValue124
 t72:=Tryz.underlying126
 a72:=Tryz.isAgg126
 z72:=Tryz.sizeOf126
 v72:=Tryz.zeroValue126
 t75:=Tryz.underlying128
 a75:=Tryz.isAgg128
 z75:=Tryz.sizeOf128
 v75:=Tryz.zeroValue128
 t76:=Tryz.underlying129
 a76:=Tryz.isAgg129
 z76:=Tryz.sizeOf129
 v76:=Tryz.zeroValue129
 t109:=Tryz.underlying246
 a109:=Tryz.isAgg246
 z109:=Tryz.sizeOf246
 v109:=Tryz.zeroValue246
 t127:=Tryz.underlying183
 a127:=Tryz.isAgg183
 z127:=Tryz.sizeOf183
 v127:=Tryz.zeroValue183
 t146:=Tryz.underlying272
 a146:=Tryz.isAgg272
 z146:=Tryz.sizeOf272
 v146:=Tryz.zeroValue272
 t148:=Tryz.underlying274
 a148:=Tryz.isAgg274
 z148:=Tryz.sizeOf274
 v148:=Tryz.zeroValue274
 t164:=Tryz.underlying215
 a164:=Tryz.isAgg215
 z164:=Tryz.sizeOf215
 v164:=Tryz.zeroValue215 }
theorem Tryz.Builder_Extra_105:Builder.Extra Tryz.prog Tryz.lays105_ren:={
 sizeBuilder:=by kernel_rfl
 liesBuilder:=by kernel_rfl
 t5:=Tryz.underlying5
 a5:=Tryz.isAgg5
 z5:=Tryz.sizeOf5
 v5:=Tryz.zeroValue5
 infoByte:=by kernel_rfl
 cellsByte:=by kernel_rfl
 sizeByte:=by kernel_rfl
 neB5:=by decide }
open Go.RowKit Go.Lib in
theorem Tryz.strings_Repeat (s:ByteArray) (c:Nat) (w:World) (hc:c≤9223372036854775807) (hlen:s.size*c≤140737488355328) :
 Calls Tryz.prog 143 #[.string s,.int .i64 c] w fun e w'=>e = .returned (.string ⟨(Lib.repeatL s.data.toList c).toArray⟩)∧Below w.heap.size w w':=Any.strings_Repeat Tryz.lays105 Tryz.Builder_Extra_105 s c w hc hlen
def Tryz.lays110_ren:Go.Shelf.Ren:=⟨fun|110=>47|109=>81|n=>n,fun|31=>22|9=>9|4=>4|3=>3|0=>0|n=>n,fun|n=>n⟩
theorem Tryz.lays110:Go.Proofs.Lays.n110 Tryz.prog Tryz.lays110_ren:={
 mixed:=by kernel_rfl
 f109:=Tryz.func81.trans (congrArg some (by kernel_rfl))
 f110:=Tryz.func47.trans (congrArg some (by kernel_rfl))
 t0:=Tryz.underlying0
 a0:=Tryz.isAgg0
 z0:=Tryz.sizeOf0
 v0:=Tryz.zeroValue0
 t3:=Tryz.underlying3
 a3:=Tryz.isAgg3
 z3:=Tryz.sizeOf3
 v3:=Tryz.zeroValue3
 t4:=Tryz.underlying4
 a4:=Tryz.isAgg4
 z4:=Tryz.sizeOf4
 v4:=Tryz.zeroValue4
 t9:=Tryz.underlying9
 a9:=Tryz.isAgg9
 z9:=Tryz.sizeOf9
 v9:=Tryz.zeroValue9
 t31:=Tryz.underlying22
 a31:=Tryz.isAgg22
 z31:=Tryz.sizeOf22
 v31:=Tryz.zeroValue22 }
open Go.Lib in
theorem Tryz.slices_Contains_string (b off n c:Nat) (zs:List ByteArray) (x:ByteArray) (w:World) (hz:n≤zs.length) (hbig:n≤9223372036854775807) (hc:∀ j,j<zs.length→w.cell? ⟨b,off+j,none⟩=some (.string (zs.getD j ByteArray.empty))) :
 Calls Tryz.prog 47 #[.slice (some ⟨b,off,none⟩) n c,.string x] w fun e w'=>e = .returned (.bool (Lib.containsS (zs.take n) x))∧w'=w:=Any.slices_Contains_string Tryz.lays110 b off n c zs x w hz hbig hc
open Go.Lib in
theorem Tryz.slices_Contains_string_empty (a:Option Addr) (c:Nat) (x:ByteArray) (w:World) :
 Calls Tryz.prog 47 #[.slice a 0 c,.string x] w fun e w'=>e = .returned (.bool false)∧w'=w:=Any.slices_Contains_string_empty Tryz.lays110 a c x w
end Go.Proofs
namespace Go.Proofs.YtmapgnepfgnphaaGreatDoor
open Go Go.DL Go.RowKit Go.Proofs.Tryz
variable {D:Nat→Option XFn} {Y:Nat→Option YI} {r:Nat→Option Nat} {h:XH} {H:Hp} {B:Base}

def eY (D:Nat→Option XFn) (K:Nat) (f:List AV→XH→Option (AV×XH)):Prop :=
 ∀ (B:Base) (Y:Nat→Option YI) (r:Nat→Option Nat) (h:XH) (H:Hp) (xs ys:List AV) (v:AV) (h':XH),SH D Y r h H→RnL D Y r xs ys→f xs h=some (v,h')→FnW B Tryz.prog K ys H (bR D Y r v h')

def pL:List AV→XH→Option (AV×XH):=fun xs h=>match xs with
 | [.str s,.int .i64 n]=>if 0≤n∧n≤1000000∧s.size≤1000 then some (.str ⟨⟨Go.Lib.repeatL s.data.toList n.toNat⟩⟩,h) else none
 | _=>none
theorem aEy {s:ByteArray} {k:IntKind} {n:Int} {as':List AV} (hr:RnL D Y r [.str s,.int k n] as'):as'=[.str s,.int k n]:=by
 obtain⟨a,as1,rfl,h1,h2⟩:=hr.inv
 obtain⟨b,as2,rfl,h3,h4⟩:=h2.inv
 rw[bJ h1,cL h3,h4.nil_inv]
theorem aEE:eY D 143 pL:=by
 intro B Y r h H xs ys v h' sh hr hx
 unfold pL at hx
 split at hx
 ·rename_i s n
  split at hx
  ·rename_i hn
   cases hx
   rw[aEy hr]
   have hc:Calls Tryz.prog 143 #[.string s,.int .i64 (n.toNat:Int)]=Calls Tryz.prog 143 #[.string s,.int .i64 n]:=by rw[Int.toNat_of_nonneg hn.1]
   refine FnW.shelf (r:=fun _=>.string ⟨(Go.Lib.repeatL s.data.toList n.toNat).toArray⟩) (fun vs w=>call143 vs w) (fun F w vs=>.str _) (fun F w vs hl ha=>?_) ⟨r,Sub.refl r,sh,.str _⟩
   rw[ha.strInt,←hc]
   exact Tryz.strings_Repeat s n.toNat w (by omega) (by
    have h1:n.toNat≤1000000:=by omega
    have:=Nat.mul_le_mul hn.2.2 h1
    omega)
  ·cases hx
 ·cases hx

def sU:List (List AV)→Option (List ByteArray)
 | []=>some []
 | [.str x]::l=>(sU l).map (x :: ·)
 | _=>none
theorem uK:∀ {rows:List (List AV)} {xs:List ByteArray},sU rows=some xs→xs.length=rows.length∧∀ (j:Nat) (x:ByteArray),xs[j]?=some x→rows[j]?=some [.str x]
 | [],xs,h=>by simp only[sU,oSI]at h;subst h;simp
 | row::l,xs,h=>by
   unfold sU at h
   split at h
   ·rename_i h0;cases h0
   ·rename_i x l' h0
    cases h0
    cases hl:sU l with
    | none=>rw[hl]at h;cases h
    | some ys =>
      rw[hl]at h
      simp only[Option.map_some,oSI]at h
      subst h
      obtain⟨h1,h2⟩:=uK hl
      refine⟨by simp[h1],fun j y hj=>?_⟩
      cases j with
      | zero=>simp at hj;subst hj;rfl
      | succ j=>exact h2 j y (by simpa using hj)
   ·cases h

def aEG:List AV→XH→Option (AV×XH):=fun xs h=>match xs with
 | [.fs rows,.str sep]=>match sU rows with
   | some l=>if l.length≤1000∧(Go.Lib.join (l.map (·.data.toList)) sep.data.toList).length≤100000 then some (.str ⟨⟨Go.Lib.join (l.map (·.data.toList)) sep.data.toList⟩⟩,h) else none
   | none=>none
 | _=>none
theorem aJg:eY D 99 aEG:=by
 intro B Y r h H xs ys v h' sh hr hx
 unfold aEG at hx
 split at hx
 ·rename_i rows sep
  split at hx
  ·rename_i l hl
   split at hx
   ·rename_i hn
    cases hx
    obtain⟨a,as1,rfl,h1,h2⟩:=hr.inv
    obtain⟨b,as2,rfl,h3,h4⟩:=h2.inv
    rw[(tK h1).1,bJ h3,h4.nil_inv]
    obtain⟨hlen,hget⟩:=uK hl
    refine FnW.shelf (r:=fun _=>.string ⟨(Go.Lib.join (l.map (·.data.toList)) sep.data.toList).toArray⟩) (fun vs w=>call99 vs w) (fun F w vs=>.str _) (fun F w vs hlt ha=>?_) ⟨r,Sub.refl r,sh,.str _⟩
    obtain⟨v1,vs1,rfl,k1,k2⟩:=ha.cons1
    obtain⟨v2,vs2,rfl,k3,k4⟩:=k2.cons1
    rw[k4.nil1]
    cases k3
    have none:∀ (a:Option Addr) (c:Nat),rows=[]→Calls Tryz.prog 99 #[.slice a 0 c,.string sep] w fun e w'=>e = .returned (.string ⟨(Go.Lib.join (l.map (·.data.toList)) sep.data.toList).toArray⟩)∧Below w.heap.size w w':=fun a c h0=>by
     subst h0
     have:l=[]:=List.eq_nil_of_length_eq_zero (by simpa using hlen)
     subst this
     exact(Tryz.strings_Join_none a c sep w).mono fun e w' ⟨he,hw⟩=>⟨by rw[he];rfl,hw▸Below.refl _ _⟩
    cases k1 with
    | fs0 a cap=>exact none a cap rfl
    | fs rows blk off s cap g hcap hF hs hc ho hv =>
      by_cases h0:rows=[]
      ·have:=none (some ⟨blk,off,Option.none⟩) cap h0
       subst h0
       exact this
      ·have hs1:s=1:=by
        obtain⟨row,rest,rfl⟩:=List.exists_cons_of_ne_nil h0
        have hl0:l.length=rest.length+1:=by simpa using hlen
        obtain⟨x,hx0⟩:∃ x,l[0]?=some x:=⟨_,List.getElem?_eq_getElem (by omega)⟩
        have:=hget 0 x hx0
        simp only[List.getElem?_cons_zero,oSI]at this
        rw[←hs row (by simp),this];rfl
       subst hs1
       rw[←hlen]
       refine Tryz.strings_Join blk off cap l sep w (fun j x hj=>?_) (hlt _ hF) (by omega) (by omega) (by omega)
       have h5:=hget j x hj
       have h6:=hc j _ 0 _ h5 rfl
       have h7:=hv j _ 0 _ h5 rfl
       generalize g j 0=y at h6 h7
       cases h7
       simpa using h6
   ·cases hx
  ·cases hx
 ·cases hx
variable {D:Nat→Option XFn} {Y:Nat→Option YI} {r:Nat→Option Nat} {h:XH} {H:Hp} {B:Base}

def nG (c:UInt8):List UInt8→List (List UInt8)
 | []=>[[]]
 | b::r=>if b=c then []::nG c r else match nG c r with
   | x::l=>(b::x)::l
   | []=>[[b]]
theorem xN (c:UInt8):∀ s:List UInt8,Lib.splitK [c] 0 (Lib.count s [c]) s=nG c s
 | []=>by rw[Lib.count_one];rfl
 | b::l=>by
   have ih:=xN c l
   by_cases h:b=c
   ·subst h
    have hix:Lib.index (b::l) [b]=0:=by rw[Lib.index];simp[List.isPrefixOf]
    rw[Lib.count_cons_eq,Nat.add_comm,Lib.splitK,hix]
    simp only[nG,if_true]
    rw[if_neg (by decide)]
    simp[ih]
   ·have hp:([c]:List UInt8).isPrefixOf (b::l)=false:=by simp[List.isPrefixOf,Ne.symm h]
    have hix:Lib.index (b::l) [c]=if Lib.index l [c] == -1 then -1 else Lib.index l [c]+1:=by rw[Lib.index,hp];simp
    rw[Lib.count_cons_ne b c l h]
    simp only[nG,if_neg h,←ih]
    cases hk:Lib.count l [c]with
    | zero=>rfl
    | succ k =>
      simp only[Lib.splitK]
      by_cases hm:Lib.index l [c] = -1
      ·rw[hix,if_pos (beq_iff_eq.2 hm)]
       simp[hm]
      ·have hge:=Lib.index_ge l [c]
       obtain⟨j,hj⟩:∃ j:Nat,Lib.index l [c]=j:=⟨(Lib.index l [c]).toNat,by omega⟩
       rw[hix,if_neg (fun e=>hm (beq_iff_eq.1 e)),hj]
       have h1:¬(((j:Int)+1 == -1)=true):=by simp;omega
       have h2:¬(((j:Int) == -1)=true):=by simp
       rw[if_neg h1,if_neg h2]
       have e:((j:Int)+1).toNat=j+1:=by omega
       simp[e,Nat.add_right_comm]

def aBY:List AV→XH→Option (AV×XH):=fun xs h=>match xs with
 | [.str s,.str ⟨⟨[c]⟩⟩]=>if s.size≤100000 then some (.fs ((nG c s.data.toList).map fun l=>[.str ⟨⟨l⟩⟩]),h) else none
 | _=>none
theorem aJh:eY D 83 aBY:=by
 intro B Y r h H xs ys v h' sh hr hx
 unfold aBY at hx
 split at hx
 ·rename_i s c
  split at hx
  ·rename_i hn
   cases hx
   obtain⟨a,as1,rfl,h1,h2⟩:=hr.inv
   obtain⟨b,as2,rfl,h3,h4⟩:=h2.inv
   rw[bJ h1,bJ h3,h4.nil_inv]
   have hv:∀ x∈(nG c s.data.toList).map (fun l=>[AV.str ⟨⟨l⟩⟩]),∀ z∈x,Gd z:=fun x hx z hz=>by
    obtain⟨l,_,rfl⟩:=List.mem_map.1 hx
    simp only[List.mem_singleton]at hz
    subst hz;exact .str _
   refine FnW.shelfG (fun vs w=>call83 vs w) (fun F w vs gi hl ha=>?_) ⟨r,DL.Sub.refl r,sh,(Gd.fs _ hv).rn⟩
   obtain⟨hF3,m,hm⟩:=gi.2.1 3 (by simp[zG])
   rw[ha.strStr]
   refine(Tryz.strings_Split s ⟨#[c]⟩ m w (by omega) hm (by simp[ByteArray.size])).mono ?_
   rintro e w' ⟨rfl,rfl⟩
   have hsp:((Lib.splitB ⟨#[c]⟩ 0 (Lib.countB s ⟨#[c]⟩) s).map (·.data.toList))=nG c s.data.toList:=by
    rw[Lib.splitB_data];exact xN c s.data.toList
   have hlen:(Lib.splitB ⟨#[c]⟩ 0 (Lib.countB s ⟨#[c]⟩) s).length=Lib.countB s ⟨#[c]⟩+1:=Lib.splitB_all _ (by simp[ByteArray.size]) 0 _ _ rfl
   obtain⟨L,hL⟩:∃ L,L=Lib.splitB ⟨#[c]⟩ 0 (Lib.countB s ⟨#[c]⟩) s:=⟨_,rfl⟩
   rw[←hL]at hsp hlen ⊢
   have hrows:(nG c s.data.toList).map (fun l=>[AV.str ⟨⟨l⟩⟩])=L.map fun x=>[AV.str x]:=by
    rw[←hsp,List.map_map]
    rfl
   rw[hrows]
   refine⟨_,fun b=>F b∨b=w.heap.size,rfl,(Below.refl _ w).alloc (Nat.le_refl _) _,fun b hb=>.inl hb,fun b hb=>hb.elim .inl fun e=>.inr (by omega),fun b hb=>?_,?_⟩
   ·rcases hb with hb|rfl
    ·have:=hl b hb;simp;omega
    ·simp
   ·have hcell:∀ (j:Nat) (x:ByteArray),L[j]?=some x→(w.alloc (.cells (L.map Value.string).toArray 9)).cell? ⟨w.heap.size,j,none⟩=some (.string x):=fun j x hj=>by
     have hh:(w.alloc (.cells (L.map Value.string).toArray 9)).heap[w.heap.size]?=some (.cells (L.map Value.string).toArray 9 (0,0)):=by
      show (w.heap.push _)[w.heap.size]?=_
      simp
     unfold World.cell?
     dsimp only
     rw[hh]
     simp[hj]
    have hlen':(L.map fun x=>[AV.str x]).length=Lib.countB s ⟨#[c]⟩+1:=by rw[List.length_map,hlen]
    rw[←hlen']
    refine .fs _ w.heap.size 0 1 _ (fun i _=>.string (L.getD i ByteArray.empty)) (by omega) (.inr rfl) (fun x hx=>?_) (fun i x j z hi hj=>?_) (fun _ _=>rfl) (fun i x j z hi hj=>?_)
    ·obtain⟨y,_,rfl⟩:=List.mem_map.1 hx;rfl
    ·rw[List.getElem?_map,Option.map_eq_some_iff]at hi
     obtain⟨y,hy,rfl⟩:=hi
     cases j with
     | zero =>
       rw[List.getD_eq_getElem?_getD,hy]
       simpa using hcell i y hy
     | succ j=>simp at hj
    ·rw[List.getElem?_map,Option.map_eq_some_iff]at hi
     obtain⟨y,hy,rfl⟩:=hi
     cases j with
     | zero =>
       simp only[List.getElem?_cons_zero,oSI]at hj
       subst hj
       rw[List.getD_eq_getElem?_getD,hy]
       exact .str _
     | succ j=>simp at hj
  ·cases hx
 ·cases hx

theorem aKV {F:Nat→Prop} {w:World} (gi:GI F w):Lib.TabIs prog w "internal/strconv.uint64pow10" IntKind.u64 Lib.pow10Tab:=by
 obtain⟨_,e,fr,h2⟩:=gi.2.2.1 (0,(List.range 20).map fun i=>Value.int .u64 ((10^i:Nat):Int)) (by simp[zH])
 have hg:prog.globalNamed "internal/strconv.uint64pow10" = some 0:=by kernel_rfl
 unfold Lib.TabIs World.var?
 rw[hg]
 simp only[Option.bind_some]
 dsimp only at h2
 rw[h2]
 simp[Lib.pow10Tab,Function.comp_def]

def uS:List AV→XH→Option (AV×XH):=fun xs h=>match xs with
 | [.int .i64 n]=>if -9223372036854775808≤n∧n≤9223372036854775807 then some (.str ⟨⟨Lib.itoa n⟩⟩,h) else none
 | _=>none
theorem aLA {k:IntKind} {n:Int} {as':List AV} (hr:RnL D Y r [.int k n] as'):as'=[.int k n]:=by
 obtain⟨b,as2,rfl,h3,h4⟩:=hr.inv
 rw[cL h3,h4.nil_inv]
theorem aJm:eY D 57 uS:=by
 intro B Y r h H xs ys v h' sh hr hx
 unfold uS at hx
 split at hx
 ·rename_i n
  split at hx
  ·rename_i hn
   cases hx
   rw[aLA hr]
   refine FnW.shelfG (fun vs w=>call57 vs w) (fun F w vs gi hl ha=>?_) ⟨r,DL.Sub.refl r,sh,.str _⟩
   obtain⟨b,bs,rfl,h3,h4⟩:=ha.cons1
   cases h3;rw[h4.nil1]
   refine(Tryz.strconv_Itoa n hn.1 hn.2 w (aKV gi)).mono ?_
   rintro e w' ⟨rfl,k,os,rfl⟩
   have hbel:Below w.heap.size w («Sort».grow (w.drewN k) os):=by
    have h0:(w.drewN k).heap=w.heap:=rfl
    refine⟨rfl,rfl,rfl,?_,fun j hj=>?_⟩
    ·simp[«Sort».grow,h0]
    ·simp only[«Sort».grow,h0]
     exact Array.getElem?_append_left hj
   exact⟨_,F,rfl,hbel,fun _ h=>h,fun _ h=>.inl h,fun b hb=>Nat.lt_of_lt_of_le (hl b hb) hbel.size,.str _⟩
  ·cases hx
 ·cases hx
set_option maxHeartbeats 2000000 in
set_option maxRecDepth 100000 in
theorem aRG (b g cap:Nat) (p:Value) (cur:Array Value) (fr fz:Nat×Nat) (l:List UInt8) (w:World) (hbk:w.heap[b]?=some (.cells #[p,.slice (some ⟨g,0,none⟩) l.length cap] 126 fr)) (hg:w.heap[g]?=some (.cells cur 5 fz))
 (h0:l≠[]) (hnc:l.length≤cap) (hcs:l.length≤cur.size) (h63:l.length≤9223372036854775807) (hcell:∀ (j:Nat) (x:UInt8),l[j]?=some x→cur[j]?=some (.int .u8 x.toNat)) :
 Calls prog 71 #[.pointer (some ⟨b,0,none⟩)] w fun e w'=>e = .returned (.string ⟨l.toArray⟩)∧w'=w.drew.freeze ⟨g,0,none⟩ l.length:=by
 have hl0:l.length≠0:=by simpa using h0
 have c1:w.drew.cell? ⟨b,1,none⟩=some (.slice (some ⟨g,0,none⟩) l.length cap):=by
  have:w.drew.heap[b]?=some (.cells #[p,.slice (some ⟨g,0,none⟩) l.length cap] 126 fr):=hbk
  rw[Lib.cell_of_heap this];rfl
 have hSD:(Builtin.unsafeSliceData_ #[59] 183 #[.slice (some ⟨g,0,none⟩) l.length cap]).run prog w.drew = .ok (.pointer (some ⟨g,0,none⟩)) w.drew :=
  Lib.run_unsafeSliceData_row _ _ _ _ _ _ (by omega)
 have hUS:(Builtin.unsafeString_ #[183,3] 9 #[.pointer (some ⟨g,0,none⟩),.int .i64 l.length]).run prog w.drew = .ok (.string ⟨l.toArray⟩) (w.drew.freeze ⟨g,0,none⟩ l.length):=by
  refine Lib.run_unsafeString_row w.drew 183 3 9 5 underlying183 (by kernel_rfl) g cur.size (by have hg':w.drew.heap[g]?=some (.cells cur 5 fz):=hg;simp[World.shape?,hg']) l h0 hcs h63 ?_
  intro j x hx
  have hg':w.drew.heap[g]?=some (.cells cur 5 fz):=hg
  have:=hcell j x hx
  have e:(⟨g,0,none⟩:Addr).add j=⟨g,j,none⟩:=by
   by_cases hj:j=0
   ·subst hj;simp[Addr.add]
   ·simp[Addr.add,hj]
  rw[e]
  unfold World.cell?
  dsimp only
  rw[hg']
  simpa using this
 have mixed:prog.follows .mixedOrders=true:=rfl
 have u126:=run_underlying underlying126
 have u124:=run_underlying underlying124
 have u59:=run_underlying underlying59
 have u183:=run_underlying underlying183
 have u3:=run_underlying underlying3
 have u9:=run_underlying underlying9
 have u5:=run_underlying underlying5
 go_enter func71,ntmps71
 go_wp2
 go_region_o
 all_goals (go_wp2;go_ret;exact⟨rfl,rfl⟩)

theorem aFD:∃ j,prog.info? 126=some j∧j.size=2:=Option.map_eq_some_iff.1 (by kernel_rfl:(prog.info? 126).map (·.size)=some 2)
theorem aLV:liesAt prog prog.depth 126 (2/prog.cellsOf 126) 0 126 1=true:=by kernel_rfl

set_option maxHeartbeats 2000000 in
set_option maxRecDepth 100000 in
theorem aAC (b:Nat) (w:World) (h0:w.cell? ⟨b,0,none⟩=some (.pointer none)) (hsh:w.shape? b=some (126,2)) (hfz:w.frozen? ⟨b,0,none⟩=false) :
 Calls prog 115 #[.pointer (some ⟨b,0,none⟩)] w fun e w'=>e = .returned (.tuple #[])∧w'=w.setCell ⟨b,0,none⟩ (.pointer (some ⟨b,0,none⟩)):=by
 obtain⟨j,hj,hjs⟩:=aFD
 have mixed:prog.follows .mixedOrders=true:=rfl
 have u126:=run_underlying underlying126
 have u124:=run_underlying underlying124
 have u215:=run_underlying underlying215
 have u9:=run_underlying underlying9
 have u4:=run_underlying underlying4
 go_enter func115,ntmps115
 go_wp2
 rw[Lib.run_to_unsafe w ⟨b,0,none⟩ underlying124 underlying215 hj (by rw[hjs];decide) hsh (Nat.zero_lt_succ 1)]
 simp only[Result.andThen]
 rw[Oper.upon_value]
 go_wp2
 rw[run_callFunc_extern func140 (by kernel_rfl) (by kernel_rfl) (by kernel_rfl) (e:=Extern.AbiNoEscape.same) (by kernel_rfl)]
 rw[Lib.run_noEscape]
 simp only[Result.andThen]
 rw[Oper.upon_value]
 go_wp2
 rw[Lib.run_from_unsafe w ⟨b,0,none⟩ underlying215 underlying124 hj hsh aLV]
 simp only[Result.andThen]
 rw[Oper.upon_value]
 go_wp2
 go_end0
 exact⟨rfl,rfl⟩

set_option maxHeartbeats 2000000 in
set_option maxRecDepth 100000 in
theorem aCt (b:Nat) (w:World) (h0:w.cell? ⟨b,0,none⟩=some (.pointer (some ⟨b,0,none⟩))) :
 Calls prog 115 #[.pointer (some ⟨b,0,none⟩)] w fun e w'=>e = .returned (.tuple #[])∧w'=w:=by
 obtain⟨j,hj,hjs⟩:=aFD
 have mixed:prog.follows .mixedOrders=true:=rfl
 have u126:=run_underlying underlying126
 have u124:=run_underlying underlying124
 have u215:=run_underlying underlying215
 have u9:=run_underlying underlying9
 have u4:=run_underlying underlying4
 go_enter func115,ntmps115
 go_wp2
 rw[Lib.run_neq_ptr_same w _ underlying124 hj]
 go_wp2
 go_end0
 exact⟨rfl,rfl⟩

section
variable {D:Nat→Option XFn} {Y:Nat→Option YI} {r:Nat→Option Nat} {h:XH} {H:Hp} {B:Base}

def aCa:List AV→XH→Option (AV×XH):=fun xs h=>match xs with
 | [.bp b]=>match aJ h b with
   | some (.blk _ (.cells true (.nilpt::l)))=>some (.tup [],h.set b (some (.blk false (.cells true (.pt b 0::l)))))
   | some (.blk _ (.cells true (.pt b' 0::_)))=>if b'=b then some (.tup [],h) else none
   | _=>none
 | _=>none
theorem aCo {b:Nat} {g:Bool} {x:ABlk} (h0:aJ h b=some (.blk g x)):aF h b=some x:=by unfold aF;rw[h0]
theorem aDR {b:Nat} {w:World} {c:Array Value} {e:TypeId} {fr:Nat×Nat} {v:Value} (hb:w.heap[b]?=some (.cells c e fr)) (j:Nat) (hv:c[j]?=some v):w.cell? ⟨b,j,none⟩=some v:=by
 unfold World.cell?
 dsimp only
 rw[hb]
 simpa using hv

theorem aEF:eY D 115 aCa:=by
 intro B Y r h H xs ys v h' sh hr hx
 unfold aCa at hx
 split at hx
 ·rename_i b
  obtain⟨y,as1,rfl,h1,h2⟩:=hr.inv
  obtain⟨c,rfl,hrb⟩:=aIM h1
  rw[h2.nil_inv]
  split at hx
  ·rename_i g l hb
   cases hx
   obtain⟨g',cs',_,k2,k3,_⟩:=sh.cells hrb (aCo hb)
   obtain⟨z,l',rfl,k4,k5⟩:=k3.inv
   rw[yD k4]at k2
   refine⟨fun vs w=>call115 vs w,fun F w vs hB st ha=>?_⟩
   obtain⟨v1,vs1,rfl,a1,a2⟩:=ha.cons1
   rw[a2.nil1]
   cases a1 with
   | bp _ carr fr hcb hsz =>
   obtain⟨o,ho,hrb'⟩:=st.blk c _ k2
   rw[hcb]at ho
   simp only[oSI]at ho
   subst ho
   cases hrb' with
   | cells _ _ _ _ _ hfr hl hone hcells =>
   have hlt:c<w.heap.size:=(Array.getElem?_eq_some_iff.1 hcb).1
   obtain⟨v0,hv0⟩:∃ v0,carr[0]?=some v0:=⟨carr[0]'(by omega),Array.getElem?_eq_getElem _⟩
   have hn:=hcells 0 _ v0 rfl hv0
   cases hn
   refine callsIn_wide.2 ((aAC c w (aDR hcb 0 hv0) (by simp[World.shape?,hcb,hsz,aMr]) (by
    have:=hfr 0 (by omega)
    unfold World.frozen?
    dsimp only
    rw[hcb]
    exact this)).mono ?_)
   rintro e w' ⟨rfl,rfl⟩
   have hheap:(w.setCell ⟨c,0,none⟩ (.pointer (some ⟨c,0,none⟩))).heap=w.heap.setIfInBounds c (.cells (carr.setIfInBounds 0 (.pointer (some ⟨c,0,none⟩))) aMr fr):=by
    apply Array.ext_getElem?
    intro j
    rw[Array.getElem?_setIfInBounds]
    simp only[World.setCell,Array.getElem?_modify]
    by_cases hj:c=j
    ·subst hj
     rw[if_pos rfl,if_pos rfl,hcb]
     simp[hlt]
    ·rw[if_neg hj,if_neg hj]
   obtain⟨e1,e2⟩:=hM (w':=w.setCell ⟨c,0,none⟩ (.pointer (some ⟨c,0,none⟩))) (y:=.cells true (.pt c 0::l')) st k2 rfl hcb hheap ⟨rfl,rfl,rfl⟩ (fun c1 e1 fr1 hh=>by cases hh;exact⟨_,_,_,rfl,by simp⟩) (fun F1 w1 hu=>by
    refine .cells true _ _ _ fr (fun i hi=>hfr i (by simpa using hi)) (by simpa using hl) (fun i v hv=>?_) (fun i a v ha hv=>?_)
    ·rw[Array.getElem?_setIfInBounds]at hv
     split at hv
     ·split at hv
      ·cases hv;rfl
      ·cases hv
     ·exact hone i v hv
    ·rw[Array.getElem?_setIfInBounds]at hv
     split at hv
     ·rename_i hi0
      subst hi0
      split at hv
      ·cases hv
       simp only[List.getElem?_cons_zero,oSI]at ha
       subst ha
       exact .pt _ _
      ·cases hv
     ·rename_i hi0
      obtain⟨m,rfl⟩:∃ m,i=m+1:=⟨i-1,by omega⟩
      exact(hcells (m+1) a v (by simpa using ha) hv).up hu)
   refine⟨.tuple #[],.tup [],F,_,rfl,e1,e2,.tup _ _ rfl (by simp),r,DL.Sub.refl r,sh.turn hb hrb (.cells c false true _ _ (RnL.cons (.pt _ _ _ hrb) k5) (by simp)),.tup _ _ rfl (by simp)⟩
  ·rename_i g b' l hb
   split at hx
   ·rename_i hbb
    cases hx
    subst hbb
    obtain⟨g',cs',_,k2,k3,_⟩:=sh.cells hrb (aCo hb)
    obtain⟨z,l',rfl,k4,k5⟩:=k3.inv
    obtain⟨c',rfl,hr'⟩:=iB k4
    rw[hrb]at hr'
    cases hr'
    refine⟨fun vs w=>call115 vs w,fun F w vs hB st ha=>?_⟩
    obtain⟨v1,vs1,rfl,a1,a2⟩:=ha.cons1
    rw[a2.nil1]
    cases a1 with
    | bp _ carr fr hcb hsz =>
    obtain⟨o,ho,hrb'⟩:=st.blk c _ k2
    rw[hcb]at ho
    simp only[oSI]at ho
    subst ho
    cases hrb' with
    | cells _ _ _ _ _ hfr hl hone hcells =>
    obtain⟨v0,hv0⟩:∃ v0,carr[0]?=some v0:=⟨carr[0]'(by omega),Array.getElem?_eq_getElem _⟩
    have hn:=hcells 0 _ v0 rfl hv0
    cases hn
    refine callsIn_wide.2 ((aCt c w (aDR hcb 0 hv0)).mono ?_)
    rintro e w' ⟨rfl,rfl⟩
    exact⟨.tuple #[],.tup [],F,H,rfl,Ext.refl _ _ _,st,.tup _ _ rfl (by simp),r,DL.Sub.refl r,sh,.tup _ _ rfl (by simp)⟩
   ·cases hx
  ·cases hx
 ·cases hx

def wI:List AV→Option (List UInt8)
 | []=>some []
 | .int .u8 n::r=>if 0≤n∧n<256 then (wI r).map (UInt8.ofNat n.toNat :: ·) else none
 | _=>none
theorem aDV:∀ {bs:List AV} {l:List UInt8},wI bs=some l→l.length=bs.length∧∀ (j:Nat) (x:UInt8),l[j]?=some x→bs[j]?=some (.int .u8 x.toNat)
 | [],l,h=>by simp only[wI,oSI]at h;subst h;simp
 | v::bs,l,h=>by
   unfold wI at h
   split at h
   ·rename_i h0;cases h0
   ·rename_i n r h0
    cases h0
    split at h
    ·rename_i hn
     cases hl:wI bs with
     | none=>rw[hl]at h;cases h
     | some l' =>
       rw[hl]at h
       simp only[Option.map_some,oSI]at h
       subst h
       obtain⟨h1,h2⟩:=aDV hl
       refine⟨by simp[h1],fun j x hj=>?_⟩
       cases j with
       | zero =>
         simp only[List.getElem?_cons_zero,oSI]at hj
         subst hj
         have:((UInt8.ofNat n.toNat).toNat:Int)=n:=by
          rw[UInt8.toNat_ofNat']
          have:n.toNat%2^8=n.toNat:=Nat.mod_eq_of_lt (by omega)
          rw[this];omega
         rw[this];rfl
       | succ j=>exact h2 j x (by simpa using hj)
    ·cases h
   ·cases h

def aDf:List AV→XH→Option (AV×XH):=fun xs h=>match xs with
 | [.bp b]=>match aJ h b with
   | some (.blk _ (.cells _ [_,.sb g n]))=>match aJ h g with
     | some (.blk _ (.cells true bs))=>match wI (bs.take n)with
       | some (x::l)=>if n≤bs.length∧g≠b∧n≤1000000 then some (.str ⟨⟨x::l⟩⟩,h.set g none) else none
       | _=>none
     | _=>none
   | _=>none
 | _=>none

theorem pR {w:World} {g n:Nat} {c:Array Value} {e:TypeId} {fr:Nat×Nat} (hg:w.heap[g]?=some (.cells c e fr)):∃ fr',(w.drew.freeze ⟨g,0,none⟩ n).heap[g]?=some (.cells c e fr')∧(∀ j,j≠g→(w.drew.freeze ⟨g,0,none⟩ n).heap[j]?=w.heap[j]?) ∧
 (w.drew.freeze ⟨g,0,none⟩ n).heap.size=w.heap.size∧SameIO w (w.drew.freeze ⟨g,0,none⟩ n):=by
 unfold World.freeze
 split
 ·exact⟨fr,hg,fun _ _=>rfl,rfl,⟨rfl,rfl,rfl⟩⟩
 ·have h0:w.drew.heap=w.heap:=rfl
  refine⟨if fr.1==fr.2 then (0,0+n) else (min fr.1 0,max fr.2 (0+n)),?_,fun j hj=>?_,by simp[h0],⟨rfl,rfl,rfl⟩⟩
  ·simp only[h0,Array.getElem?_modify,if_true,hg,Option.map_some]
  ·simp only[h0,Array.getElem?_modify]
   rw[if_neg (Ne.symm hj)]

theorem aJl:eY D 71 aDf:=by
 intro B Y r h H xs ys v h' sh hr hx
 unfold aDf at hx
 split at hx
 ·rename_i b
  obtain⟨y,as1,rfl,h1,h2⟩:=hr.inv
  obtain⟨c,rfl,hrb⟩:=aIM h1
  rw[h2.nil_inv]
  split at hx
  ·rename_i fl wr a0 g n hb
   split at hx
   ·rename_i fl2 bs hg
    split at hx
    ·rename_i x l hbl
     split at hx
     ·rename_i hc
      cases hx
      obtain⟨_,cs',_,k2,k3,_⟩:=sh.cells hrb (aCo hb)
      obtain⟨z0,l0,rfl,k4,k5⟩:=k3.inv
      obtain⟨z1,l1,rfl,k6,k7⟩:=k5.inv
      rw[k7.nil_inv]at k2
      obtain⟨gc,rfl,hrg⟩:=aIK k6
      obtain⟨_,bs',_,m2,m3,_⟩:=sh.cells hrg (aCo hg)
      obtain⟨hbl1,hbl2⟩:=aDV hbl
      have hlen:(x::l).length=n:=by rw[hbl1,List.length_take];omega
      have hne:gc≠c:=fun e=>hc.2.1 (sh.inj g b c _ _ hg hb (e▸hrg) hrb)
      refine⟨fun vs w=>call71 vs w,fun F w vs hB st ha=>?_⟩
      obtain⟨v1,vs1,rfl,a1,a2⟩:=ha.cons1
      rw[a2.nil1]
      cases a1 with
      | bp _ carr fr hcb hsz =>
      obtain⟨o,ho,hrb'⟩:=st.blk c _ k2
      rw[hcb]at ho
      simp only[oSI]at ho
      subst ho
      cases hrb' with
      | cells _ _ _ _ _ hfr hl hone hcells =>
      obtain⟨v0,hv0⟩:∃ v0,carr[0]?=some v0:=⟨carr[0]'(by omega),Array.getElem?_eq_getElem _⟩
      obtain⟨v1,hv1⟩:∃ v1,carr[1]?=some v1:=⟨carr[1]'(by omega),Array.getElem?_eq_getElem _⟩
      have hs:=hcells 1 _ v1 rfl hv1
      cases hs with
      | sb _ _ cap gcur gfr hgb hcap hle =>
      have hcarr:carr = #[v0,.slice (some ⟨gc,0,none⟩) n cap]:=by
       apply Array.ext_getElem?
       intro j
       match j with
       | 0=>rw[hv0];rfl
       | 1=>rw[hv1];rfl
       | j+2=>rw[Array.getElem?_eq_none (by omega),Array.getElem?_eq_none (by simp)]
      rw[hcarr]at hcb
      obtain⟨o2,ho2,hrg'⟩:=st.blk gc _ m2
      rw[hgb]at ho2
      simp only[oSI]at ho2
      subst ho2
      cases hrg' with
      | cells _ _ _ _ _ hfr2 hl2 hone2 hcells2 =>
      have hl2':bs.length=bs'.length:=m3.1
      rw[←hlen]at hcb
      refine callsIn_wide.2 ((aRG c gc cap v0 gcur fr gfr (x::l) w hcb hgb (by simp) (by omega) (by omega) (by omega) (fun j u hj=>?_)).mono ?_)
      ·have hb1:=hbl2 j u hj
       rw[List.getElem?_take]at hb1
       split at hb1
       ·obtain⟨u',hu1,hu2⟩:=m3.get hb1
        have hlt:j<bs'.length:=(List.getElem?_eq_some_iff.1 hu1).1
        obtain⟨q,hq⟩:∃ q,gcur[j]?=some q:=⟨gcur[j]'(by omega),Array.getElem?_eq_getElem _⟩
        have h9:=hcells2 j u' q hu1 hq
        rw[cL hu2]at h9
        cases h9
        exact hq
       ·cases hb1
      ·rintro e w' ⟨rfl,rfl⟩
       obtain⟨fr',f1,f2,f3,f4⟩:=pR (n:=(x::l).length) hgb
       have hE:Ext F w H F (w.drew.freeze ⟨gc,0,none⟩ (x::l).length) (jZ H gc):=by
        refine⟨fun _ h=>h,fun _ h=>.inl h,fun j hj=>?_,fun j hj=>?_,by rw[f3];exact Nat.le_refl _,fun j hj hw=>?_,fun j c1 e1 fr1 hj=>?_,f4⟩
        ·unfold jZ at hj
         split at hj
         ·cases hj
         ·exact .inl hj
        ·left
         unfold oM at hj ⊢
         unfold jZ at hj
         by_cases hjg:j=gc
         ·simp[hjg]at hj
         ·simpa [hjg]using hj
        ·refine f2 j fun e=>?_
         subst e
         unfold oM at hw
         rw[m2]at hw
         simp[ABlk.wr]at hw
        ·by_cases hjg:j=gc
         ·subst hjg
          rw[hgb]at hj
          cases hj
          exact⟨_,_,_,f1,rfl⟩
         ·exact⟨c1,e1,fr1,by rw[f2 j hjg];exact hj,rfl⟩
       have hU:=hE.up st
       refine⟨.string ⟨(x::l).toArray⟩,.str ⟨⟨x::l⟩⟩,F,jZ H gc,rfl,hE,⟨fun j hj=>by rw[f3];exact st.lt j hj,fun j y hj=>?_,fun j y hj=>?_⟩,.str _,r,DL.Sub.refl r,⟨fun b1 c1 hb1=>by simpa using sh.dom b1 c1 hb1,fun b1 b2 c1 x1 x2 q1 q2 q3 q4=>?_,fun b1 x1 q1=>?_,sh.gh.elim fun G hG=>⟨_,hG.drop hg hrg⟩⟩,.str _⟩
       ·unfold jZ at hj
        split at hj
        ·cases hj
        ·exact st.dis j y hj
       ·unfold jZ at hj
        split at hj
        ·cases hj
        ·rename_i hjg
         obtain⟨o,o1,o2⟩:=st.blk j y hj
         exact⟨o,by rw[f2 j hjg];exact o1,o2.up hU⟩
       ·have live:∀ b z,aJ (h.set g none) b=some z→aJ h b=some z:=fun b z hz=>by
         rw[dH]at hz
         split at hz
         ·cases hz
         ·exact hz
        exact sh.inj b1 b2 c1 x1 x2 (live _ _ q1) (live _ _ q2) q3 q4
       ·rw[dH]at q1
        split at q1
        ·cases q1
        ·rename_i hcd
         obtain⟨c2,y2,w1,w2,w3⟩:=sh.blk b1 x1 q1
         refine⟨c2,y2,w1,?_,w3⟩
         unfold jZ
         rw[if_neg]
         ·exact w2
         ·intro e
          subst e
          exact hcd ⟨sh.inj b1 g _ x1 _ q1 hg w1 hrg,lY hg⟩
     ·cases hx
    ·cases hx
   ·cases hx
  ·cases hx
 ·cases hx
end
section
variable {D:Nat→Option XFn} {Y:Nat→Option YI} {r:Nat→Option Nat} {h:XH} {H:Hp} {B:Base}
theorem rQ {s t:ByteArray} {as':List AV} (hr:RnL D Y r [.str s,.str t] as'):as'=[.str s,.str t]:=by
 obtain⟨a,as1,rfl,h1,h2⟩:=hr.inv
 obtain⟨b,as2,rfl,h3,h4⟩:=h2.inv
 rw[bJ h1,bJ h3,h4.nil_inv]

def yO:List AV→XH→Option (AV×XH):=fun xs h=>match xs with
 | [.str s,.str p]=>if s.size≤1000000 then some (.bool (Lib.hasSuffix s.data.toList p.data.toList),h) else none
 | _=>none
theorem aJo:eY D 37 yO:=by
 intro B Y r h H xs ys v h' sh hr hx
 unfold yO at hx
 split at hx
 ·rename_i s p
  split at hx
  ·rename_i hn
   cases hx
   rw[rQ hr]
   refine FnW.shelf (r:=fun _=>.bool (Lib.hasSuffix s.data.toList p.data.toList)) (fun vs w=>call37 vs w) (fun F w vs=>.bool _) (fun F w vs hl ha=>?_) ⟨r,DL.Sub.refl r,sh,.bool _⟩
   rw[ha.strStr]
   exact(Tryz.strings_HasSuffix s p w (by omega)).mono fun e w' ⟨he,hw⟩=>⟨he,hw▸Below.refl _ _⟩
  ·cases hx
 ·cases hx

def mO:List AV→XH→Option (AV×XH):=fun xs h=>match xs with
 | [.str s,.str p]=>some (.tup [.str ⟨⟨Lib.trimPrefix s.data.toList p.data.toList⟩⟩,.bool (Lib.hasPrefix s.data.toList p.data.toList)],h)
 | _=>none
theorem aJk:eY D 72 mO:=by
 intro B Y r h H xs ys v h' sh hr hx
 unfold mO at hx
 split at hx
 ·rename_i s p
  cases hx
  rw[rQ hr]
  have two:∀ (F:Nat→Prop) (w:World),Rv F w (.tup [.str ⟨⟨Lib.trimPrefix s.data.toList p.data.toList⟩⟩,.bool (Lib.hasPrefix s.data.toList p.data.toList)]) (.tuple #[.string ⟨(Lib.trimPrefix s.data.toList p.data.toList).toArray⟩,.bool (Lib.hasPrefix s.data.toList p.data.toList)]):=fun F w =>
   .tup _ _ rfl fun i x y hx hy=>by
    match i with
    | 0=>simp at hx hy;subst hx hy;exact .str _
    | 1=>simp at hx hy;subst hx hy;exact .bool _
    | k+2=>simp at hx
  refine FnW.shelf (r:=fun _=>.tuple #[.string ⟨(Lib.trimPrefix s.data.toList p.data.toList).toArray⟩,.bool (Lib.hasPrefix s.data.toList p.data.toList)]) (fun vs w=>call72 vs w) (fun F w vs=>two F w) (fun F w vs hl ha=>?_) ⟨r,DL.Sub.refl r,sh,(Gd.tup _ (fun c hc=>by
   simp only[List.mem_cons,List.not_mem_nil,or_false]at hc
   rcases hc with rfl|rfl
   ·exact .str _
   ·exact .bool _)).rn⟩
  rw[ha.strStr]
  exact(Tryz.strings_CutPrefix s p w).mono fun e w' ⟨he,hw⟩=>⟨he,hw▸Below.refl _ _⟩
 ·cases hx

def yN:List AV→XH→Option (AV×XH):=fun xs h=>match xs with
 | [.str s,.str ⟨⟨[c]⟩⟩]=>if c.toNat<128∧s.size≤1000000 then some (.str ⟨⟨Lib.trimRightB s.data.toList c⟩⟩,h) else none
 | _=>none
theorem aJi:eY D 80 yN:=by
 intro B Y r h H xs ys v h' sh hr hx
 unfold yN at hx
 split at hx
 ·rename_i s c
  split at hx
  ·rename_i hn
   cases hx
   rw[rQ hr]
   refine FnW.shelf (r:=fun _=>.string ⟨(Lib.trimRightB s.data.toList c).toArray⟩) (fun vs w=>call80 vs w) (fun F w vs=>.str _) (fun F w vs hl ha=>?_) ⟨r,DL.Sub.refl r,sh,.str _⟩
   rw[ha.strStr]
   exact(Tryz.strings_TrimRight_one s c hn.1 w (by omega)).mono fun e w' ⟨he,hw⟩=>⟨he,hw▸Below.refl _ _⟩
  ·cases hx
 ·cases hx

def aDg:List AV→XH→Option (AV×XH):=fun xs h=>match xs with
 | [.fs rows,.str x]=>match sU rows with
   | some l=>if l.length≤1000000 then some (.bool (Lib.containsS l x),h) else none
   | none=>none
 | _=>none
theorem aJn:eY D 47 aDg:=by
 intro B Y r h H xs ys v h' sh hr hx
 unfold aDg at hx
 split at hx
 ·rename_i rows x
  split at hx
  ·rename_i l hl
   split at hx
   ·rename_i hn
    cases hx
    obtain⟨a,as1,rfl,h1,h2⟩:=hr.inv
    obtain⟨b,as2,rfl,h3,h4⟩:=h2.inv
    rw[(tK h1).1,bJ h3,h4.nil_inv]
    obtain⟨hlen,hget⟩:=uK hl
    refine FnW.shelf (r:=fun _=>.bool (Lib.containsS l x)) (fun vs w=>call47 vs w) (fun F w vs=>.bool _) (fun F w vs hlt ha=>?_) ⟨r,DL.Sub.refl r,sh,.bool _⟩
    obtain⟨v1,vs1,rfl,k1,k2⟩:=ha.cons1
    obtain⟨v2,vs2,rfl,k3,k4⟩:=k2.cons1
    rw[k4.nil1]
    cases k3
    have none:∀ (a:Option Addr) (c:Nat),rows=[]→Calls Tryz.prog 47 #[.slice a 0 c,.string x] w fun e w'=>e = .returned (.bool (Lib.containsS l x))∧Below w.heap.size w w':=fun a c h0=>by
     subst h0
     have:l=[]:=List.eq_nil_of_length_eq_zero (by simpa using hlen)
     subst this
     exact(Tryz.slices_Contains_string_empty a c x w).mono fun e w' ⟨he,hw⟩=>⟨by rw[he];rfl,hw▸Below.refl _ _⟩
    cases k1 with
    | fs0 a cap=>exact none a cap rfl
    | fs rows blk off s cap g hcap hF hs hc ho hv =>
      by_cases h0:rows=[]
      ·have:=none (some ⟨blk,off,Option.none⟩) cap h0
       subst h0
       exact this
      ·have hs1:s=1:=by
        obtain⟨row,rest,rfl⟩:=List.exists_cons_of_ne_nil h0
        have hl0:l.length=rest.length+1:=by simpa using hlen
        obtain⟨y,hy0⟩:∃ y,l[0]?=some y:=⟨_,List.getElem?_eq_getElem (by omega)⟩
        have:=hget 0 y hy0
        simp only[List.getElem?_cons_zero,oSI]at this
        rw[←hs row (by simp),this];rfl
       subst hs1
       have hcl:=Tryz.slices_Contains_string blk off l.length cap l x w (Nat.le_refl _) (by omega) (fun j hj=>by
        obtain⟨y,hy⟩:∃ y,l[j]?=some y:=⟨_,List.getElem?_eq_getElem hj⟩
        have h5:=hget j y hy
        have h6:=hc j _ 0 _ h5 rfl
        have h7:=hv j _ 0 _ h5 rfl
        rw[List.getD_eq_getElem?_getD,hy]
        generalize g j 0=z at h6 h7
        cases h7
        simpa using h6)
       rw[List.take_length]at hcl
       rw[←hlen]
       exact hcl.mono fun e w' ⟨he,hw⟩=>⟨he,hw▸Below.refl _ _⟩
   ·cases hx
  ·cases hx
 ·cases hx
end
def p75 (r:Nat):Bool:=decide (r<32)||decide (126<r)

set_option maxHeartbeats 2000000 in
set_option maxRecDepth 100000 in
theorem aWN (x:Nat) (hx:x≤1114111) (W:World):FnGives prog 75 #[] #[encR x] (.bool (p75 x)) W:=by
 unfold FnGives
 have u21:=run_underlying underlying21
 have u4:=run_underlying underlying4
 show Calls prog 75 (#[encR x] ++ #[]) W _
 by_cases h1:x<32
 ·have e:p75 x=true:=by simp[p75,h1]
  rw[e]
  have h1':(x:Int)<32:=by omega
  go_enter func75,ntmps75
  go_wp2
  all_goals (go_ret;exact⟨rfl,0,rfl⟩)
 ·by_cases h2:126<x
  ·have e:p75 x=true:=by simp[p75,h2]
   rw[e]
   have h1':¬(x:Int)<32:=by omega
   have h2':(126:Int)<x:=by omega
   go_enter func75,ntmps75
   go_wp2
   all_goals (go_ret;exact⟨rfl,0,rfl⟩)
  ·have e:p75 x=false:=by simp[p75];omega
   rw[e]
   have h1':¬(x:Int)<32:=by omega
   have h2':¬(126:Int)<x:=by omega
   go_enter func75,ntmps75
   go_wp2
   all_goals (go_ret;exact⟨rfl,0,rfl⟩)

def oN:List UInt8→Bool
 | []=>false
 | b::r=>decide (b.toNat<32)||(decide (126<b.toNat)||oN r)
theorem aHy (s:ByteArray) (pos:Nat) (h:128≤(s.get! pos).toNat):126<(Utf8.decode s pos).1:=by
 have h0:¬(s.get! (pos+0)).toNat<128:=by
  show ¬(s.get! pos).toNat<128
  omega
 unfold Utf8.decode
 dsimp only
 rw[if_neg h0]
 split
 ·split
  ·rename_i hc;exact Nat.lt_of_lt_of_le (by decide) hc
  ·decide
 ·split
  ·split
   ·rename_i hc
    simp only[Bool.and_eq_true,decide_eq_true_eq]at hc
    omega
   ·decide
  ·split
   ·split
    ·rename_i hc
     simp only[Bool.and_eq_true,decide_eq_true_eq]at hc
     omega
    ·decide
   ·decide
theorem aHx (s:ByteArray) (pos:Nat) (h:(s.get! pos).toNat<128):Utf8.decode s pos=((s.get! pos).toNat,1):=by
 have h0:(s.get! (pos+0)).toNat<128:=h
 unfold Utf8.decode
 dsimp only
 rw[if_pos h0]
 rfl
theorem aJZ {s:ByteArray} {pos:Nat} {b:UInt8} {l:List UInt8} (h:s.data.toList.drop pos=b::l):s.get! pos=b∧pos<s.size∧s.data.toList.drop (pos+1)=l:=by
 have hlt:pos<s.data.toList.length:=by
  rcases Nat.lt_or_ge pos s.data.toList.length with h1|h1
  ·exact h1
  ·rw[List.drop_eq_nil_of_le h1]at h;cases h
 have hsz:s.size=s.data.toList.length:=by rw[Array.length_toList];rfl
 rw[List.drop_eq_getElem_cons hlt]at h
 simp only[List.cons.injEq]at h
 refine⟨?_,by omega,h.2⟩
 rw[←h.1]
 have:pos<s.data.size:=by simpa using hlt
 show s.data[pos]! = _
 rw[getElem!_pos s.data pos this]
 simp
theorem aGg (s:ByteArray):∀ (l:List UInt8) (f pos:Nat),s.data.toList.drop pos=l→l.length≤f→decide (0≤Lib.idxFuncFrom p75 true s f pos)=oN l
 | [],f,pos,h,hf=>by
   have hsz:s.size=s.data.toList.length:=by rw[Array.length_toList];rfl
   have:¬pos<s.size:=fun hc=>by
    have:=List.length_drop (l:=s.data.toList) (i:=pos)
    rw[h]at this
    simp at this
    omega
   rw[Lib.idxFuncFrom_end p75 true s f pos this]
   rfl
 | b::l,0,pos,h,hf=>by simp at hf
 | b::l,f+1,pos,h,hf=>by
   obtain⟨h1,h2,h3⟩:=aJZ h
   unfold Lib.idxFuncFrom
   rw[if_pos h2]
   by_cases hb:b.toNat<128
   ·rw[aHx s pos (by rw[h1];exact hb),h1]
    dsimp only
    by_cases hp:p75 b.toNat=true
    ·rw[if_pos hp]
     have:oN (b::l)=true:=by
      unfold oN
      unfold p75 at hp
      simp only[Bool.or_eq_true]at hp ⊢
      rcases hp with hp|hp
      ·exact .inl hp
      ·exact .inr (.inl hp)
     rw[this]
     simp
    ·rw[if_neg hp,aGg s l f (pos+1) h3 (by simpa using hf)]
     unfold p75 at hp
     simp only[Bool.or_eq_true,decide_eq_true_eq,not_or]at hp
     have e1:decide (b.toNat<32)=false:=decide_eq_false hp.1
     have e2:decide (126<b.toNat)=false:=decide_eq_false hp.2
     rw[oN,e1,e2]
     simp
   ·have hd:=aHy s pos (by rw[h1];omega)
    have hp:p75 (Utf8.decode s pos).1=true:=by simp[p75,hd]
    rw[if_pos hp]
    have:oN (b::l)=true:=by
     unfold oN
     have:decide (126<b.toNat)=true:=decide_eq_true (by omega)
     rw[this]
     simp
    rw[this]
    simp

section
variable {D:Nat→Option XFn} {Y:Nat→Option YI} {r:Nat→Option Nat} {h:XH} {H:Hp} {B:Base}
def aFU:List AV→XH→Option (AV×XH):=fun xs h=>match xs with
 | [.str s,.fn (.func 75) [] []]=>some (.bool (oN s.data.toList),h)
 | _=>none
theorem aJj:eY D 74 aFU:=by
 intro B Y r h H xs ys v h' sh hr hx
 unfold aFU at hx
 split at hx
 ·rename_i s
  cases hx
  obtain⟨a,as1,rfl,h1,h2⟩:=hr.inv
  obtain⟨b,as2,rfl,h3,h4⟩:=h2.inv
  rw[bJ h1,h4.nil_inv]
  have hb:b = .fn (.func 75) [] []:=by
   cases h3 with
   | fn _ _ ys _ vs _ hl1 _ hl2 _ =>
     rw[List.eq_nil_of_length_eq_zero (l:=ys) (by simpa using hl1.symm),List.eq_nil_of_length_eq_zero (l:=vs) (by simpa using hl2.symm)]
  rw[hb]
  refine FnW.shelf (r:=fun _=>.bool (oN s.data.toList)) (fun vs w=>call74 vs w) (fun F w vs=>.bool _) (fun F w vs hl ha=>?_) ⟨r,DL.Sub.refl r,sh,.bool _⟩
  obtain⟨v1,vs1,rfl,k1,k2⟩:=ha.cons1
  obtain⟨v2,vs2,rfl,k3,k4⟩:=k2.cons1
  rw[k4.nil1]
  cases k1
  cases k3 with
  | fn _ _ _ fv cv hl1 hl2 _ _ =>
    have e1:fv = #[]:=by
     rcases fv with ⟨_|⟨a,l⟩⟩
     ·rfl
     ·simp at hl1
    have e2:cv = #[]:=by
     rcases cv with ⟨_|⟨a,l⟩⟩
     ·rfl
     ·simp at hl2
    rw[e1,e2]
    have hc:=Tryz.strings_ContainsFunc_runes 75 #[] (fun vs w=>call75 vs w) p75 s w (fun W x hx _=>aWN x hx W)
    have he:decide (0≤Lib.idxFunc p75 true s)=oN s.data.toList:=aGg s s.data.toList s.size 0 rfl (by rw[Array.length_toList];exact Nat.le_refl _)
    rw[he]at hc
    exact hc
 ·cases hx
end
end Go.Proofs.YtmapgnepfgnphaaGreatDoor
namespace Go.Proofs.YtmapgnepfgnphaaGreatDoor
open Go Go.DL Go.Proofs.Tryz
set_option maxRecDepth 10000

noncomputable def ops56:Array Oper:=match f56.body with
 | some (.seq (.region _ ops _) _)=>ops
 | _ => #[]
noncomputable def rest56:Code:=match f56.body with
 | some (.seq (.region _ _ _) c)=>c
 | _=>.skip
theorem aPf:f56.body=some (.seq (.region 0 ops56 false) rest56):=rfl
theorem aOx:∃ o,ops56[0]?=some o∧o.dst=some 4∧o.guard=none∧o.op = .call { callee:=.builtin .recover,args := #[],argTypes := #[] }:=⟨_,rfl,rfl,rfl,rfl⟩
theorem aOw:∃ o,ops56[1]?=some o∧o.dst=some 5∧o.guard=none∧o.op = .typeAssert (.tmp 4) 20 110 true:=⟨_,rfl,rfl,rfl,rfl⟩
def kY:List DOper:=[⟨0,some 3,.mv (.t 5),none⟩,⟨0,some 6,.ext (.t 3) 0,none⟩,⟨0,some 7,.ext (.t 3) 1,none⟩,⟨0,some 1,.alloc [.int .i64 0],none⟩,⟨0,none,.store 1 (.t 1) (.t 6) [],none⟩,⟨0,some 2,.mv (.t 7),none⟩]
def rZ:List DOper:=[⟨0,some 8,.mv (.t 2),none⟩]
def qT:List DOper:=[⟨0,some 9,.fld 0 (.t 1),none⟩,⟨0,some 10,.load false 1 (.t 9),none⟩,⟨0,some 11,.callf false (.c (.fn (.func 57) [] [])) [.t 10] [],none⟩,
 ⟨0,some 12,.bin .add (.c (.str ⟨#[110,111,32]⟩)) (.t 11),none⟩,⟨0,none,.store 1 (.t 0) (.t 12) [],none⟩]
noncomputable def ops56m:Array Oper:=match f56.body with
 | some (.seq _ (.seq (.region _ ops _) _))=>ops
 | _ => #[]
noncomputable def ops56l:Array Oper:=match f56.body with
 | some (.seq _ (.seq _ (.cond _ (.region _ ops _) _)))=>ops
 | _ => #[]
theorem aGY:rest56 = .seq (.region 1 ops56m false) (.cond (.tmp 8) (.region 2 ops56l false) .skip):=rfl
theorem aLB:((ops56.toList.drop 2).mapM (wE prog ops56))=some kY:=by kernel_rfl
theorem aOZ:qA prog 13 ops56m false=some rZ:=by kernel_rfl
theorem aMp:qA prog 13 ops56l false=some qT:=by kernel_rfl
theorem aNZ:ops56.size=8:=rfl
theorem aKQ:∃ i,prog.info? 110=some i∧i.zero=some (.agg #[.int .i64 0]):=⟨_,rfl,rfl⟩
theorem aCD:∃ fs,prog.underlying 110=some (.struct fs):=⟨_,rfl⟩
theorem aRS:f56.results = #[]:=rfl
theorem aSj:f56.ntmps=13:=rfl

noncomputable def code21:Code:=match f21.body with
 | some (.seq _ (.seq _ c))=>c
 | _=>.skip
noncomputable def r21_0:Array Oper:=match f21.body with
 | some (.seq (.region _ ops _) _)=>ops
 | _ => #[]
noncomputable def r21_1:Array Oper:=match f21.body with
 | some (.seq _ (.seq (.region _ ops _) _))=>ops
 | _ => #[]
theorem aKA:f21.body=some (.seq (.region 0 r21_0 false) (.seq (.region 1 r21_1 false) code21)):=rfl
theorem aNk:qA prog 41 r21_0 false=some [⟨0,some 4,.alloc [.str ⟨#[]⟩],none⟩]:=by kernel_rfl
theorem aOC:∃ o,r21_1[0]?=some o∧wE prog r21_1 o=some ⟨0,some 7,.mkf (.func 56) [] [.t 4],none⟩:=⟨_,rfl,by kernel_rfl⟩
theorem aTE:∃ o,r21_1[1]?=some o∧o.dst=none∧o.guard=none∧o.op = .defer { callee:=.value (.tmp 7),args := #[],argTypes := #[] }:=⟨_,rfl,rfl,rfl,rfl⟩
theorem aQM:r21_1.size=2:=rfl
theorem aNl:f21.ntmps=41:=rfl
theorem aMT:f21.results.toList.mapM (yI prog)=some [(4,some (false,1))]:=by kernel_rfl

section
variable {D:Nat→Option XFn} {B:Base} {Y:Nat→Option YI} {r:Nat→Option Nat} {h:XH} {H:Hp} {F:Nat→Prop} {w:World}

theorem aCq:∀ (j:Nat) (d:DOper),kY[j]?=some d→Reads prog ops56 (2+j) d:=by
 intro j d hj
 obtain⟨h1,h2⟩:=mV aLB
 obtain⟨o,h3,h4⟩:=h2 j d hj
 refine fG (o:=o) ?_ h4
 rw[List.getElem?_drop,Array.getElem?_toList]at h3
 exact h3
theorem aHn:∀ d∈kY,aDN 13 d:=by
 intro d hd
 simp only[kY,List.mem_cons,List.not_mem_nil,or_false]at hd
 rcases hd with rfl|rfl|rfl|rfl|rfl|rfl<;>exact⟨by intro k hk;simp at hk<;>omega,rfl⟩

theorem aNO {run:bZ} {runY:cV} (hf:FnS prog B D Y run) (hy:YS prog B D Y runY) (hm:prog.follows .mixedOrders=true) (hB:B.Up F w) (st:St F w H) (sh:SH D Y r h H) {c o b:Nat} (hrc:r c=some b)
 {i:aAD} (hi1:i.hops=kY++rZ) (hi2:i.hlast=qT) (hi3:i.is=8) {v v':AV} {t:Bool} (hv:Rn D Y r v v') {h3:XH} (hx:nA i run runY (.pt c o) v t h=some h3)
 {x vv:Value} (hta:(Instr.typeAssert x 20 110 true).run prog w = .ok (.tuple #[vv,.bool t]) w) (hvv:Rv F w v' vv) {cs:List Frame} {Q:Exit→Act→List Frame→World→Prop} {a:Act} (ha:a.tmps.size=13) (hdf:a.defers=[])
 (ha4:a.eval (.tmp 4)=x) (ha0:a.tmps.getD 0 undef = .pointer (some ⟨b,o,none⟩)) (gi:GI F w)
 (hQ:∀ a' F' w' H' r',a'.defers=[]→Ext F w H F' w' H'→St F' w' H'→Sub r r'→SH D Y r' h3 H'→Q .normal a' cs w') :
 wpOpsIn Fence.wide 0 prog ops56 (fun e a w=>Exit.thenS (rest56.wpSIn Fence.wide 0 prog Q) Q e a cs w) (List.range' 1 7) a w:=by
 obtain⟨o1,g1,g2,g3,g4⟩:=aOw
 rw[List.range'_succ,wpOpsIn_cons]
 unfold wpOpIn
 simp only[g1]
 have hw:Region.wanted o1 (yielded ops56 a.tmps)=true:=by unfold Region.wanted;rw[g3]
 rw[if_pos hw]
 refine⟨fun _ _=>trivial,?_⟩
 have hs:(o1.semAt Fence.wide.round a.eval).run prog w = .ok (.value (.tuple #[vv,.bool t])) w:=by
  rw[Oper.semAt_eq _ _ _ (by rw[g4];simp)]
  simp[execOp,g4,ha4,hta]
 rw[hs,Oper.uponIn_value,g2]
 have hsr:SR D Y r (vZ (.pt c o) v t) h (vZ (.pt b o) v' t) H:=⟨sh,fun j=>by
  unfold vZ
  split
  ·exact .pt _ _ _ hrc
  ·split
   ·exact .tup _ _ rfl fun i x y hx hy=>by
     match i with
     | 0=>simp at hx hy;subst hx hy;exact hv
     | 1=>simp at hx hy;subst hx hy;exact .bool _
     | k+2=>simp at hx
   ·exact .any _⟩
 have hre:RE F w (vZ (.pt b o) v' t) (a.put (some 5) (.tuple #[vv,.bool t])):=⟨fun k=>by
  unfold vZ
  have hsz5:5<a.tmps.size:=by omega
  split
  ·rename_i hk;subst hk
   simp only[Act.put,Array.getD_eq_getD_getElem?,Array.getElem?_setIfInBounds]at ha0 ⊢
   simp only[show ¬(5=0) by omega,if_false]
   rw[ha0];exact .pt _ _
  ·split
   ·rename_i hk;subst hk
    simp only[Act.put,Array.getD_eq_getD_getElem?,Array.getElem?_setIfInBounds,if_true,hsz5,Option.getD_some]
    exact .tup _ _ rfl fun i x y hx hy=>by
     match i with
     | 0=>simp at hx hy;subst hx hy;exact hvv
     | 1=>simp at hx hy;subst hx hy;exact .bool _
     | k+2=>simp at hx
   ·exact .any _,gi⟩
 unfold nA at hx
 split at hx
 ·rename_i e1 h1 hx1
  rw[hi1]at hx1
  have R:=aAV (fB (P:=prog) (B:=B) hf hy (kY++rZ) r _ h _ H e1 h1 (fun env' H'=>∃ r',Sub r r'∧SR D Y r' e1 h1 env' H') rfl hsr hx1 (fun r' env' H' hs sr'=>⟨r',hs,sr'⟩))
  refine yJ (r:=none) (B:=B) (N:=13) kY 2 aCq aHn F w H _ _ (by simpa [Act.put]using ha) hB st hre R ?_
  intro a3 F3 w3 env3 H3 s1 s2 s3 s4 s5 s6
  show rest56.wpSIn Fence.wide 0 prog Q a3 cs w3
  rw[aGY]
  have hB3:=hB.step st s3
  refine wpSIn_seq (wpSIn_of_wpIn rfl (iE (B:=B) (r:=none) (F:=F3) (H:=H3) (env:=env3) (N:=13) (draw:=false) hm aOZ s1 hB3 s4 s5 s6 ?_))
  rintro a4 F4 w4 env4 H4 q1 q2 q3 q4 q5 ⟨r4,q6,q7⟩
  show (Code.cond (.tmp 8) (.region 2 ops56l false) .skip).wpSIn Fence.wide 0 prog Q a4 cs w4
  have hd4:a4.defers=[]:=by rw[q2,s2];exact hdf
  have E4:=s3.trans q3
  have h8:=q7.re i.is
  rw[hi3]at h8 hx
  split at hx
  ·rename_i h8t
   rw[h8t]at h8
   have hev:a4.eval (.tmp 8) = .bool true:=by
    have:=q5.rv 8
    rw[dG h8]at this
    show a4.tmps.getD 8 undef=_
    generalize a4.tmps.getD 8 undef=z at this
    cases this;rfl
   refine wpSIn_cond (t:=true) hev ?_
   simp only[Option.map_eq_some_iff]at hx
   obtain⟨⟨e5,h5⟩,hx5,rfl⟩:=hx
   rw[hi2]at hx5
   refine wpSIn_of_wpIn rfl (iE (B:=B) (r:=none) (F:=F4) (H:=H4) (env:=env4) (N:=13) (draw:=false) hm aMp q1 (hB3.step s4 q3) q4 q5
    (fB (P:=prog) (B:=B) hf hy qT r4 _ h1 _ H4 e5 h5 (fun env' H'=>∃ r',Sub r r'∧SR D Y r' e5 h5 env' H') rfl q7 hx5 (fun r' env' H' hs sr'=>⟨r',q6.trans hs,sr'⟩)) ?_)
   rintro a5 F5 w5 env5 H5 p1 p2 p3 p4 p5 ⟨r5,p6,p7⟩
   exact hQ a5 F5 w5 H5 r5 (by rw[p2];exact hd4) (E4.trans p3) p4 p6 p7.sh
  ·rename_i h8t
   rw[h8t]at h8
   simp only[oSI]at hx
   subst hx
   have hev:a4.eval (.tmp 8) = .bool false:=by
    have:=q5.rv 8
    rw[dG h8]at this
    show a4.tmps.getD 8 undef=_
    generalize a4.tmps.getD 8 undef=z at this
    cases this;rfl
   refine wpSIn_cond (t:=false) hev ?_
   exact wpSIn_of_wpIn rfl (wpIn_skip (hQ a4 F4 w4 H4 r4 hd4 E4 q4 q6 q7.sh))
  ·simp at hx
 ·simp at hx

theorem aDY (vv:Value):(Instr.typeAssert (.iface 110 vv) 20 110 true).run prog w = .ok (.tuple #[vv,.bool true]) w:=by
 obtain⟨fs,hfs⟩:=aCD
 simp[Instr.typeAssert,run_underlying hfs]
theorem aFr:(Instr.typeAssert .nilIface 20 110 true).run prog w = .ok (.tuple #[.agg #[.int .i64 0],.bool false]) w:=by
 obtain⟨fs,hfs⟩:=aCD
 obtain⟨i,hi,hz⟩:=aKQ
 simp[Instr.typeAssert,run_underlying hfs,zeroValue,typeInfo,hi,hz]

theorem aJW {run:bZ} {runY:cV} (hf:FnS prog B D Y run) (hy:YS prog B D Y runY) (hm:prog.follows .mixedOrders=true) (hB:B.Up F w) (st:St F w H) (sh:SH D Y r h H) {c o b:Nat} (hrc:r c=some b)
 {i:aAD} (hi1:i.hops=kY++rZ) (hi2:i.hlast=qT) (hi3:i.is=8) {v v':AV} {t:Bool} (hv:Rn D Y r v v') {h3:XH} (hx:nA i run runY (.pt c o) v t h=some h3) {u:FrameMode} {R:Ending→FrameMode→World→Prop} {cval:Value}
 (hu:(t=true∧u = .panicking (pnc cval)∧Rv F w (.ifc 110 v') cval)∨(t=false∧u = .returning∧v' = .agg [.int .i64 0]))
 (hR:∀ F' w' H' r' u',settle u' = .returning→Ext F w H F' w' H'→St F' w' H'→Sub r r'→SH D Y r' h3 H'→R (.returned (.tuple #[])) u' w') :
 CallsDIn Fence.wide 0 prog 56 #[.pointer (some ⟨b,o,none⟩)] u w R:=by
 refine callsDIn_of_wpSIn func56 aPf trivial fun c₀ cs hc0=>?_
 rw[aSj]
 obtain⟨o0,g1,g2,g3,g4⟩:=aOx
 refine wpSIn_seq (aAm g1 g3 (fun _ _=>trivial) (by simp[execOp,resolve,g4,invoke,builtin]) rfl ?_)
 have fin:∀ (x vv:Value) (cs':List Frame) (u':FrameMode),cs'={ c₀ with mode:=u' }::cs→settle u' = .returning→(Instr.typeAssert x 20 110 true).run prog w = .ok (.tuple #[vv,.bool t]) w→Rv F w v' vv →
  wpOpsIn Fence.wide 0 prog ops56 (fun e a w=>Exit.thenS (rest56.wpSIn Fence.wide 0 prog (bodyPostS prog f56 c₀ cs R)) (bodyPostS prog f56 c₀ cs R) e a cs' w) (List.range' 1 (ops56.size-1))
   (Act.put { tmps := #[.pointer (some ⟨b,o,none⟩)]++Array.replicate (13 - #[Value.pointer (some ⟨b,o,none⟩)].size) undef,defers:=[] } o0.dst x) w:=by
  intro x vv cs' u' hcs hset hta hvv
  rw[g2,aNZ]
  refine aNO hf hy hm hB st sh hrc hi1 hi2 hi3 hv hx hta hvv (by simp[Act.put]) rfl (by simp[Act.put,Act.eval]) (by simp[Act.put]) (B.gi.up hB) ?_
  intro a' F' w' H' r' k1 k2 k3 k4 k5
  refine⟨k1,u',hcs,.tuple #[],?_,hR F' w' H' r' u' hset k2 k3 k4 k5⟩
  simp[results,aRS]
 rcases hu with ⟨rfl,rfl,hc⟩|⟨rfl,rfl,rfl⟩
 ·cases hc with
  | ifc _ _ vv hvv =>
  have hrec:recoverD (c₀::cs)=some (.iface 110 vv,{ c₀ with mode:=.panicking [{ v:=.iface 110 vv,recovered:=true }] }::cs):=by
   simp[recoverD,hc0,pnc]
  rw[hrec]
  exact fin _ vv _ _ rfl rfl (aDY vv) hvv
 ·have hrec:recoverD (c₀::cs)=none:=by simp[recoverD,hc0]
  rw[hrec]
  exact fin _ (.agg #[.int .i64 0]) _ .returning (by rw[←hc0]) rfl aFr (.agg _ _ rfl (fun i v hv=>by
   match i with
   | 0=>simp at hv;subst hv;rfl
   | k+1=>simp at hv) (fun i x y hx hy=>by
   match i with
   | 0=>simp at hx hy;subst hx hy;exact .int _ _
   | k+1=>simp at hx))

def b21:XCode:=(.seq (.reg [(0,false)] false [⟨0,(some 8),(.mv (.t 0)),none⟩,⟨0,(some 9),(.callf false (.c (.fn (.func 59) [] [])) [(.t 8)] []),none⟩,⟨0,(some 10),
 (.not (.t 9)),none⟩,⟨0,(some 11),(.callf false (.c (.fn (.func 58) [] [])) [(.t 10),(.c (.int .i64 9))] []),none⟩]) (.seq (.reg [(1,false)] false
 [⟨0,(some 12),(.mv (.t 1)),none⟩,⟨0,(some 13),(.callf false (.c (.fn (.func 60) [] [])) [(.t 12)] []),none⟩,⟨0,(some 5),(.alloc [(.str ⟨#[]⟩),
 .nilsl,.nilsl]),none⟩,⟨0,none,(.store 3 (.t 5) (.t 13) []),none⟩]) (.seq (.reg [(0,false),(5,true)] false [⟨0,(some 14),(.mv (.t 0)),none⟩,⟨0,
 (some 15),(.load true 3 (.t 5)),none⟩,⟨0,(some 16),(.callf false (.c (.fn (.func 61) [] [])) [(.t 14),(.t 15)] []),none⟩,⟨0,(some 6),(.mv (.t
 16)),none⟩]) (.seq (.seq (.reg [] false [⟨0,(some 17),(.mv (.t 6)),none⟩,⟨0,(some 18),(.eqn 2 false (.t 17) (.c .nilfn)),none⟩]) (.cond (.t 18)
 (.seq (.reg [(0,false),(5,true)] false [⟨0,(some 19),(.mv (.t 0)),none⟩,⟨0,(some 20),(.load true 3 (.t 5)),none⟩,⟨0,(some 21),(.callf false (.c
 (.fn (.func 62) [] [])) [(.t 19),(.t 20)] []),none⟩,⟨0,none,(.store 1 (.t 4) (.t 21) []),none⟩]) .ret) .skip)) (.seq (.reg [] false [⟨0,(some 22),
 (.mv (.t 0)),none⟩,⟨0,(some 23),(.nilck (.t 22)),none⟩,⟨0,(some 24),(.fld 6 (.t 23)),none⟩,⟨0,(some 25),(.load false 1 (.t 24)),none⟩,⟨0,
 (some 26),(.len false (.t 25)),none⟩,⟨0,(some 27),(.bin .lss (.t 26) (.c (.int .i64 300))),none⟩,⟨0,(some 28),(.callf false (.c (.fn (.func 58) []
 [])) [(.t 27),(.c (.int .i64 15))] []),none⟩]) (.seq (.reg [] false [⟨0,(some 29),(.mv (.t 6)),none⟩,⟨0,(some 30),(.callf false (.t 29) [] []),
 none⟩]) (.seq (.reg [(1,false)] false [⟨0,(some 31),(.mv (.t 0)),none⟩,⟨0,(some 32),(.mv (.t 0)),none⟩,⟨0,(some 33),(.nilck (.t 32)),none⟩,⟨0,
 (some 34),(.fld 6 (.t 33)),none⟩,⟨0,(some 35),(.load false 1 (.t 34)),none⟩,⟨0,(some 36),(.mv (.t 1)),none⟩,⟨0,(some 37),(.bslice 1 1 [(.str
 ⟨#[]⟩)] [(0,(1,(.t 36)))]),none⟩,⟨0,(some 38),(.app 1 16 (.t 35) (.t 37)),none⟩,⟨0,(some 39),(.nilck (.t 31)),none⟩,⟨0,(some 40),(.fld 6 (.t
 39)),none⟩,⟨0,none,(.store 1 (.t 40) (.t 38) []),none⟩]) (.seq (.reg [] false [⟨0,none,(.store 1 (.t 4) (.c (.str ⟨#[111,107]⟩)) []),none⟩])
 .ret))))))))
def saySay:aAD:=⟨41,[(4,some (false,1))],[⟨0,some 4,.alloc [.str ⟨#[]⟩],none⟩],4,7,b21,110,.agg [.int .i64 0],kY++rZ,8,qT⟩
theorem rA:cP prog 41 code21=some b21.erase:=by kernel_rfl
theorem aLJ:kT b21=true:=by kernel_rfl
theorem aLL:pN b21=true:=by kernel_rfl

theorem aMh {i:aAD} (sh:SH D Y r h H) {r1:Nat→Option Nat} {e1 env1:aD} {h1:XH} {H1:Hp} (ha:Agree h.length r r1) (sr:SR D Y r1 e1 h1 env1 H1) {v:AV} {h':XH} (hx:xQ i h.length e1 h1=some (v,h')) :
 ∃ v1,fD i.res env1 H1=some v1∧∃ v' H'',Shift (upd anyE 0 v1) H1 (upd anyE 0 v') H''∧bR D Y r v h' v' H'':=by
 unfold xQ at hx
 simp only[Option.map_eq_some_iff]at hx
 obtain⟨v0,hv0,hfin⟩:=hx
 obtain⟨v0',k1,k2⟩:=wS sr hv0
 refine⟨v0',k1,?_⟩
 have sr2:SR D Y r1 (upd anyE 0 v0) h1 (upd anyE 0 v0') H1:=⟨sr.sh,fun j=>by
  simp only[upd]
  split
  ·exact k2
  ·exact .any _⟩
 obtain⟨env2,H2,s1,s2⟩:=nX (jW h1 2 (uM v0)) _ _ _ _ sr2
 have hz:=(s2.re 0).nz
 obtain⟨r2,m1,m2,m3⟩:=qV s2.sh hz (k:=h.length)
 refine⟨oI (env2 0),H2,s1.trans ?_,r2,fun b c hb=>m1 b c (sh.dom b c hb) (ha b c (sh.dom b c hb) hb),?_,?_⟩
 ·intro F w a st re
  refine⟨F,Ext.refl _ _ _,st,fun j=>?_,re.gi⟩
  simp only[upd]
  split
  ·rename_i hj;subst hj;exact(re.rv 0).nz
  ·exact .any _
 ·unfold iZ at hfin
  simp only[Bool.false_eq_true,if_false,Prod.mk.injEq]at hfin
  rw[←hfin.2];exact m2
 ·unfold iZ at hfin
  simp only[Bool.false_eq_true,if_false,Prod.mk.injEq]at hfin
  rw[←hfin.1];exact m3

theorem aOb {d21:XFn} (hD:D 21=some d21) (hN:d21.N=41) (hm:prog.follows .mixedOrders=true):aKL prog D saySay 21:=by
 intro run runY runP n hall hallP B Y hY r h H xs as' v h' sh hA hx
 obtain⟨hf,hy⟩:=hall B Y hY
 unfold aOc at hx
 split at hx
 ·rename_i hlen
  split at hx
  ·rename_i e1 h1 hx1
   split at hx
   ·rename_i c o he1
    split at hx
    ·rename_i hc
     have hA1:=hA.nz
     refine FnW.nz (FnW.shift ⟨fun vs w=>call21 vs w,fun F w vs hB st hAr=>?_⟩)
     have hsz:(vs++Array.replicate (f21.ntmps-vs.size) undef).size=41:=by
      have h1:=hAr.1
      have h2:=hA1.1
      rw[fJ,List.length_map]at h2
      have:xs.length≤41:=hlen
      rw[aNl];simp;omega
     have hre:=uJ (N:=41) (nt:=f21.ntmps-vs.size) hB hAr
     have RS0:=fB (P:=prog) (B:=B) hf hy saySay.pre r _ h _ H e1 h1 (fun env' H'=>∃ r',DL.Sub r r'∧SR D Y r' e1 h1 env' H') rfl ⟨sh,gN hA1⟩ hx1 (fun r' env' H' hs sr'=>⟨r',hs,sr'⟩)
     refine callsIn_of_wp_marks func21 aKA trivial (wpIn_seq (iE (B:=B) (r:=none) (N:=41) (draw:=false) hm aNk hsz hB st hre RS0 ?_))
     rintro a1 F1 w1 env1 H1 p1 p2 p3 p4 p5 ⟨r1,p6,p7⟩
     show (Code.seq (.region 1 r21_1 false) code21).wpIn Fence.wide 0 prog _ a1 w1
     have hB1:=hB.step st p3
     have h4:=p7.re 4
     have he1':e1 4 = .pt c o:=he1
     rw[he1']at h4
     obtain⟨b,hrb,henv4⟩:∃ b,r1 c=some b∧env1 4 = .pt b o:=by
      generalize env1 4=z at h4
      cases h4 with
      | pt _ b _ hb=>exact⟨b,hb,rfl⟩
     refine wpIn_seq (wpIn_region ?_)
     rw[aQM,show List.range 2=[0,1] from rfl,wpOpsIn_cons]
     obtain⟨o0,g1,g2⟩:=aOC
     obtain⟨o1,k1,k2,k3,k4⟩:=aTE
     refine xP (r:=none) (B:=B) (N:=41) (K:=fun env' H'=>env'=aP env1 (some 7) (.fn (.func 56) [] [.pt b o])∧H'=H1) (fG g1 g2) rfl (fun k hk=>by simp at hk;omega) p1 hB1 p4 p5 ?_ ?_
     ·rw[aDk,kA rfl]
      simp only[aA,List.map_nil,List.map_cons,aG,henv4,optW_some,eP]
      exact⟨by trivial,by trivial⟩
     rintro a2 F2 w2 env2 H2 s1 s2 s3 s4 s5 ⟨rfl,rfl⟩
     rw[wpOpsIn_cons]
     unfold wpOpIn
     simp only[k1]
     have hw:Region.wanted o1 (yielded r21_1 a2.tmps)=true:=by unfold Region.wanted;rw[k3]
     rw[if_pos hw]
     have h7:a2.eval (.tmp 7) = .func (.func 56) #[] #[.pointer (some ⟨b,o,none⟩)]:=by
      have:=s5.rv 7
      simp only[aP,upd,if_true]at this
      show a2.tmps.getD 7 undef=_
      generalize a2.tmps.getD 7 undef=z at this
      cases this with
      | fn _ _ _ fv cv hl1 hl2 q1 q2 =>
        have e1:fv = #[]:=by
         rcases fv with ⟨_|⟨a,l⟩⟩
         ·rfl
         ·simp at hl1
        have e2:cv = #[.pointer (some ⟨b,o,none⟩)]:=by
         rcases cv with ⟨_|⟨a,_|⟨a',l⟩⟩⟩
         ·simp at hl2
         ·have:=q2 0 _ a rfl rfl
          cases this;rfl
         ·simp at hl2
        rw[e1,e2]
     refine⟨fun _ _=>trivial,?_⟩
     have hsem:(o1.semAt Fence.wide.round a2.eval).run prog w2 = .ok (.defer { target:=.fn (.func 56) #[.pointer (some ⟨b,o,none⟩)],args := #[] }) w2:=by
      have:Fence.wide.round=none:=rfl
      rw[this,Oper.semAt_none]
      simp[execOp,resolve,k4,h7,Deferred.ofValue]
     rw[hsem,Oper.uponIn_defer,k2]
     have hdf:a2.defers=[]:=by rw[s2,p2]
     obtain⟨T,hT⟩:∃ T:List Deferred,T=[{ target:=.fn (.func 56) #[.pointer (some ⟨b,o,none⟩)],args := #[] }]:=⟨_,rfl⟩
     have hact:Act.put { a2 with defers:={ target:=.fn (.func 56) #[.pointer (some ⟨b,o,none⟩)],args := #[] }::a2.defers } none undef={ tmps:=a2.tmps,defers:=T }:=by
      rw[hdf,hT];rfl
     rw[hact]
     show code21.wpIn Fence.wide 0 prog _ { tmps:=a2.tmps,defers:=T } w2
     have hB2:=hB1.step p4 s3
     have E2:=p3.trans s3
     have sr2:SR D Y r1 (upd e1 7 .any) h1 (aP env1 (some 7) (.fn (.func 56) [] [.pt b o])) H2:=⟨p7.sh,fun j=>by
      simp only[upd,aP]
      split
      ·exact .any _
      ·exact p7.re j⟩
     have ag1:Agree h.length r r1:=p6.agree _
     have out:∀ (F':Nat→Prop) (w':World) (H':Hp) (env':aD) (tmps:Array Value) (ds:List Deferred) (r3:Nat→Option Nat) (e2:aD) (h2 h3:XH) (u:FrameMode) (v0 v0':AV) (t:Bool) (cval:Value),u ≠ .run→Ext F w H F' w' H'→St F' w' H'→RE F' w' env' { tmps:=tmps,defers:=[] } →
      Mk w2.heap.size T F' H' w' ds→Agree h1.length r1 r3→SR D Y r3 e2 h2 env' H'→Rn D Y r3 v0 v0'→nA saySay run runY (.pt c o) v0 t h2=some h3→xQ saySay h.length e2 h3=some (v,h') →
      ((t=true∧u = .panicking (pnc cval)∧Rv F' w' (.ifc 110 v0') cval)∨(t=false∧u = .returning∧v0' = .agg [.int .i64 0])) →
      LeavesInM Fence.wide 0 prog f21 tmps (oT F w H fun v1 H1=>∃ v' H'',Shift (upd anyE 0 v1) H1 (upd anyE 0 v') H''∧bR D Y r v h' v' H'') ds u w':=by
      intro F' w' H' env' tmps ds r3 e2 h2 h3 u v0 v0' t cval hu he st' re' mk ag sr3 hv0 hh hret hcase
      obtain⟨ms,q1,q2,q3⟩:=mk.ex
      rw[q1]
      refine rN (env:=env') (S:=fun w'=>(t=true∧u = .panicking (pnc cval)∧Rv F' w' (.ifc 110 v0') cval)∨(t=false∧u = .returning∧v0' = .agg [.int .i64 0])) (fun w w' hu hs=>?_) hu E2.le (fun w'' hs'' he' st'' re''=>?_) ms w' hcase he st' re' q2 q3
      ·rcases hs with ⟨a1,a2,a3⟩|hs
       ·exact .inl ⟨a1,a2,a3.up hu⟩
       ·exact .inr hs
      rw[hT]
      refine⟨hu,.inr ⟨fun hd=>by simp[Fence.wide]at hd,_,_,56,#[.pointer (some ⟨b,o,none⟩)],rfl,?_,fun _ _=>trivial,?_⟩⟩
      ·have:=call56 #[Value.pointer (some ⟨b,o,none⟩)] w''
       first|exact this|simpa [invoke]using this
      ·refine aJW hf hy hm (hB.step st he') st'' sr3.sh (ag c b hc hrb) rfl rfl rfl hv0 hh hs'' ?_
       intro F4 w4 H4 r4 u' hset t2 t3 t4 t5
       show LeavesInM Fence.wide 0 prog f21 tmps _ [] (settle u') w4
       rw[hset]
       have re4:RE F4 w4 env' { tmps:=tmps,defers:=[] }:=re''.up (t2.up st'')
       have sr4:SR D Y r4 e2 h3 env' H4:=⟨t5,fun j=>(sr3.re j).mono t4⟩
       have ag4:Agree h.length r r4:=fun b1 c1 hb1 hr1=>t4 _ _ (ag b1 c1 (p7.sh.dom b1 c1 (p6 b1 c1 hr1)) (p6 b1 c1 hr1))
       obtain⟨v1,x1,x2⟩:=aMh sh ag4 sr4 hret
       obtain⟨cv,y1,y2⟩:=pF t3 re4 aMT x1
       exact⟨cv,y1,cv,v1,F4,H4,rfl,he'.trans t2,t3,y2,x2⟩
     split at hx
     ·simp at hx
     ·rename_i x e2 h2 hne hex
      simp only[Option.bind_eq_some_iff]at hx
      obtain⟨h3,hh,hret⟩:=hx
      have hWD:=eM hD hm hall h1.length n none none b21 B Y r1 _ h1 _ H2 x e2 h2 (fun x' env3 H3=>x'=x∧∃ r3,Agree h1.length r1 r3∧SR D Y r3 e2 h2 env3 H3) hY aLJ (aN aLL) rfl sr2 hex (fun r' env' H' ha sr'=>⟨rfl,r',ha,sr'⟩)
      have hW:=hWD code21 (by rw[hN];exact rA) F2 w2 { tmps:=a2.tmps,defers:=T } w2.heap.size T hB2 (Nat.le_refl _) (by rw[hN];exact s1) s4 s5 Mk.nil
      refine wpIn_mono hW ?_
      rintro e a' w' ⟨x',env',F',H',z1,z2,z3,z4,z5,z6,rfl,r3,z7,z8⟩
      have fin:=fun(hu:True)=>out F' w' H' env' a'.tmps a'.defers r3 e2 h2 h3 .returning _ _ false undef (by simp) (E2.trans z3) z4 z5 z6 z7 z8 ((pM saySay.zero rfl)) hh hret (.inr ⟨rfl,rfl,rfl⟩)
      cases e with
      | normal=>exact fin trivial
      | ret=>exact fin trivial
      | exit id=>simp only at z1;subst z1;exact(hne id rfl).elim
      | goto l=>exact z1.elim
      | panic c=>exact z1.elim
      | outgrown=>exact z1.elim
     ·rename_i hex
      split at hx
      ·rename_i ty v0 e2 h2 hexP
       split at hx
       ·rename_i hty
        simp only[Option.bind_eq_some_iff]at hx
        obtain⟨h3,hh,hret⟩:=hx
        have hWD:=wA hD hm hall hallP h1.length n none none b21 B Y r1 _ h1 _ H2 (.ifc ty v0) e2 h2 (fun v' env3 H3=>∃ r3,Agree h1.length r1 r3∧SR D Y r3 e2 h2 env3 H3∧Rn D Y r3 (.ifc ty v0) v') hY aLJ (aN aLL) rfl sr2 hexP (fun r' v' env' H' ha sr' hv'=>⟨r',ha,sr',hv'⟩)
        have hW:=hWD code21 (by rw[hN];exact rA) F2 w2 { tmps:=a2.tmps,defers:=T } w2.heap.size T hB2 (Nat.le_refl _) (by rw[hN];exact s1) s4 s5 Mk.nil
        refine wpIn_mono hW ?_
        rintro e a' w' ⟨cv,vv,env',F',H',rfl,z3,z4,z5,z9,z6,r3,z7,z8,ZE⟩
        have hty':ty=110:=hty
        subst hty'
        cases ZE with
        | ifc _ _ v0' hv0' =>
        exact out F' w' H' env' a'.tmps a'.defers r3 e2 h2 h3 (.panicking (pnc cv)) v0 v0' true cv (by simp) (E2.trans z3) z4 z5 z6 z7 z8 hv0' hh hret (.inl ⟨rfl,rfl,z9⟩)
       ·simp at hx
      ·simp at hx
    ·simp at hx
   ·simp at hx
  ·simp at hx
 ·simp at hx
end
noncomputable def m58a:Array Oper:=match f58.body with
 | some (.seq (.region _ ops _) _)=>ops
 | _ => #[]
noncomputable def m58b:Array Oper:=match f58.body with
 | some (.seq _ (.cond _ (.region _ ops _) _))=>ops
 | _ => #[]
theorem aPe:f58.body=some (.seq (.region 0 m58a false) (.cond (.tmp 5) (.region 1 m58b false) .skip)):=rfl
def aOI:List DOper:=[⟨0,some 4,.mv (.t 0),none⟩,⟨0,some 5,.not (.t 4),none⟩]
def l58b:List DOper:=[⟨0,some 6,.mv (.t 1),none⟩,⟨0,some 7,.build [.int .i64 0] [(0,(1,.t 6))],none⟩,⟨0,some 8,.mkifc 110 (.t 7),none⟩]
theorem aWZ:qA prog 9 m58a false=some aOI:=by kernel_rfl
theorem aWY:((m58b.toList.take 3).mapM (wE prog m58b))=some l58b:=by kernel_rfl
theorem p58:∃ o,m58b[3]?=some o∧o.guard=none∧o.op = .panic (.tmp 8):=⟨_,rfl,rfl,rfl⟩
theorem s58:m58b.size=4:=rfl
theorem n58:f58.ntmps=9:=rfl

section
variable {D:Nat→Option XFn} {B:Base} {Y:Nat→Option YI} {r:Nat→Option Nat} {h:XH} {H:Hp}
def aFZ:bZ:=fun _ _ _=>none
def aCe:cV:=fun _ _ _=>none
theorem aDm:FnS prog B D Y aFZ:=fun _ _ _ _ _ _ _ _ _ _ hx=>by simp[aFZ]at hx
theorem aBh:YS prog B D Y aCe:=fun _ _ _ _ _ _ _ _ _ _ _ _ hx=>by simp[aCe]at hx

theorem aTQ (k:IntKind) (n:Int):∃ e1,dM aFZ aCe aOI (aM [.bool false,.int k n]) h=some (e1,h)∧e1 5 = .bool true∧e1 1 = .int k n:=⟨_,rfl,rfl,rfl⟩
theorem aTP {e:aD} {k:IntKind} {n:Int} (he:e 1 = .int k n):∃ e1,dM aFZ aCe l58b e h=some (e1,h)∧e1 8 = .ifc 110 (.agg [.int k n]):=by
 refine⟨aP (aP (aP e (some 6) (.int k n)) (some 7) (.agg [.int k n])) (some 8) (.ifc 110 (.agg [.int k n])),?_,rfl⟩
 have h0:aG e (.t 1) = .int k n:=he
 simp only[l58b,dM,gd,bT,aA,h0,Option.bind_some]
 rfl

theorem aSh (hm:prog.follows .mixedOrders=true) (k:IntKind) (n:Int) {as':List AV} (sh:SH D Y r h H) (hA:RnL D Y r [.bool false,.int k n] as'):FnP B prog 58 as' H (bR D Y r (.ifc 110 (.agg [.int k n])) h):=by
 have hl:as'.length=2:=by have:=hA.1;simpa using this.symm
 refine⟨fun vs w=>call58 vs w,fun F w vs hB st hAr=>?_⟩
 have hsz:(vs++Array.replicate (f58.ntmps-vs.size) undef).size=9:=by
  have h1:=hAr.1
  rw[n58];simp;omega
 have hre:=uJ (N:=9) (nt:=f58.ntmps-vs.size) hB hAr
 obtain⟨e1,hx1,he5,he1⟩:=aTQ (h:=h) k n
 have RS0:=fB (P:=prog) (B:=B) aDm aBh aOI r _ h _ H e1 h (fun env' H'=>∃ r',DL.Sub r r'∧SR D Y r' e1 h env' H') rfl ⟨sh,gN hA⟩ hx1 (fun r' env' H' hs sr'=>⟨r',hs,sr'⟩)
 refine callsIn_of_wp_marks func58 aPe trivial (wpIn_seq (iE (B:=B) (r:=none) (N:=9) (draw:=false) hm aWZ hsz hB st hre RS0 ?_))
 rintro a1 F1 w1 env1 H1 p1 p2 p3 p4 p5 ⟨r1,p6,p7⟩
 show (Code.cond (.tmp 5) (.region 1 m58b false) .skip).wpIn Fence.wide 0 prog _ a1 w1
 have hev:a1.eval (.tmp 5) = .bool true:=by
  have h5:=p7.re 5
  rw[he5]at h5
  have:=p5.rv 5
  rw[dG h5]at this
  show a1.tmps.getD 5 undef=_
  generalize a1.tmps.getD 5 undef=z at this
  cases this;rfl
 refine wpIn_cond (t:=true) hev (OpsW.region ?_)
 rw[s58,show List.range 4=List.range' 0 l58b.length++[3] from rfl]
 obtain⟨e2,hx2,he8⟩:=aTP (h:=h) he1
 have wN:=fB (P:=prog) (B:=B) aDm aBh l58b r1 _ h _ H1 e2 h (fun env' H'=>∃ r',DL.Sub r r'∧SR D Y r' e2 h env' H') rfl p7 hx2 (fun r' env' H' hs sr'=>⟨r',p6.trans hs,sr'⟩)
 refine lK (r:=none) (B:=B) (N:=9) l58b 0 (fun j d hj=>?_) (fun d hd=>?_) F1 w1 H1 env1 a1 p1 (hB.step st p3) p4 p5 wN ?_
 ·obtain⟨h1,h2⟩:=mV aWY
  obtain⟨o,h3,h4⟩:=h2 j d hj
  rw[Nat.zero_add]
  refine fG (o:=o) ?_ h4
  rw[List.getElem?_take]at h3
  split at h3
  ·rwa [Array.getElem?_toList]at h3
  ·cases h3
 ·simp only[l58b,List.mem_cons,List.not_mem_nil,or_false]at hd
  rcases hd with rfl|rfl|rfl<;>exact⟨by intro k hk;simp at hk<;>omega,rfl,.inr rfl⟩
 rintro a2 F2 w2 env2 H2 q1 q2 q3 q4 q5 ⟨r2,q6,q7⟩
 refine OpsW.of ?_
 obtain⟨o,g1,g2,g3⟩:=p58
 rw[wpOpsIn_cons]
 unfold wpOpIn
 simp only[g1]
 have hw:Region.wanted o (yielded m58b a2.tmps)=true:=by unfold Region.wanted;rw[g2]
 rw[if_pos hw]
 refine⟨fun _ _=>trivial,?_⟩
 have h8:=q7.re 8
 rw[he8]at h8
 have hrv:=q5.rv 8
 cases hz:env2 8<;>rw[hz]at h8<;>cases h8
 rename_i v8 h8
 rw[hz]at hrv
 obtain⟨cv,hcv⟩:∃ cv,a2.tmps.getD 8 undef=cv:=⟨_,rfl⟩
 rw[hcv]at hrv
 have hev8:a2.eval (.tmp 8)=cv:=hcv
 have hrv0:=hrv
 cases hrv with
 | ifc _ _ vv hvv =>
 have hsem:(o.semAt (FW none).round a2.eval).run prog w2 = .halt (.panic (.iface 110 vv)) w2:=by
  rw[Oper.semAt_eq _ _ _ (by rw[g3];simp)]
  simp[execOp,g3,hev8,Instr.panic,goPanic]
 rw[hsem,Oper.uponIn_panic]
 show LeavesInM Fence.wide 0 prog f58 a2.tmps _ a2.defers (.panicking _) w2
 have hd2:a2.defers=[]:=by rw[q2,p2]
 rw[hd2]
 exact⟨.iface 110 vv,_,F2,H2,rfl,p3.trans q3,q4,hrv0,r2,q6,q7.sh,.ifc _ _ _ h8⟩
end
end Go.Proofs.YtmapgnepfgnphaaGreatDoor
namespace Go.Proofs.YtmapgnepfgnphaaGreatDoor
open Go Go.DL Go.Proofs.Tryz

def gS (f:List AV→XH→Option (AV×XH)):XFn:=⟨10,[],false,false,.skip,none,some f⟩
def aOo (n:Nat):XFn:=⟨n,[],false,false,.skip,none,some fun _ _=>none⟩
def aH (K:Nat):Option XFn:=match K with
 | 37=>some (gS yO)
 | 47=>some (gS aDg)
 | 57=>some (gS uS)
 | 71=>some (gS aDf)
 | 72=>some (gS mO)
 | 74=>some (gS aFU)
 | 80=>some (gS yN)
 | 83=>some (gS aBY)
 | 99=>some (gS aEG)
 | 115=>some (gS aCa)
 | 143=>some (gS pL)
 | 21=>some (aOo 41)
 | K=>aDd K

theorem aJf {D:Nat→Option XFn} {K:Nat}:eY D K (fun _ _=>none):=fun _ _ _ _ _ _ _ _ _ _ _ hx=>by cases hx
theorem XOk.over {D D':Nat→Option XFn} (ok:XOk prog D) (h:∀ K d,D' K=some d→(D K=some d∧d.prm=none)∨∃ n f,d=⟨n,[],false,false,.skip,none,some f⟩∧eY D' K f):XOk prog D' where
 mixed:=ok.mixed
 is K d hd hp:=by
  rcases h K d hd with ⟨h1,_⟩|⟨n,f,rfl,_⟩
  ·exact ok.is K d h1 hp
  ·cases hp
 prm K d f hd hp B Y _ r hh H xs ys v h' sh hr hx:=by
  rcases h K d hd with ⟨_,h2⟩|⟨n,f',rfl,h2⟩
  ·rw[h2]at hp;cases hp
  ·cases hp
   exact h2 B Y r hh H xs ys v h' sh hr hx
 ok K d hd:=by
  rcases h K d hd with ⟨h1,_⟩|⟨n,f,rfl,_⟩
  ·exact ok.ok K d h1
  ·rfl
 sites K d hd:=by
  rcases h K d hd with ⟨h1,_⟩|⟨n,f,rfl,_⟩
  ·exact ok.sites K d h1
  ·trivial

theorem aDe:XOk prog aH:=by
 refine XOk.over progX_ok fun K d hd=>?_
 unfold aH at hd
 split at hd
 ·cases hd;exact .inr ⟨_,_,rfl,aJo⟩
 ·cases hd;exact .inr ⟨_,_,rfl,aJn⟩
 ·cases hd;exact .inr ⟨_,_,rfl,aJm⟩
 ·cases hd;exact .inr ⟨_,_,rfl,aJl⟩
 ·cases hd;exact .inr ⟨_,_,rfl,aJk⟩
 ·cases hd;exact .inr ⟨_,_,rfl,aJj⟩
 ·cases hd;exact .inr ⟨_,_,rfl,aJi⟩
 ·cases hd;exact .inr ⟨_,_,rfl,aJh⟩
 ·cases hd;exact .inr ⟨_,_,rfl,aJg⟩
 ·cases hd;exact .inr ⟨_,_,rfl,aEF⟩
 ·cases hd;exact .inr ⟨_,_,rfl,aEE⟩
 ·cases hd;exact .inr ⟨_,_,rfl,aJf⟩
 ·exact .inl ⟨hd,aLF hd⟩

def specZ:jX:=⟨fun K xs=>match K,xs with
 | 58,[.bool false,.int k e]=>some (.ifc 110 (.agg [.int k e]))
 | _,_=>none,fun K=>if K=21 then some saySay else none,fun _ _ _=>none⟩
theorem aCK {D:Nat→Option XFn}:aPo prog D specZ:=by
 intro K xs v hx B Y r h H ys sh hA
 unfold specZ at hx
 dsimp only at hx
 split at hx
 ·cases hx
  exact aSh progX_ok.mixed _ _ sh hA
 ·cases hx
theorem aAL {D:Nat→Option XFn} (hD:D 21=some (aOo 41)):∀ K i,specZ.say K=some i→aKL prog D i K:=by
 intro K i hi
 unfold specZ at hi
 dsimp only at hi
 split at hi
 ·rename_i hK
  cases hi
  subst hK
  exact aOb hD rfl progX_ok.mixed
 ·cases hi
end Go.Proofs.YtmapgnepfgnphaaGreatDoor
namespace Go.Proofs.YtmapgnepfgnphaaGreatDoor
open Go Go.DL
theorem rf0:aV aH specZ 400 rw0.K rw0.as rw0.h=some (rw0.v,rw0.h'):=by kernel_rfl
theorem rf1:aV aH specZ 400 rw1.K rw1.as rw1.h=some (rw1.v,rw1.h'):=by kernel_rfl
theorem rf2:aV aH specZ 400 rw2.K rw2.as rw2.h=some (rw2.v,rw2.h'):=by kernel_rfl
theorem rf3:aV aH specZ 400 rw3.K rw3.as rw3.h=some (rw3.v,rw3.h'):=by kernel_rfl
theorem rf6:aV aH specZ 400 rw6.K rw6.as rw6.h=some (rw6.v,rw6.h'):=by kernel_rfl
theorem rf7:aV aH specZ 400 rw7.K rw7.as rw7.h=some (rw7.v,rw7.h'):=by kernel_rfl
theorem rf8:aV aH specZ 400 rw8.K rw8.as rw8.h=some (rw8.v,rw8.h'):=by kernel_rfl
theorem rf9:aV aH specZ 400 rw9.K rw9.as rw9.h=some (rw9.v,rw9.h'):=by kernel_rfl
theorem aVD:aV aH specZ 400 rw10.K rw10.as rw10.h=some (rw10.v,rw10.h'):=by kernel_rfl
theorem aVB:aV aH specZ 400 rw12.K rw12.as rw12.h=some (rw12.v,rw12.h'):=by kernel_rfl
theorem aVA:aV aH specZ 400 rw13.K rw13.as rw13.h=some (rw13.v,rw13.h'):=by kernel_rfl
theorem aVy:aV aH specZ 400 rw15.K rw15.as rw15.h=some (rw15.v,rw15.h'):=by kernel_rfl
theorem aVx:aV aH specZ 400 rw16.K rw16.as rw16.h=some (rw16.v,rw16.h'):=by kernel_rfl
theorem aVw:aV aH specZ 400 rw17.K rw17.as rw17.h=some (rw17.v,rw17.h'):=by kernel_rfl
theorem aVv:aV aH specZ 400 rw18.K rw18.as rw18.h=some (rw18.v,rw18.h'):=by kernel_rfl
theorem aVu:aV aH specZ 400 rw19.K rw19.as rw19.h=some (rw19.v,rw19.h'):=by kernel_rfl
theorem aVt:aV aH specZ 400 rw20.K rw20.as rw20.h=some (rw20.v,rw20.h'):=by kernel_rfl
theorem aVs:aV aH specZ 400 rw21.K rw21.as rw21.h=some (rw21.v,rw21.h'):=by kernel_rfl
theorem aVr:aV aH specZ 400 rw22.K rw22.as rw22.h=some (rw22.v,rw22.h'):=by kernel_rfl
theorem aVq:aV aH specZ 400 rw23.K rw23.as rw23.h=some (rw23.v,rw23.h'):=by kernel_rfl
theorem aVp:aV aH specZ 400 rw24.K rw24.as rw24.h=some (rw24.v,rw24.h'):=by kernel_rfl
theorem aVo:aV aH specZ 400 rw25.K rw25.as rw25.h=some (rw25.v,rw25.h'):=by kernel_rfl
theorem aVn:aV aH specZ 400 rw26.K rw26.as rw26.h=some (rw26.v,rw26.h'):=by kernel_rfl
theorem aVm:aV aH specZ 400 rw27.K rw27.as rw27.h=some (rw27.v,rw27.h'):=by kernel_rfl
theorem aVl:aV aH specZ 400 rw28.K rw28.as rw28.h=some (rw28.v,rw28.h'):=by kernel_rfl
theorem aVk:aV aH specZ 400 rw29.K rw29.as rw29.h=some (rw29.v,rw29.h'):=by kernel_rfl
theorem aVj:aV aH specZ 400 rw30.K rw30.as rw30.h=some (rw30.v,rw30.h'):=by kernel_rfl
theorem aVi:aV aH specZ 400 rw31.K rw31.as rw31.h=some (rw31.v,rw31.h'):=by kernel_rfl
theorem aVh:aV aH specZ 400 rw32.K rw32.as rw32.h=some (rw32.v,rw32.h'):=by kernel_rfl
theorem aVg:aV aH specZ 400 rw33.K rw33.as rw33.h=some (rw33.v,rw33.h'):=by kernel_rfl
theorem aVf:aV aH specZ 400 rw34.K rw34.as rw34.h=some (rw34.v,rw34.h'):=by kernel_rfl
theorem aVe:aV aH specZ 400 rw35.K rw35.as rw35.h=some (rw35.v,rw35.h'):=by kernel_rfl
theorem aVd:aV aH specZ 400 rw36.K rw36.as rw36.h=some (rw36.v,rw36.h'):=by kernel_rfl
theorem aVc:aV aH specZ 400 rw37.K rw37.as rw37.h=some (rw37.v,rw37.h'):=by kernel_rfl
theorem aVb:aV aH specZ 400 rw38.K rw38.as rw38.h=some (rw38.v,rw38.h'):=by kernel_rfl
theorem aVa:aV aH specZ 400 rw39.K rw39.as rw39.h=some (rw39.v,rw39.h'):=by kernel_rfl
theorem aUZ:aV aH specZ 400 rw40.K rw40.as rw40.h=some (rw40.v,rw40.h'):=by kernel_rfl
theorem aUY:aV aH specZ 400 rw41.K rw41.as rw41.h=some (rw41.v,rw41.h'):=by kernel_rfl
theorem aUX:aV aH specZ 400 rw42.K rw42.as rw42.h=some (rw42.v,rw42.h'):=by kernel_rfl
theorem aUW:aV aH specZ 400 rw43.K rw43.as rw43.h=some (rw43.v,rw43.h'):=by kernel_rfl
theorem aUV:aV aH specZ 400 rw44.K rw44.as rw44.h=some (rw44.v,rw44.h'):=by kernel_rfl
theorem aUU:aV aH specZ 400 rw45.K rw45.as rw45.h=some (rw45.v,rw45.h'):=by kernel_rfl
theorem aUT:aV aH specZ 400 rw46.K rw46.as rw46.h=some (rw46.v,rw46.h'):=by kernel_rfl
theorem aUS:aV aH specZ 400 rw47.K rw47.as rw47.h=some (rw47.v,rw47.h'):=by kernel_rfl
theorem aUQ:aV aH specZ 400 rw49.K rw49.as rw49.h=some (rw49.v,rw49.h'):=by kernel_rfl
theorem aUP:aV aH specZ 400 rw50.K rw50.as rw50.h=some (rw50.v,rw50.h'):=by kernel_rfl
theorem aUO:aV aH specZ 400 rw51.K rw51.as rw51.h=some (rw51.v,rw51.h'):=by kernel_rfl
theorem aUN:aV aH specZ 400 rw52.K rw52.as rw52.h=some (rw52.v,rw52.h'):=by kernel_rfl
theorem aUM:aV aH specZ 400 rw53.K rw53.as rw53.h=some (rw53.v,rw53.h'):=by kernel_rfl
theorem aUL:aV aH specZ 400 rw54.K rw54.as rw54.h=some (rw54.v,rw54.h'):=by kernel_rfl
theorem aUK:aV aH specZ 400 rw55.K rw55.as rw55.h=some (rw55.v,rw55.h'):=by kernel_rfl
theorem aUI:aV aH specZ 400 rw57.K rw57.as rw57.h=some (rw57.v,rw57.h'):=by kernel_rfl
theorem aUH:aV aH specZ 400 rw58.K rw58.as rw58.h=some (rw58.v,rw58.h'):=by kernel_rfl
theorem aUG:aV aH specZ 400 rw59.K rw59.as rw59.h=some (rw59.v,rw59.h'):=by kernel_rfl
theorem aUF:aV aH specZ 400 rw60.K rw60.as rw60.h=some (rw60.v,rw60.h'):=by kernel_rfl
theorem aUE:aV aH specZ 400 rw61.K rw61.as rw61.h=some (rw61.v,rw61.h'):=by kernel_rfl
theorem aUD:aV aH specZ 400 rw62.K rw62.as rw62.h=some (rw62.v,rw62.h'):=by kernel_rfl
theorem aUC:aV aH specZ 400 rw63.K rw63.as rw63.h=some (rw63.v,rw63.h'):=by kernel_rfl
theorem aUz:aV aH specZ 400 rw66.K rw66.as rw66.h=some (rw66.v,rw66.h'):=by kernel_rfl
theorem aUy:aV aH specZ 400 rw68.K rw68.as rw68.h=some (rw68.v,rw68.h'):=by kernel_rfl
theorem aUx:aV aH specZ 400 rw69.K rw69.as rw69.h=some (rw69.v,rw69.h'):=by kernel_rfl
theorem aUw:aV aH specZ 400 rw70.K rw70.as rw70.h=some (rw70.v,rw70.h'):=by kernel_rfl
theorem aUv:aV aH specZ 400 rw71.K rw71.as rw71.h=some (rw71.v,rw71.h'):=by kernel_rfl
theorem aUu:aV aH specZ 400 rw72.K rw72.as rw72.h=some (rw72.v,rw72.h'):=by kernel_rfl
theorem aUt:aV aH specZ 400 rw73.K rw73.as rw73.h=some (rw73.v,rw73.h'):=by kernel_rfl
theorem aUs:aV aH specZ 400 rw74.K rw74.as rw74.h=some (rw74.v,rw74.h'):=by kernel_rfl
theorem aUq:aV aH specZ 400 rw76.K rw76.as rw76.h=some (rw76.v,rw76.h'):=by kernel_rfl
theorem aUp:aV aH specZ 400 rw77.K rw77.as rw77.h=some (rw77.v,rw77.h'):=by kernel_rfl
theorem aUo:aV aH specZ 400 rw78.K rw78.as rw78.h=some (rw78.v,rw78.h'):=by kernel_rfl
theorem aUn:aV aH specZ 400 rw79.K rw79.as rw79.h=some (rw79.v,rw79.h'):=by kernel_rfl
theorem aUm:aV aH specZ 400 rw80.K rw80.as rw80.h=some (rw80.v,rw80.h'):=by kernel_rfl
theorem aUl:aV aH specZ 400 rw81.K rw81.as rw81.h=some (rw81.v,rw81.h'):=by kernel_rfl
theorem aUk:aV aH specZ 400 rw82.K rw82.as rw82.h=some (rw82.v,rw82.h'):=by kernel_rfl
theorem aUh:aV aH specZ 400 rw85.K rw85.as rw85.h=some (rw85.v,rw85.h'):=by kernel_rfl
def aCG:List dF:=[rw0,rw1,rw2,rw3,rw6,rw7,rw8,rw9,rw10,rw12,rw13,rw15,rw16,rw17,rw18,rw19,rw20,rw21,rw22,rw23,rw24,rw25,rw26,rw27,rw28,rw29,rw30,rw31,rw32,rw33,rw34,rw35,rw36,rw37,rw38,rw39,rw40,rw41,rw42,rw43,rw44,rw45,rw46,rw47,rw49,rw50,rw51,rw52,rw53,rw54,rw55,rw57,rw58,rw59,rw60,rw61,rw62,rw63,rw66,rw68,rw69,rw70,rw71,rw72,rw73,rw74,rw76,rw77,rw78,rw79,rw80,rw81,rw82,rw85]
theorem aKZ:∀ q∈aCG,∃ n,aV aH specZ n q.K q.as q.h=some (q.v,q.h'):=by
 intro q hq
 simp only[aCG,List.mem_cons,List.not_mem_nil,or_false]at hq
 rcases hq with rfl|rfl|rfl|rfl|rfl|rfl|rfl|rfl|rfl|rfl|rfl|rfl|rfl|rfl|rfl|rfl|rfl|rfl|rfl|rfl|rfl|rfl|rfl|rfl|rfl|rfl|rfl|rfl|rfl|rfl|rfl|rfl|rfl|rfl|rfl|rfl|rfl|rfl|rfl|rfl|rfl|rfl|rfl|rfl|rfl|rfl|rfl|rfl|rfl|rfl|rfl|rfl|rfl|rfl|rfl|rfl|rfl|rfl|rfl|rfl|rfl|rfl|rfl|rfl|rfl|rfl|rfl|rfl|rfl|rfl|rfl|rfl|rfl|rfl
 ·exact⟨400,rf0⟩
 ·exact⟨400,rf1⟩
 ·exact⟨400,rf2⟩
 ·exact⟨400,rf3⟩
 ·exact⟨400,rf6⟩
 ·exact⟨400,rf7⟩
 ·exact⟨400,rf8⟩
 ·exact⟨400,rf9⟩
 ·exact⟨400,aVD⟩
 ·exact⟨400,aVB⟩
 ·exact⟨400,aVA⟩
 ·exact⟨400,aVy⟩
 ·exact⟨400,aVx⟩
 ·exact⟨400,aVw⟩
 ·exact⟨400,aVv⟩
 ·exact⟨400,aVu⟩
 ·exact⟨400,aVt⟩
 ·exact⟨400,aVs⟩
 ·exact⟨400,aVr⟩
 ·exact⟨400,aVq⟩
 ·exact⟨400,aVp⟩
 ·exact⟨400,aVo⟩
 ·exact⟨400,aVn⟩
 ·exact⟨400,aVm⟩
 ·exact⟨400,aVl⟩
 ·exact⟨400,aVk⟩
 ·exact⟨400,aVj⟩
 ·exact⟨400,aVi⟩
 ·exact⟨400,aVh⟩
 ·exact⟨400,aVg⟩
 ·exact⟨400,aVf⟩
 ·exact⟨400,aVe⟩
 ·exact⟨400,aVd⟩
 ·exact⟨400,aVc⟩
 ·exact⟨400,aVb⟩
 ·exact⟨400,aVa⟩
 ·exact⟨400,aUZ⟩
 ·exact⟨400,aUY⟩
 ·exact⟨400,aUX⟩
 ·exact⟨400,aUW⟩
 ·exact⟨400,aUV⟩
 ·exact⟨400,aUU⟩
 ·exact⟨400,aUT⟩
 ·exact⟨400,aUS⟩
 ·exact⟨400,aUQ⟩
 ·exact⟨400,aUP⟩
 ·exact⟨400,aUO⟩
 ·exact⟨400,aUN⟩
 ·exact⟨400,aUM⟩
 ·exact⟨400,aUL⟩
 ·exact⟨400,aUK⟩
 ·exact⟨400,aUI⟩
 ·exact⟨400,aUH⟩
 ·exact⟨400,aUG⟩
 ·exact⟨400,aUF⟩
 ·exact⟨400,aUE⟩
 ·exact⟨400,aUD⟩
 ·exact⟨400,aUC⟩
 ·exact⟨400,aUz⟩
 ·exact⟨400,aUy⟩
 ·exact⟨400,aUx⟩
 ·exact⟨400,aUw⟩
 ·exact⟨400,aUv⟩
 ·exact⟨400,aUu⟩
 ·exact⟨400,aUt⟩
 ·exact⟨400,aUs⟩
 ·exact⟨400,aUq⟩
 ·exact⟨400,aUp⟩
 ·exact⟨400,aUo⟩
 ·exact⟨400,aUn⟩
 ·exact⟨400,aUm⟩
 ·exact⟨400,aUl⟩
 ·exact⟨400,aUk⟩
 ·exact⟨400,aUh⟩
def vO:jX:={ specZ with orc:=aAx aCG }
theorem rf4:aV aH vO 400 rw4.K rw4.as rw4.h=some (rw4.v,rw4.h'):=by kernel_rfl
theorem aVC:aV aH vO 400 rw11.K rw11.as rw11.h=some (rw11.v,rw11.h'):=by kernel_rfl
theorem aVz:aV aH vO 400 rw14.K rw14.as rw14.h=some (rw14.v,rw14.h'):=by kernel_rfl
theorem aUJ:aV aH vO 400 rw56.K rw56.as rw56.h=some (rw56.v,rw56.h'):=by kernel_rfl
theorem aUB:aV aH vO 400 rw64.K rw64.as rw64.h=some (rw64.v,rw64.h'):=by kernel_rfl
theorem aUr:aV aH vO 400 rw75.K rw75.as rw75.h=some (rw75.v,rw75.h'):=by kernel_rfl
theorem aUj:aV aH vO 400 rw83.K rw83.as rw83.h=some (rw83.v,rw83.h'):=by kernel_rfl
def aGL:List dF:=[rw4,rw11,rw14,rw56,rw64,rw75,rw83]
theorem aKY:∀ q∈aGL,∃ n,aV aH vO n q.K q.as q.h=some (q.v,q.h'):=by
 intro q hq
 simp only[aGL,List.mem_cons,List.not_mem_nil,or_false]at hq
 rcases hq with rfl|rfl|rfl|rfl|rfl|rfl|rfl
 ·exact⟨400,rf4⟩
 ·exact⟨400,aVC⟩
 ·exact⟨400,aVz⟩
 ·exact⟨400,aUJ⟩
 ·exact⟨400,aUB⟩
 ·exact⟨400,aUr⟩
 ·exact⟨400,aUj⟩
def aAM:jX:={ specZ with orc:=aAx (aGL++aCG) }
theorem rf5:aV aH aAM 400 rw5.K rw5.as rw5.h=some (rw5.v,rw5.h'):=by kernel_rfl
theorem aUR:aV aH aAM 400 rw48.K rw48.as rw48.h=some (rw48.v,rw48.h'):=by kernel_rfl
theorem aUA:aV aH aAM 400 rw65.K rw65.as rw65.h=some (rw65.v,rw65.h'):=by kernel_rfl
theorem aUi:aV aH aAM 400 rw84.K rw84.as rw84.h=some (rw84.v,rw84.h'):=by kernel_rfl
theorem aUg:aV aH aAM 400 rw86.K rw86.as rw86.h=some (rw86.v,rw86.h'):=by kernel_rfl
def aKX:List dF:=[rw5,rw48,rw65,rw84,rw86]
theorem aKW:∀ q∈aKX,∃ n,aV aH aAM n q.K q.as q.h=some (q.v,q.h'):=by
 intro q hq
 simp only[aKX,List.mem_cons,List.not_mem_nil,or_false]at hq
 rcases hq with rfl|rfl|rfl|rfl|rfl
 ·exact⟨400,rf5⟩
 ·exact⟨400,aUR⟩
 ·exact⟨400,aUA⟩
 ·exact⟨400,aUi⟩
 ·exact⟨400,aUg⟩
def aRH:jX:={ specZ with orc:=aAx (aKX++(aGL++aCG)) }
end Go.Proofs.YtmapgnepfgnphaaGreatDoor
namespace Go.Proofs.YtmapgnepfgnphaaGreatDoor
open Go Go.DL Go.Proofs.Tryz

def aAj (q:dF):Prop:=∀ (B:Base) (Y:Nat→Option YI),YOk prog B aH Y→∀ (r:Nat→Option Nat) (H:Hp) (ys:List AV),SH aH Y r q.h H→RnL aH Y r q.as ys→FnW B prog q.K ys H (bR aH Y r q.v q.h')
theorem aHe {S:jX} {T:List dF} (h:∀ q∈T,aAj q) (hS:S.orc=aAx T):aNs prog aH S:=by
 intro K xs hh q hq B Y hY r H ys sh hA
 rw[hS]at hq
 obtain⟨u,hu,rfl,rfl,rfl,rfl⟩:=aDj hq
 exact h u hu B Y hY r H ys sh hA
def aKK (S:jX):Prop:=∀ (n:Nat) (B:Base) (Y:Nat→Option YI),YOk prog B aH Y→FnS prog B aH Y (aV aH S n)
theorem tI {S:jX} (hz:aKK S) {q:dF} (h:∃ n,aV aH S n q.K q.as q.h=some (q.v,q.h')):aAj q:=by
 obtain⟨n,hn⟩:=h
 exact fun B Y hY r H ys sh hA=>hz n B Y hY r q.h H q.K q.as ys q.v q.h' sh hA hn
theorem xO {T:List dF} (h:∀ q∈T,aAj q):aKK { specZ with orc:=aAx T }:=fun n B Y hY =>
 ((xY (S:={ specZ with orc:=aAx T }) aDe (aCK (D:=aH)) (aAL (D:=aH) rfl) (aHe h rfl) n).1 B Y hY).1
theorem aLl:aKK specZ:=fun n B Y hY =>
 ((xY (S:=specZ) aDe (aCK (D:=aH)) (aAL (D:=aH) rfl) (fun K xs hh q hq=>by cases hq) n).1 B Y hY).1
theorem aMS:∀ q∈aCG,aAj q:=fun q hq=>tI aLl (aKZ q hq)
theorem aMR:∀ q∈aGL++aCG,aAj q:=fun q hq=>(List.mem_append.1 hq).elim (fun hq=>tI (xO aMS) (aKY q hq)) (aMS q)
theorem aRQ:∀ q∈aKX++(aGL++aCG),aAj q:=fun q hq=>(List.mem_append.1 hq).elim (fun hq=>tI (xO aMR) (aKW q hq)) (aMR q)
theorem aGI:aV aH aRH 400 13 [] []=some (.bool true,[]):=by kernel_rfl
theorem aHQ:aAj ⟨13,[],[],.bool true,[]⟩:=tI (xO aRQ) ⟨400,aGI⟩
end Go.Proofs.YtmapgnepfgnphaaGreatDoor
namespace Go.Proofs.YtmapgnepfgnphaaGreatDoor
open Go Go.DL Go.RowKit Go.Proofs.Tryz
variable {D:Nat→Option XFn} {Y:Nat→Option YI} {r:Nat→Option Nat} {h:XH} {H:Hp} {B:Base}
def aDX (s:ByteArray):AV:=match Lib.atoiAll s.data.toList with
 | .ok v=>.tup [.int .i64 v,.nilifc]
 | Lib.NumEnd.syntax=>.tup [.int .i64 0,.ifc 232 .any]
 | .range=>.tup [.int .i64 (Lib.atoiSat s.data.toList),.ifc 232 .any]
def aEH:List AV→XH→Option (AV×XH):=fun xs h=>match xs with
 | [.str s]=>if s.size≤100000 then some (aDX s,h) else none
 | _=>none
theorem aBF {F:Nat→Prop} {w:World} {a b:AV} {x y:Value} (h1:Rv F w a x) (h2:Rv F w b y):Rv F w (.tup [a,b]) (.tuple #[x,y]):=by
 refine .tup _ _ rfl fun i c v hc hv=>?_
 match i,hc,hv with
 | 0,hc,hv =>
   simp at hc hv
   rw[←hc,←hv];exact h1
 | 1,hc,hv =>
   simp at hc hv
   rw[←hc,←hv];exact h2
 | i+2,hc,_=>simp at hc
theorem aBG {a b x y:AV} (h1:Rn D Y r a x) (h2:Rn D Y r b y):Rn D Y r (.tup [a,b]) (.tup [x,y]):=by
 refine .tup _ _ rfl fun i c v hc hv=>?_
 match i,hc,hv with
 | 0,hc,hv =>
   simp at hc hv
   rw[←hc,←hv];exact h1
 | 1,hc,hv =>
   simp at hc hv
   rw[←hc,←hv];exact h2
 | i+2,hc,_=>simp at hc
theorem aNi:eY D 86 aEH:=by
 intro B Y r h H xs ys v h' sh hr hx
 unfold aEH at hx
 split at hx
 ·rename_i s
  split at hx
  ·rename_i hn
   cases hx
   obtain⟨a,as1,rfl,h1,h2⟩:=hr.inv
   rw[bJ h1,h2.nil_inv]
   have hrn:Rn D Y r (aDX s) (aDX s):=by
    unfold aDX
    split
    ·exact aBG (.int _ _) .nilifc
    ·exact aBG (.int _ _) (.ifc _ _ _ (.any _))
    ·exact aBG (.int _ _) (.ifc _ _ _ (.any _))
   refine FnW.shelfG (fun vs w=>call86 vs w) (fun F w vs gi hl ha=>?_) ⟨r,DL.Sub.refl r,sh,hrn⟩
   obtain⟨b,bs,rfl,h3,h4⟩:=ha.cons1
   cases h3;rw[h4.nil1]
   obtain⟨_,ev1,hv1,he1⟩:=gi.2.2.2 1 (by simp[wX])
   obtain⟨_,ev2,hv2,he2⟩:=gi.2.2.2 2 (by simp[wX])
   unfold aDX
   cases hA:Lib.atoiAll s.data.toList with
   | ok v =>
     refine(Tryz.strconv_Atoi_ok s (by omega) v hA w).mono ?_
     rintro e w' ⟨rfl,hw⟩
     have hbel:Below w.heap.size w w':=by
      rcases hw with rfl|⟨t,rfl⟩
      ·exact Below.refl _ _
      ·exact Lib.bytesWorld_below _ _ _
     exact⟨_,F,rfl,hbel,fun _ h=>h,fun _ h=>.inl h,fun b hb=>Nat.lt_of_lt_of_le (hl b hb) hbel.size,aBF (.int _ _) .nilifc⟩
   | range =>
     refine(Tryz.strconv_Atoi_range s (by omega) hA ev2 w hv2 he2).mono ?_
     rintro e w' ⟨N,rfl,_,_,hbel⟩
     exact⟨_,F,rfl,hbel,fun _ h=>h,fun _ h=>.inl h,fun b hb=>Nat.lt_of_lt_of_le (hl b hb) hbel.size,aBF (.int _ _) (.ifc _ _ _ (.any _))⟩
   | _ =>
     refine(Tryz.strconv_Atoi_syntax s (by omega) hA ev1 w hv1 he1).mono ?_
     rintro e w' ⟨N,rfl,_,_,hbel⟩
     exact⟨_,F,rfl,hbel,fun _ h=>h,fun _ h=>.inl h,fun b hb=>Nat.lt_of_lt_of_le (hl b hb) hbel.size,aBF (.int _ _) (.ifc _ _ _ (.any _))⟩
  ·cases hx
 ·cases hx
end Go.Proofs.YtmapgnepfgnphaaGreatDoor
namespace Go.Proofs.YtmapgnepfgnphaaGreatDoor
open Go Go.DL Go.Proofs.Tryz

def wT:List AV→XH→Option (AV×XH):=fun xs h=>match xs with
 | []=>some (.bool true,h)
 | _=>none
theorem aNj {D:Nat→Option XFn}:eY D 13 wT:=by
 intro B Y r h H xs ys v h' sh hr hx
 unfold wT at hx
 split at hx
 ·cases hx
  rw[hr.nil_inv]
  have h0:=aHQ B (fun _=>none) (fun l i h=>by simp at h) (fun _=>none) noH [] SH.none (RnL.self fun a ha=>by cases ha)
  have h1:CallV B prog (.fn (.func 13) [] []) [] (fun c=>if (fun _:Nat=>False) c then H c else none) (bR aH (fun _=>none) (fun _=>none) (.bool true) []):=by
   have e:(fun c=>if (fun _:Nat=>False) c then H c else none)=noH:=by funext c;exact if_neg (fun h=>h)
   rw[e];exact h0
  refine CallV.mono (CallV.frameS (H:=H) (fun _=>False) h1) ?_
  rintro v' H'' ⟨H',⟨r',k1,k2,k3⟩,e1,e2⟩
  obtain⟨rfl,_⟩:=k3.same (Gd.bool true).gr
  obtain⟨G,hG⟩:=sh.gh
  refine⟨r,DL.Sub.refl r,⟨sh.dom,sh.inj,fun b x hb=>?_,_,hG.via id (fun b st p hb=>⟨hb,rfl⟩) (fun b x hb=>.inl ⟨x,hb,rfl,fun st p e=>e⟩) (fun _ _ _ _ _ _ _ hne=>hne) fun b st p n y _ _ hy=>(e2 n (fun h=>h) y hy).1⟩,(Gd.bool true).rn⟩
  obtain⟨c,y,a1,a2,a3⟩:=sh.blk b x hb
  exact⟨c,y,a1,(e2 c (fun h=>h) y a2).1,a3⟩
 ·cases hx
def aB (K:Nat):Option XFn:=match K with
 | 13=>some (gS wT)
 | 86=>some (gS aEH)
 | K=>aH K
theorem aW:XOk prog aB:=by
 refine XOk.over progX_ok fun K d hd=>?_
 unfold aB at hd
 split at hd
 ·cases hd;exact .inr ⟨_,_,rfl,aNj⟩
 ·cases hd;exact .inr ⟨_,_,rfl,aNi⟩
 ·unfold aH at hd
  split at hd
  ·cases hd;exact .inr ⟨_,_,rfl,aJo⟩
  ·cases hd;exact .inr ⟨_,_,rfl,aJn⟩
  ·cases hd;exact .inr ⟨_,_,rfl,aJm⟩
  ·cases hd;exact .inr ⟨_,_,rfl,aJl⟩
  ·cases hd;exact .inr ⟨_,_,rfl,aJk⟩
  ·cases hd;exact .inr ⟨_,_,rfl,aJj⟩
  ·cases hd;exact .inr ⟨_,_,rfl,aJi⟩
  ·cases hd;exact .inr ⟨_,_,rfl,aJh⟩
  ·cases hd;exact .inr ⟨_,_,rfl,aJg⟩
  ·cases hd;exact .inr ⟨_,_,rfl,aEF⟩
  ·cases hd;exact .inr ⟨_,_,rfl,aEE⟩
  ·cases hd;exact .inr ⟨_,_,rfl,aJf⟩
  ·exact .inl ⟨hd,aLF hd⟩
theorem qX (K:Nat) (d:XFn) (hD:aB K=some d) {vs:List AV} {h:XH} (hl:vs.length≤d.N:=by exact Nat.le_of_ble_eq_true rfl) (hdf:d.dfr=none:=by rfl) (hpr:d.prm=none:=by rfl) (hg:fP K=false:=by rfl):runW aB K vs h=fV none d.res d.ownR h.length (execW aB K h.length none d.body (aM (if d.ownA then vs else jJ vs)) h):=eK hD hl h hdf hpr hg
theorem qY (K:Nat) (d:XFn) (hD:aB K=some d) {vs:List AV} {h:XH} (hl:vs.length≤d.N:=by exact Nat.le_of_ble_eq_true rfl) (hdf:d.dfr=none:=by rfl) (hg:fP K=true:=by rfl) (hpr:d.prm=none:=by rfl):runW aB K vs h=aAv d.res (execW aB K h.length none d.body (aM (if d.ownA then vs else jJ vs)) h):=aIE hD hl h hdf hg hpr
end Go.Proofs.YtmapgnepfgnphaaGreatDoor
namespace Go.Proofs.YtmapgnepfgnphaaGreatDoor
open Go Go.DL

def hZ (x:Nat):Nat:=(x+224)%256
def dJ (s:List Nat):List Nat:=s.take 40++List.replicate (40-s.length) 32
def wM:Nat→List Nat→Nat
 | _,[]=>0
 | i,x::r=>(i+1)*hZ x+wM (i+1) r
def zX (row:Nat) (f:List Nat):Nat:=(row+wM 0 f)%9973
def rH (c:Nat):List Nat:=[48+c/1000,48+c/100%10,48+c/10%10,48+c%10]
def lG (row:Nat) (f:List Nat):List Nat:=rH (zX row f)++(f++[10])
def dA (times:Nat):List Nat→List Nat→List Nat
 | a::f,b::o=>(32+(hZ a+times*hZ b)%95)::dA times f o
 | _,_=>[]
def bN (s:ByteArray):List Nat:=s.data.toList.map UInt8.toNat
def nBy (l:List Nat):ByteArray:=⟨⟨l.map UInt8.ofNat⟩⟩
def qD (l:List Nat):AV:=.agg (l.map fun(n:Nat)=>.int .u8 (n:Int))
end Go.Proofs.YtmapgnepfgnphaaGreatDoor
namespace Go.Proofs.YtmapgnepfgnphaaGreatDoor
open Go Go.DL
set_option maxRecDepth 100000
set_option maxHeartbeats 4000000
abbrev U (n:Nat):AV:=.int .u8 (n:Int)
theorem ptf (p:Prop):p=True∨p=False:=by
 by_cases h:p
 ·exact .inl (eq_true h)
 ·exact .inr (eq_false h)
theorem qH {α:Type} {l:List α} {i:Nat} (h:i<l.length):∃ x,l[i]?=some x:=⟨_,List.getElem?_eq_getElem h⟩
theorem oZ {n i:Nat} (h:i<n) (hn:n≤9223372036854775807):IntKind.i64.wrap ((i:Int)+1)=(i:Int)+1:=bB (by omega) (by omega)
theorem p57 {xs:List AV} {h:XH}:runW aB 57 xs h=uS xs h:=cI rfl rfl xs h
theorem aVG {xs:List AV} {h:XH}:runW aB 143 xs h=pL xs h:=cI rfl rfl xs h
theorem q44 {vs:List AV} {h:XH} (hl:vs.length≤15):runW aB 44 vs h=fV none x44.res x44.ownR h.length (execW aB 44 h.length none x44.body (aM (if x44.ownA then vs else jJ vs)) h):=eK rfl hl h rfl
theorem aVE {vs:List AV} {h:XH} (hl:vs.length≤33):runW aB 119 vs h=fV none x119.res x119.ownR h.length (execW aB 119 h.length none x119.body (aM (if x119.ownA then vs else jJ vs)) h):=eK rfl hl h rfl

def bL (l:List Nat):List AV:=l.map fun(n:Nat)=>.int .u8 (n:Int)
theorem bE (l:List Nat):qD l = .agg (bL l):=rfl
theorem aL (l:List Nat):(bL l).length=l.length:=by simp[bL]
theorem aHU {l:List Nat} {i x:Nat} (h:l[i]?=some x):(bL l)[i]?=some (U x):=by simp[bL,h]
theorem bF (l:List Nat):jK (bL l)=true:=dW fun v hv=>by
 obtain⟨n,_,rfl⟩:=List.mem_map.1 hv;rfl
theorem cG (l:List Nat):slL (bL l)=[]:=by
 induction l with
 | nil=>rfl
 | cons a l ih=>show uM _++slL (bL l)=[];rw[ih];rfl
theorem bY (l:List Nat):nP (bL l)=[]:=by
 induction l with
 | nil=>rfl
 | cons a l ih=>show kU _++nP (bL l)=[];rw[ih];rfl
theorem bX (s:Nat→Option Nat) (l:List Nat):lI s (bL l)=bL l:=by
 induction l with
 | nil=>rfl
 | cons a l ih=>show rnA s _::lI s (bL l)=_;rw[ih];rfl
theorem cH (l:List Nat):jJ (bL l)=bL l:=by
 induction l with
 | nil=>rfl
 | cons a l ih=>show oI _::jJ (bL l)=_;rw[ih];rfl
theorem aHT {l:List Nat} {i x:Nat} (h:i<l.length):bH (bL l) i [.int .u8 (x:Int)]=bL (l.set i x):=by
 unfold bH bL
 rw[List.map_set,List.set_eq_take_append_cons_drop,if_pos (by simpa using h)]
 simp
theorem gO {a b:List Nat} (h:a.length=b.length):bH (bL a) 0 (bL b)=bL b:=by
 unfold bH
 rw[List.take_zero,List.nil_append,List.drop_eq_nil_of_le (by rw[aL,aL];omega),List.append_nil]
theorem fC {l:List Nat} (h:l.length=40):List.take 40 (bL l)=bL l:=List.take_of_length_le (by rw[aL];omega)
theorem iA {l:List Nat} (h:l.length=40):List.take 40 (List.drop 0 (bL l))=bL l:=by rw[List.drop_zero];exact fC h

def nf (i:Nat):List Nat:=List.replicate i 32++List.replicate (40-i) 0
theorem cZ {i:Nat} (h:i≤40):(nf i).length=40:=by simp[nf];omega
theorem aOA {i:Nat} (h:i<40):bH (bL (nf i)) i [.int .u8 32]=bL (nf (i+1)):=by
 have h1:=aHT (l:=nf i) (i:=i) (x:=32) (by rw[cZ (by omega)];exact h)
 have h2:(nf i).set i 32=nf (i+1):=by
  unfold nf
  obtain⟨k,hk⟩:∃ k,40-i=k+1:=⟨39-i,by omega⟩
  have hk':40-(i+1)=k:=by omega
  rw[hk,hk',List.replicate_succ,List.replicate_succ',List.set_append_right _ _ (by simp)]
  simp
 rw[←h2];exact h1
theorem gU (l:List Nat):(dJ l).length=40:=by simp[dJ];omega
theorem aWV (s:ByteArray):bH (bL (nf 40)) 0 ((s.data.toList.map fun b=>AV.int .u8 (b.toNat:Int)).take (min s.size 40))=bL (dJ (bN s)):=by
 have hs:s.size=s.data.toList.length:=by rw[Array.length_toList];rfl
 have hn:bL (nf 40)=List.replicate 40 (U 32):=rfl
 rw[hn]
 unfold bH dJ bN bL
 rw[List.map_append,List.map_take,List.map_map,List.take_zero,List.nil_append,hs]
 have e:((s.data.toList.map fun b=>AV.int .u8 (b.toNat:Int)).take (min s.data.toList.length 40))=(s.data.toList.map ((fun n:Nat=>AV.int .u8 (n:Int))∘UInt8.toNat)).take 40:=by
  by_cases h:s.data.toList.length≤40
  ·rw[Nat.min_eq_left h,List.take_of_length_le (by simp),List.take_of_length_le (by simpa using h)];rfl
  ·rw[Nat.min_eq_right (by omega)];rfl
 rw[e]
 congr 1
 simp only[Nat.zero_add,List.length_take,List.length_map,List.drop_replicate,List.map_replicate]
 congr 1
 omega
theorem cpR (s:ByteArray):aBD 1 [some (XB.blk true (ABlk.cells true (bL (nf 0)))),some (XB.blk true (ABlk.cells true (bL (nf 40))))] (AV.sl 1 0 1 40) (AV.str s)=some (.int .i64 ((min s.size 40:Nat):Int),[some (XB.blk true (ABlk.cells true (bL (nf 0)))),some (XB.blk true (ABlk.cells true (bL (dJ (bN s)))))]):=by
 have hc:=aWV s
 have l40:(bL (nf 40)).length=40:=by rw[aL];exact cZ (by omega)
 unfold aBD xF
 simp only[eF,aJ,List.getD_cons_succ,List.getD_cons_zero,if_true,l40]
 simp only[true_and,Nat.zero_add,Nat.mul_one,Nat.le_refl,if_true,Option.map_some,List.set_cons_succ,List.set_cons_zero,gZ,Bool.and_true]
 rw[hc]
theorem aSn {i:Nat} (h:i<40):(i+1≤40)=True:=eq_true (by omega)
theorem w44 (s:ByteArray):runW aB 44 [.str s] []=some (qD (dJ (bN s)),[]):=by
 rw[q44 (by simp)];unfold x44;dsimp only
 have e0:((40:Int)<40)=False:=eq_false (by omega)
 have l40:(bL (nf 40)).length=40:=by rw[aL];exact cZ (by omega)
 have l0:(bL (nf 0)).length=40:=by rw[aL];exact cZ (by omega)
 have g0:=bF (nf 0)
 rw[bE]
 sym =>
  simp[Zb,Zf,Zh,Zl,Zv,Zw,XM,WN,US,UV,UW,Ta,Tb,Th,T2,T3,T8,T9,Su,Sy,Sz,S9,e0]
  tactic =>
   unfold aMJ
   rw[cO 40 (fun i=>[.str s,.pt 0 0,.pt 1 0,I (i:Nat)]) (fun i=>[some (.blk true (.cells true (bL (nf 0)))),some (.blk true (.cells true (bL (nf i))))])]
   ·have c2:=gU (bN s)
    have c4:=aL (dJ (bN s))
    rw[c2]at c4
    have c5:=fC c2
    have c6:=iA c2
    have c7:=bF (dJ (bN s))
    have c3:=cpR s
    have c8:=gO (a:=nf 0) (b:=dJ (bN s)) (by rw[c2];exact cZ (by omega))
    (exact aMz e0 l40 l0 c3 c4 c5 c6 c7 c8 g0 cG bY bX cH)
   ·(exact RS0)
   ·intro i hi
    have i1:((i:Int)<40)=True:=eq_true (by omega)
    have a2:=oZ (n:=40) hi (by omega)
    have n1:(bL (nf i)).length=40:=by rw[aL];exact cZ (by omega)
    have n2:=aOA hi
    have n3:=aSn hi
    (exact RS5 i1 a2 n1 n2 n3)
   ·(exact wN e0)
def tmZ (a b:Int):Int:=Int.tmod a b
def tdZ (a b:Int):Int:=Int.tdiv a b
def aIS (z:Bool) (k:IntKind) (v:Int):Option AV:=if z then none else some (.int k v)
theorem oO (k:IntKind) (v:Int):aIS false k v=some (.int k v):=rfl
theorem iC {k:IntKind} {a b:Int}:gW .rem k a k b=aIS (decide (b=0)) k (tmZ a b):=by
 by_cases h:b=0<;>simp[gW,aIS,h,tmZ]
theorem iD {k:IntKind} {a b:Int}:gW .quo k a k b=aIS (decide (b=0)) k (k.wrap (tdZ a b)):=by
 by_cases h:b=0<;>simp[gW,aIS,h,tdZ]
theorem aBH (a b:Nat):tmZ (a:Int) (b:Int)=((a%b:Nat):Int):=by rw[tmZ,Int.tmod_eq_emod_of_nonneg (by omega)];exact(Int.natCast_emod a b).symm

theorem aCu (x:Nat):hZ x<256:=Nat.mod_lt _ (by decide)
theorem aKt {x:Nat} (h:x<256):IntKind.u8.wrap ((x:Int)-32)=(hZ x:Int):=by
 unfold hZ
 simp[IntKind.wrap,IntKind.bits,IntKind.signed]
 omega
theorem aBw (x:Nat):∀ (l:List Nat) (k:Nat),wM k (l++[x])=wM k l+(k+l.length+1)*hZ x
 | [],k=>by simp[wM]
 | a::l,k=>by
   rw[List.cons_append,wM,aBw x l (k+1),wM,List.length_cons]
   rw[show k+1+l.length+1=k+(l.length+1)+1 by omega]
   omega
theorem aGv:∀ (l:List Nat) (k:Nat),wM k l≤l.length*((k+l.length)*255)
 | [],k=>by simp[wM]
 | a::l,k=>by
   have h1:=aGv l (k+1)
   have h2:=aCu a
   rw[wM,List.length_cons]
   have h3:(k+1)*hZ a≤(k+(l.length+1))*255:=Nat.mul_le_mul (by omega) (by omega)
   have h4:k+1+l.length=k+(l.length+1):=by omega
   rw[h4]at h1
   rw[Nat.add_mul l.length 1]
   omega
def sM (row:Nat) (f:List Nat) (i:Nat):Nat:=row+wM 0 (f.take i)
theorem aTK (row:Nat) (f:List Nat):sM row f 0=row:=by simp[sM,wM]
theorem aTJ {row:Nat} {f:List Nat} {i x:Nat} (h:f[i]?=some x):sM row f (i+1)=sM row f i+(i+1)*hZ x:=by
 have hi:i<f.length:=(List.getElem?_eq_some_iff.1 h).1
 have ht:f.take (i+1)=f.take i++[x]:=by rw[List.take_add_one,h];rfl
 unfold sM
 rw[ht,aBw,List.length_take,Nat.min_eq_left (by omega)]
 rw[show 0+i+1=i+1 by omega,Nat.add_assoc]
theorem aPl {row:Nat} {f:List Nat} (hf:f.length=40) (i:Nat):sM row f i≤row+408000:=by
 have h:=aGv (f.take i) 0
 have h1:(f.take i).length≤40:=by rw[List.length_take];omega
 have h2:(f.take i).length*((0+(f.take i).length)*255)≤40*(40*255):=Nat.mul_le_mul h1 (Nat.mul_le_mul (by omega) (Nat.le_refl _))
 unfold sM
 omega
theorem aPm {row:Nat} {f:List Nat} (hf:f.length=40):sM row f 40%9973=zX row f:=by
 unfold sM zX
 rw[List.take_of_length_le (by omega)]

theorem aMt (l1 l2:List UInt8):(⟨⟨l1⟩⟩:ByteArray)++⟨⟨l2⟩⟩=⟨⟨l1++l2⟩⟩:=by
 have h:((⟨⟨l1⟩⟩:ByteArray)++⟨⟨l2⟩⟩).data=(⟨⟨l1++l2⟩⟩:ByteArray).data:=by
  rw[ByteArray.data_append]
  simp
 cases hx:(⟨⟨l1⟩⟩:ByteArray)++⟨⟨l2⟩⟩with
 | mk d=>rw[hx]at h;simp only at h;rw[h]
theorem sV {a b:ByteArray} (h:a.size+b.size≤1000000):eZ BinOp.add a b=some (.str (a++b)):=by
 have e:IntKind.i64.max=9223372036854775807:=by decide
 simp only[eZ]
 rw[if_neg (by rw[e];omega)]
theorem aAJ (l:List UInt8):(⟨⟨l⟩⟩:ByteArray).size=l.length:=rfl
def aFf (c:Nat):ByteArray:=nBy (rH c)
theorem aMn {c:Nat} (h:c<9973):1≤(Lib.itoa (c:Int)).length∧(Lib.itoa (c:Int)).length≤4∧Lib.repeatL [48] (4-(Lib.itoa (c:Int)).length)++Lib.itoa (c:Int)=(rH c).map UInt8.ofNat:=by
 have e:Lib.itoa (c:Int)=Lib.decDigits c:=by
  unfold Lib.itoa
  rw[if_neg (by omega)];rfl
 rw[e]
 by_cases h1:c<10
 ·rw[Lib.decDigits_one h1]
  refine⟨by simp,by simp,?_⟩
  have:rH c=[48,48,48,48+c]:=by simp[rH];omega
  rw[this];rfl
 ·by_cases h2:c<100
  ·rw[Lib.decDigits_two h1 h2]
   refine⟨by simp,by simp,?_⟩
   have:rH c=[48,48,48+c/10,48+c%10]:=by simp[rH];omega
   rw[this];rfl
  ·have s3:∀ {m:Nat},¬m<10→Lib.decDigits m=Lib.decDigits (m/10)++[UInt8.ofNat (48+m%10)]:=fun {m} hm=>by
    conv=>lhs;rw[Lib.decDigits,dif_neg hm]
   by_cases h3:c<1000
   ·rw[s3 h1,Lib.decDigits_two (by omega) (by omega)]
    refine⟨by simp,by simp,?_⟩
    have:rH c=[48,48+c/10/10,48+c/10%10,48+c%10]:=by simp[rH];omega
    rw[this];rfl
   ·rw[s3 h1,s3 (by omega),Lib.decDigits_two (by omega) (by omega)]
    refine⟨by simp,by simp,?_⟩
    have:rH c=[48+c/10/10/10,48+c/10/10%10,48+c/10%10,48+c%10]:=by simp[rH];omega
    rw[this];rfl

theorem w57 {c:Nat} (h:c<9973):runW aB 57 [I (c:Int)] []=some (.str ⟨⟨Lib.itoa (c:Int)⟩⟩,[]):=by
 rw[p57];unfold uS;dsimp only;rw[if_pos (by omega)]
theorem aTX {d:Nat} (h:d≤4):runW aB 143 [.str ⟨#[48]⟩,I (d:Int)] []=some (.str ⟨⟨Lib.repeatL [48] d⟩⟩,[]):=by
 rw[aVG];unfold pL;dsimp only
 rw[if_pos (by refine⟨by omega,by omega,by decide⟩)]
 simp

theorem aTZ {f:List Nat} {row:Nat} (hf:f.length=40) (hb:∀ (i x:Nat),f[i]?=some x→x<256) (hrow:row≤1000000):runW aB 119 [qD f,I (row:Int)] []=some (.str (aFf (zX row f)),[]):=by
 rw[aVE (by simp)];unfold x119;dsimp only
 have e0:((40:Int)<40)=False:=eq_false (by omega)
 have lf:=aL f
 rw[hf]at lf
 have gf:=bF f
 rw[bE]
 have t1:=fC hf
 have t2:=iA hf
 sym =>
  simp[iC,iD,oO,Za,Zb,Zf,Zh,Zl,Zm,Zo,Zv,Zz,ZU,XW,WL,WO,Ve,Vm,Vn,Vo,Vu,UJ,US,UW,Tb,T8,T9,TJ,TK,TY,TZ,Sd,Sk,Su,Sy,Sz,S8,S9,e0,lf,gf,t1,t2,cG,bY,bX,cH]
  tactic =>
   unfold aHP
   rw[cO 40 (fun i=>[I (sM row f i:Nat),.agg (bL f),I (i:Nat)]) (fun _=>[])]
   ·have hc:zX row f<9973:=Nat.mod_lt _ (by decide)
    have c1:tmZ ((sM row f 40:Nat):Int) 9973=((zX row f:Nat):Int):=by rw[←aPm hf];exact aBH _ _
    have c2:=w57 hc
    obtain⟨d1,d2,d3⟩:=aMn hc
    have c3:=aTX (d:=4-(Lib.itoa ((zX row f:Nat):Int)).length) (by omega)
    have c4:aFf (zX row f)=(⟨⟨Lib.repeatL [48] (4-(Lib.itoa ((zX row f:Nat):Int)).length)⟩⟩:ByteArray)++⟨⟨Lib.itoa ((zX row f:Nat):Int)⟩⟩:=by
     rw[aMt,d3];rfl
    rw[c4]
    have c5:(⟨⟨Lib.itoa ((zX row f:Nat):Int)⟩⟩:ByteArray).size=(Lib.itoa ((zX row f:Nat):Int)).length:=rfl
    have c6:IntKind.i64.wrap (4-((Lib.itoa ((zX row f:Nat):Int)).length:Int))=((4-(Lib.itoa ((zX row f:Nat):Int)).length:Nat):Int):=by rw[bB (by omega) (by omega)];omega
    have c7:=sV (a:=⟨⟨Lib.repeatL [48] (4-(Lib.itoa ((zX row f:Nat):Int)).length)⟩⟩) (b:=⟨⟨Lib.itoa ((zX row f:Nat):Int)⟩⟩) (by
     rw[aAJ,aAJ,Lib.repeatL_length]
     simp only[List.length_cons,List.length_nil,Nat.zero_add,Nat.mul_one]
     omega)
    generalize Lib.itoa ((zX row f:Nat):Int)=ss at *
    generalize hz:(⟨⟨ss⟩⟩:ByteArray)=a at *
    generalize hd:4-ss.length=d at *
    generalize hy:(⟨⟨Lib.repeatL [48] d⟩⟩:ByteArray)=z at *
    (sym=>(simp[iC,iD,oO,Za,Zb,Zf,Zh,Zl,Zm,Zv,ZA,ZR,Yc,Yf,Yk,Yl,Yv,Y5,YA,Xo,Xq,We,Wg,Wv,WN,Vt,V6,VA,VB,VC,VE,VF,VH,VI,VU,VV,VW,Ug,Uv,Uw,Uy,Uz,U0,UA,UB,UE,UF,UG,UH,UK,UN,UP,UT,UU,UW,UX,UZ,Tb,Tu,Tx,Ty,Tz,T0,T1,Sr,Ss,Su,Sv,Sx,Sz,S2,S6,S8,S9,R5,RH,Qm,Qn,Qo,Qp,e0,lf,c1,c2,c3,c5,c6,c7,cG,bY,bX,cH];all_goals tactic=>exact rfl))
   ·have a0:=aTK row f
    (sym=>(simp[iC,iD,oO,Za,YN,Xo,Xr,We,Wh,V6,VB,VD,VE,VF,UL,UM,UT,UU,UX,UZ,Ty,Tz,T0,T1,S7,lf,a0,cG,bY,bX,cH];all_goals tactic=>exact rfl))
   ·intro i hi
    have i1:((i:Int)<40)=True:=eq_true (by omega)
    have a2:=oZ (n:=40) hi (by omega)
    obtain⟨x,hx⟩:=qH (l:=f) (i:=i) (by omega)
    have hx':=aHU hx
    have hxb:=hb i x hx
    have b1:=aKt hxb
    have hcx:=aCu x
    have b2:IntKind.i64.wrap ((hZ x:Nat):Int)=((hZ x:Nat):Int):=bB (by omega) (by omega)
    have hm:(i+1)*hZ x≤40*255:=Nat.mul_le_mul (by omega) (by omega)
    have b3:IntKind.i64.wrap (((i:Int)+1)*((hZ x:Nat):Int))=(((i+1)*hZ x:Nat):Int):=by
     have:(((i:Int)+1)*((hZ x:Nat):Int))=(((i+1)*hZ x:Nat):Int):=by rw[Int.natCast_mul];rfl
     rw[this];exact bB (by omega) (by omega)
    have hal:=aPl (row:=row) hf i
    have b4:IntKind.i64.wrap (((sM row f i:Nat):Int)+(((i+1)*hZ x:Nat):Int))=((sM row f (i+1):Nat):Int):=by
     rw[aTJ hx,bB (by omega) (by omega)];omega
    generalize sM row f i=A at *
    generalize sM row f (i+1)=A' at *
    generalize hZ x=cx at *
    generalize (i+1)*cx=px at *
    (sym=>(simp[iC,iD,oO,Za,Zb,Zf,Zh,Zl,Zm,Zv,ZA,ZF,ZJ,Yq,Y4,Y5,Y6,YA,YF,YG,Xl,Xo,Xr,We,Wh,V6,VB,VC,VE,VF,UK,UL,UM,UN,UO,UT,UU,UX,UZ,Tq,Tt,Tx,Ty,Tz,T0,T1,Se,Sr,Su,Sw,Sy,Sz,S4,S7,S8,S9,SX,RH,i1,a2,hx',b1,b2,b3,b4,lf,cG,bY,bX,cH];all_goals tactic=>exact rfl))
   ·(sym=>(simp[iC,iD,oO,Za,Zb,Zf,Zh,Zl,Zm,ZA,YA,UK,UN,UP,UQ,Tu,Sr,Su,Sx,Sz,S2,S8,S9,RH,e0];all_goals tactic=>exact rfl))
end Go.Proofs.YtmapgnepfgnphaaGreatDoor
namespace Go.Proofs.YtmapgnepfgnphaaGreatDoor
open Go Go.DL
set_option maxRecDepth 100000
theorem rJ {q0 q1 q2 q3 q4 q5 q6 q7 q8 q9 q10 q11 q12 q13 q14 q15 q16 q17 q18 q19 q20 q21 q22 q23 q24 q25 p:Prop} (x0:q0) (x1:q1) (x2:q2) (x3:q3) (x4:q4) (x5:q5) (x6:q6) (x7:q7) (x8:q8) (x9:q9) (x10:q10) (x11:q11) (x12:q12) (sN:q13) (vK:q14) (x15:q15) (x16:q16) (x17:q17) (x18:q18) (x19:q19) (x20:q20) (x21:q21) (x22:q22) (x23:q23) (x24:q24) (x25:q25) (h:q0→q1→q2→q3→q4→q5→q6→q7→q8→q9→q10→q11→q12→q13→q14→q15→q16→q17→q18→q19→q20→q21→q22→q23→q24→q25→p:=by intro x0 x1 x2 x3 x4 x5 x6 x7 x8 x9 x10 x11 x12 sN vK x15 x16 x17 x18 x19 x20 x21 x22 x23 x24 x25; (sym=>(simp[x0,x1,x2,x3,x4,x5,x6,x7,x8,x9,x10,x11,x12,sN,vK,x15,x16,x17,x18,x19,x20,x21,x22,x23,x24,x25,iC,iD,oO,Za,Zb,Zc,Zd,Ze,Zf,Zg,Zh,Zi,Zj,Zk,Zl,Zm,Zn,Zo,Zp,Zq,Zr,Zs,Zt,Zu,Zv,Zw,Zx,Zy,Zz,Z0,Z8,Z9,ZA,ZB,ZC,ZD,ZF,ZG,ZH,ZI,ZJ,ZK,ZL,ZM,ZN,ZO,ZP,ZQ,ZR,ZS,ZT,ZU,ZV,ZW,ZX,ZY,ZZ,Ya,Yb,Yc,Yd,Ye,Yf,Yg,Yh,Yi,Yj,Yk,Yl,Ym,Yn,Yp,Yq,Yr,Ys,Yt,Yu,Yv,Yw,Yx,Yy,Yz,Y4,Y5,Y6,Y8,Y9,YA,YB,YC,YD,YF,YG,YH,YJ,YL,YM,YN,YO,YP,YQ,YR,YT,YU,YV,YX,YY,YZ,Xa,Xb,Xc,Xd,Xe,Xf,Xg,Xh,Xi,Xj,Xk,Xl,Xm,Xn,Xo,Xp,Xq,Xr,Xs,Xt,Xu,Xv,Xw,Xx,Xy,Xz,XI,XK,XL,XM,XN,XO,XW,XX,XY,XZ,Wa,Wb,Wc,We,Wf,Wg,Wh,Wi,Wj,Wk,Wl,Wm,Wn,Wo,Wp,Wq,Wr,Ws,Wt,Wu,Wv,Ww,Wx,Wy,Wz,WB,WC,WE,WF,WH,WI,WJ,WK,WL,WM,WN,WO,WP,WQ,WR,WS,WU,WV,WW,WX,Va,Vb,Vc,Vd,Ve,Vf,Vg,Vh,Vi,Vj,Vk,Vl,Vm,Vn,Vo,Vp,Vq,Vr,Vs,Vt,Vu,Vv,Vw,Vx,Vy,Vz,V0,V4,V5,V6,V7,V8,V9,VA,VB,VC,VD,VE,VF,VG,VH,VI,VJ,VK,VL,VM,VN,VO,VP,VQ,VR,VS,VT,VU,VV,VW,VX,VY,VZ,Ua,Ub,Uc,Ud,Ue,Uf,Ug,Uh,Ui,Uj,Uk,Ul,Um,Un,Uo,Uq,Ur,Us,Ut,Uu,Uv,Uw,Ux,Uy,Uz,U0,UA,UB,UC,UD,UE,UF,UG,UH,UI,UJ,UK,UL,UM,UN,UO,UP,UQ,UR,US,UT,UU,UV,UW,UX,UY,UZ,Ta,Tb,Tc,Td,Te,Tf,Tg,Th,Ti,Tj,Tl,Tm,Tn,Tp,Tq,Tr,Ts,Tt,Tu,Tv,Tw,Tx,Ty,Tz,T0,T1,T2,T3,T4,T5,T6,T7,T8,T9,TA,TB,TC,TD,TE,TF,TG,TH,TI,TJ,TK,TL,TM,TN,TO,TP,TQ,TR,TS,TT,TU,TV,TW,TX,TY,TZ,Sa,Sc,Sd,Se,Sf,Sg,Si,Sj,Sk,Sl,Sm,Sn,Sp,Sq,Sr,Ss,Su,Sv,Sw,Sx,Sy,Sz,S2,S3,S4,S5,S6,S7,S8,S9,SA,SB,SC,SD,SE,SF,SG,SI,SJ,SK,SL,SM,SN,SO,SP,SQ,SS,SU,SV,SW,SX,SY,SZ,Ra,Rb,Rc,Rd,Re,Rf,Rg,Rh,Ri,Rj,Rk,Rl,Rm,Ro,Rp,Rq,Rr,Rs,Rt,Ru,Rw,Rx,Ry,Rz,R2,R3,R4,R5,R6,R7,R8,R9,RA,RC,RF,RG,RH,RI,RJ,RK,RM,RN,RO,RP,RQ,RR,RU,RV,RW,RX,RY,RZ,Qa,Qb,Qd,Qe,Qf,Qg,Qh,Qi,Qj,Qk,Ql,Qm,Qn,Qo,Qp,Qq,Qr,Qs,Qt,Qu,Qw,Qx,Qy,Qz,Q0,QA,QB,QD,QE,QF,aGm,aCr];all_goals tactic=>exact rfl))):p:=h x0 x1 x2 x3 x4 x5 x6 x7 x8 x9 x10 x11 x12 sN vK x15 x16 x17 x18 x19 x20 x21 x22 x23 x24 x25
theorem RT0 {p:Prop} (h:p:=by exact rJ aC aC aC aC aC aC aC aC aC aC aC aC aC aC aC aC aC aC aC aC aC aC aC aC aC aC):p:=h
theorem RT1 {q0 p:Prop} (x0:q0) (h:q0→p:=by intro x0;exact rJ x0 aC aC aC aC aC aC aC aC aC aC aC aC aC aC aC aC aC aC aC aC aC aC aC aC aC):p:=h x0
theorem RT3 {q0 q1 q2 p:Prop} (x0:q0) (x1:q1) (x2:q2) (h:q0→q1→q2→p:=by intro x0 x1 x2;exact rJ x0 x1 x2 aC aC aC aC aC aC aC aC aC aC aC aC aC aC aC aC aC aC aC aC aC aC aC):p:=h x0 x1 x2
theorem RT4 {q0 q1 q2 q3 p:Prop} (x0:q0) (x1:q1) (x2:q2) (x3:q3) (h:q0→q1→q2→q3→p:=by intro x0 x1 x2 x3;exact rJ x0 x1 x2 x3 aC aC aC aC aC aC aC aC aC aC aC aC aC aC aC aC aC aC aC aC aC aC):p:=h x0 x1 x2 x3
theorem RT5 {q0 q1 q2 q3 q4 p:Prop} (x0:q0) (x1:q1) (x2:q2) (x3:q3) (x4:q4) (h:q0→q1→q2→q3→q4→p:=by intro x0 x1 x2 x3 x4;exact rJ x0 x1 x2 x3 x4 aC aC aC aC aC aC aC aC aC aC aC aC aC aC aC aC aC aC aC aC aC):p:=h x0 x1 x2 x3 x4
theorem RT6 {q0 q1 q2 q3 q4 q5 p:Prop} (x0:q0) (x1:q1) (x2:q2) (x3:q3) (x4:q4) (x5:q5) (h:q0→q1→q2→q3→q4→q5→p:=by intro x0 x1 x2 x3 x4 x5;exact rJ x0 x1 x2 x3 x4 x5 aC aC aC aC aC aC aC aC aC aC aC aC aC aC aC aC aC aC aC aC):p:=h x0 x1 x2 x3 x4 x5
theorem RT7 {q0 q1 q2 q3 q4 q5 q6 p:Prop} (x0:q0) (x1:q1) (x2:q2) (x3:q3) (x4:q4) (x5:q5) (x6:q6) (h:q0→q1→q2→q3→q4→q5→q6→p:=by intro x0 x1 x2 x3 x4 x5 x6;exact rJ x0 x1 x2 x3 x4 x5 x6 aC aC aC aC aC aC aC aC aC aC aC aC aC aC aC aC aC aC aC):p:=h x0 x1 x2 x3 x4 x5 x6
theorem RT9 {q0 q1 q2 q3 q4 q5 q6 q7 q8 p:Prop} (x0:q0) (x1:q1) (x2:q2) (x3:q3) (x4:q4) (x5:q5) (x6:q6) (x7:q7) (x8:q8) (h:q0→q1→q2→q3→q4→q5→q6→q7→q8→p:=by intro x0 x1 x2 x3 x4 x5 x6 x7 x8;exact rJ x0 x1 x2 x3 x4 x5 x6 x7 x8 aC aC aC aC aC aC aC aC aC aC aC aC aC aC aC aC aC):p:=h x0 x1 x2 x3 x4 x5 x6 x7 x8
theorem aXc {q0 q1 q2 q3 q4 q5 q6 q7 q8 q9 p:Prop} (x0:q0) (x1:q1) (x2:q2) (x3:q3) (x4:q4) (x5:q5) (x6:q6) (x7:q7) (x8:q8) (x9:q9) (h:q0→q1→q2→q3→q4→q5→q6→q7→q8→q9→p:=by intro x0 x1 x2 x3 x4 x5 x6 x7 x8 x9;exact rJ x0 x1 x2 x3 x4 x5 x6 x7 x8 x9 aC aC aC aC aC aC aC aC aC aC aC aC aC aC aC aC):p:=h x0 x1 x2 x3 x4 x5 x6 x7 x8 x9
theorem aTN {q0 q1 q2 q3 q4 q5 q6 q7 q8 q9 q10 q11 p:Prop} (x0:q0) (x1:q1) (x2:q2) (x3:q3) (x4:q4) (x5:q5) (x6:q6) (x7:q7) (x8:q8) (x9:q9) (x10:q10) (x11:q11) (h:q0→q1→q2→q3→q4→q5→q6→q7→q8→q9→q10→q11→p:=by intro x0 x1 x2 x3 x4 x5 x6 x7 x8 x9 x10 x11;exact rJ x0 x1 x2 x3 x4 x5 x6 x7 x8 x9 x10 x11 aC aC aC aC aC aC aC aC aC aC aC aC aC aC):p:=h x0 x1 x2 x3 x4 x5 x6 x7 x8 x9 x10 x11
theorem aTM {q0 q1 q2 q3 q4 q5 q6 q7 q8 q9 q10 q11 q12 q13 q14 q15 q16 p:Prop} (x0:q0) (x1:q1) (x2:q2) (x3:q3) (x4:q4) (x5:q5) (x6:q6) (x7:q7) (x8:q8) (x9:q9) (x10:q10) (x11:q11) (x12:q12) (sN:q13) (vK:q14) (x15:q15) (x16:q16) (h:q0→q1→q2→q3→q4→q5→q6→q7→q8→q9→q10→q11→q12→q13→q14→q15→q16→p:=by intro x0 x1 x2 x3 x4 x5 x6 x7 x8 x9 x10 x11 x12 sN vK x15 x16;exact rJ x0 x1 x2 x3 x4 x5 x6 x7 x8 x9 x10 x11 x12 sN vK x15 x16 aC aC aC aC aC aC aC aC aC):p:=h x0 x1 x2 x3 x4 x5 x6 x7 x8 x9 x10 x11 x12 sN vK x15 x16
theorem aXb {q0 q1 q2 q3 q4 q5 q6 q7 q8 q9 q10 q11 q12 q13 q14 q15 q16 q17 q18 q19 p:Prop} (x0:q0) (x1:q1) (x2:q2) (x3:q3) (x4:q4) (x5:q5) (x6:q6) (x7:q7) (x8:q8) (x9:q9) (x10:q10) (x11:q11) (x12:q12) (sN:q13) (vK:q14) (x15:q15) (x16:q16) (x17:q17) (x18:q18) (x19:q19) (h:q0→q1→q2→q3→q4→q5→q6→q7→q8→q9→q10→q11→q12→q13→q14→q15→q16→q17→q18→q19→p:=by intro x0 x1 x2 x3 x4 x5 x6 x7 x8 x9 x10 x11 x12 sN vK x15 x16 x17 x18 x19;exact rJ x0 x1 x2 x3 x4 x5 x6 x7 x8 x9 x10 x11 x12 sN vK x15 x16 x17 x18 x19 aC aC aC aC aC aC):p:=h x0 x1 x2 x3 x4 x5 x6 x7 x8 x9 x10 x11 x12 sN vK x15 x16 x17 x18 x19
end Go.Proofs.YtmapgnepfgnphaaGreatDoor
namespace Go.Proofs.YtmapgnepfgnphaaGreatDoor
open Go Go.DL
set_option maxRecDepth 100000
set_option maxHeartbeats 4000000
theorem q77 {vs:List AV} {h:XH} (hl:vs.length≤12):runW aB 77 vs h=fV none x77.res x77.ownR h.length (execW aB 77 h.length none x77.body (aM (if x77.ownA then vs else jJ vs)) h):=eK rfl hl h rfl
theorem q45 {vs:List AV} {h:XH} (hl:vs.length≤31):runW aB 45 vs h=fV none x45.res x45.ownR h.length (execW aB 45 h.length none x45.body (aM (if x45.ownA then vs else jJ vs)) h):=eK rfl hl h rfl
def xC (f:List Nat):Prop:=∀ (i x:Nat),f[i]?=some x→x<256
theorem aAf:∀ {f:List Nat},hP (bL f)=some (f.map UInt8.ofNat)
 | []=>rfl
 | x::f=>by
   have ih:=aAf (f:=f)
   show (hP (bL f)).map _=_
   rw[ih];rfl

theorem aKw {run:bZ} {g:Nat} {vs:List AV} {v:AV} {hl h:XH} (hn:nP vs=[]) (hr:∀ s,lI s vs=vs) (hrun:run g vs []=some (v,hl)) (hg:gdA v=true):lE run (.fn (.func g) [] []) vs h=some v:=by
 unfold lE
 dsimp only
 have hp:dT ([]++vs++[]) h=[]:=by
  unfold dT
  rw[List.nil_append,List.append_nil,hn]
  rfl
 rw[hp,List.nil_append,List.append_nil,hr]
 show (match run g vs []with|some (v,hl)=>if gdA v&&aBm [] hl then some v else none|none=>none)=some v
 rw[hrun]
 dsimp only
 rw[hg]
 cases hl<;>rfl
theorem w77 {f:List Nat} {row:Nat} (hf:f.length=40) (hb:xC f) (hrow:row≤1000000):runW aB 77 [qD f,I (row:Int)] []=some (.str (nBy (lG row f)),[]):=by
 rw[q77 (by simp)];unfold x77;dsimp only
 have lf:=aL f
 rw[hf]at lf
 have gf:=bF f
 have c1:=aTZ hf hb hrow
 rw[bE]at c1 ⊢
 have t1:=fC hf
 have t2:=iA hf
 have bu:=aAf (f:=f)
 have cq:=aKw (run:=runW aB) (h:=[some (XB.blk true (ABlk.cells true (bL f)))]) (by show kU (.agg (bL f))++_=[];simp only[kU,bY];rfl) (fun s=>by show rnA s (.agg (bL f))::_=_;simp only[rnA,bX];rfl) c1 rfl
 have hd:(aFf (zX row f)).size=4:=rfl
 have s1:=sV (a:=aFf (zX row f)) (b:=⟨⟨f.map UInt8.ofNat⟩⟩) (by rw[hd,aAJ,List.length_map];omega)
 have s2:=sV (a:=aFf (zX row f)++⟨⟨f.map UInt8.ofNat⟩⟩) (b:=⟨#[10]⟩) (by rw[ByteArray.size_append,hd,aAJ,List.length_map];simp[ByteArray.size];omega)
 have s3:nBy (lG row f)=(aFf (zX row f)++⟨⟨f.map UInt8.ofNat⟩⟩)++⟨#[10]⟩:=by
  unfold aFf nBy lG
  rw[aMt,aMt]
  simp
 rw[s3]
 (exact aTN lf gf t1 t2 cq bu s1 s2 cG bY bX cH)

def pv (t x y:Nat):Nat:=32+(hZ x+t*hZ y)%95
theorem yP {t x y:Nat}:∀ {l m:List Nat},l.length=m.length→dA t (l++[x]) (m++[y])=dA t l m++[pv t x y]
 | [],[],_=>rfl
 | [],_::_,h=>by simp at h
 | _::_,[],h=>by simp at h
 | a::l,b::m,h=>by
   simp only[List.cons_append,dA]
   rw[yP (by simpa using h)]
theorem mP {t:Nat}:∀ {l m:List Nat},l.length=m.length→(dA t l m).length=l.length
 | [],[],_=>rfl
 | [],_::_,h=>by simp at h
 | _::_,[],h=>by simp at h
 | a::l,b::m,h=>by simp only[dA,List.length_cons,mP (l:=l) (m:=m) (by simpa using h)]
theorem aRZ (t x y:Nat):pv t x y<127:=by
 have:=Nat.mod_lt (hZ x+t*hZ y) (show 0<95 by decide)
 unfold pv;omega
theorem qN {t:Nat}:∀ {l m:List Nat},xC (dA t l m)
 | [],m=>by intro i x h;simp[dA]at h
 | a::l,[]=>by intro i x h;simp[dA]at h
 | a::l,b::m=>by
   intro i x h
   simp only[dA]at h
   cases i with
   | zero=>simp at h;subst h;exact Nat.lt_of_lt_of_le (aRZ t a b) (by decide)
   | succ i=>exact qN (l:=l) (m:=m) i x (by simpa using h)
def plS (t:Nat) (f o:List Nat) (i:Nat):List Nat:=dA t (f.take i) (o.take i)++f.drop i
section
variable {t:Nat} {f o:List Nat}
theorem aVF:plS t f o 0=f:=by simp[plS,dA]
theorem aSg (hf:f.length=40) (ho:o.length=40):plS t f o 40=dA t f o:=by
 unfold plS
 rw[List.take_of_length_le (by omega),List.take_of_length_le (by omega),List.drop_eq_nil_of_le (by omega),List.append_nil]
theorem yQ (hf:f.length=40) (ho:o.length=40) {i:Nat} (hi:i≤40):(dA t (f.take i) (o.take i)).length=i:=by
 rw[mP (by simp[hf,ho])];simp;omega
theorem aEI (hf:f.length=40) (ho:o.length=40) {i:Nat} (hi:i≤40):(plS t f o i).length=40:=by
 unfold plS
 rw[List.length_append,yQ hf ho hi,List.length_drop];omega
theorem aSf (hf:f.length=40) (ho:o.length=40) {i x:Nat} (hi:i<40) (hx:f[i]?=some x):(plS t f o i)[i]?=some x:=by
 unfold plS
 rw[List.getElem?_append_right (by rw[yQ hf ho (by omega)];exact Nat.le_refl _),yQ hf ho (by omega),Nat.sub_self,List.getElem?_drop]
 exact hx
theorem aOp (hf:f.length=40) (ho:o.length=40) {i x y:Nat} (hi:i<40) (hx:f[i]?=some x) (hy:o[i]?=some y):bH (bL (plS t f o i)) i [.int .u8 ((pv t x y:Nat):Int)]=bL (plS t f o (i+1)):=by
 rw[aHT (by rw[aEI hf ho (by omega)];exact hi)]
 congr 1
 unfold plS
 have h1:f.take (i+1)=f.take i++[x]:=by rw[List.take_add_one,hx];rfl
 have h2:o.take (i+1)=o.take i++[y]:=by rw[List.take_add_one,hy];rfl
 have h3:f.drop i=x::f.drop (i+1):=by
  obtain⟨k1,k2⟩:=List.getElem?_eq_some_iff.1 hx
  rw[←k2]
  exact List.drop_eq_getElem_cons k1
 rw[h1,h2,yP (by simp[hf,ho]),h3,List.set_append_right _ _ (by rw[yQ hf ho (by omega)];exact Nat.le_refl _),yQ hf ho (by omega),Nat.sub_self]
 simp
end

theorem w45 {f o:List Nat} {t:Nat} (hf:f.length=40) (ho:o.length=40) (bf:xC f) (bo:xC o) (ht:t≤94):runW aB 45 [qD f,qD o,I (t:Int)] []=some (qD (dA t f o),[]):=by
 rw[q45 (by simp)];unfold x45;dsimp only
 have e0:((40:Int)<40)=False:=eq_false (by omega)
 have lf:=aL f
 rw[hf]at lf
 have lo:=aL o
 rw[ho]at lo
 have gf:=bF f
 have go:=bF o
 have l0:(bL (nf 0)).length=40:=by rw[aL];exact cZ (by omega)
 have g0:=bF (nf 0)
 rw[bE,bE,bE]
 sym =>
  simp[iC,iD,oO,Za,Zb,Zf,Zh,Zl,Zo,Zv,Zw,Zz,XM,XW,WL,WO,Ve,Vu,UJ,US,UV,UW,Ta,Tb,Th,T2,T3,T8,T9,TJ,TK,Sk,Su,Sy,Sz,S8,S9,e0,lf,lo,gf,go,cG,bY,bX,cH]
  tactic =>
   unfold aMI
   rw[cO 40 (fun i=>[I (t:Int),.pt 0 0,.pt 1 0,.pt 2 0,I (i:Nat)]) (fun i=>[some (.blk true (.cells true (bL (plS t f o i)))),some (.blk true (.cells true (bL o))),some (.blk true (.cells true (bL (nf 0))))])]
   ·have hp:=aSg (t:=t) hf ho
    have hpl:=aEI (t:=t) hf ho (i:=40) (by omega)
    rw[hp]at hpl
    have c4:=aL (dA t f o)
    rw[hpl]at c4
    have c5:=fC hpl
    have c6:=iA hpl
    have c7:=bF (dA t f o)
    have c8:=gO (a:=nf 0) (b:=dA t f o) (by rw[hpl];exact cZ (by omega))
    (exact aTM e0 hp lo l0 c4 c5 c6 c7 c8 go g0 cG bY bX cH aC aC)
   ·have h0:=aVF (t:=t) (f:=f) (o:=o)
    (exact RT9 h0 lf lo gf go cG bY bX cH)
   ·intro i hi
    have i1:((i:Int)<40)=True:=eq_true (by omega)
    have a2:=oZ (n:=40) hi (by omega)
    obtain⟨x,hx⟩:=qH (l:=f) (i:=i) (by omega)
    obtain⟨y,hy⟩:=qH (l:=o) (i:=i) (by omega)
    have hx':=aHU (aSf (t:=t) hf ho hi hx)
    have hy':=aHU hy
    have b1:=aKt (bf i x hx)
    have b2:=aKt (bo i y hy)
    have hcx:=aCu x
    have hcy:=aCu y
    have b3:IntKind.i64.wrap ((hZ x:Nat):Int)=((hZ x:Nat):Int):=bB (by omega) (by omega)
    have b4:IntKind.i64.wrap ((hZ y:Nat):Int)=((hZ y:Nat):Int):=bB (by omega) (by omega)
    have hm:t*hZ y≤94*255:=Nat.mul_le_mul ht (by omega)
    have b5:IntKind.i64.wrap ((t:Int)*((hZ y:Nat):Int))=((t*hZ y:Nat):Int):=by
     have:((t:Int)*((hZ y:Nat):Int))=((t*hZ y:Nat):Int):=by rw[Int.natCast_mul]
     rw[this];exact bB (by omega) (by omega)
    have b6:IntKind.i64.wrap (((hZ x:Nat):Int)+((t*hZ y:Nat):Int))=((hZ x+t*hZ y:Nat):Int):=by
     rw[bB (by omega) (by omega)];omega
    have b7:tmZ ((hZ x+t*hZ y:Nat):Int) 95=(((hZ x+t*hZ y)%95:Nat):Int):=aBH _ _
    have hr:=Nat.mod_lt (hZ x+t*hZ y) (show 0<95 by decide)
    have b8:IntKind.u8.wrap (((hZ x+t*hZ y)%95:Nat):Int)=(((hZ x+t*hZ y)%95:Nat):Int):=by
     simp[IntKind.wrap,IntKind.bits,IntKind.signed];omega
    have b9:IntKind.u8.wrap (32+(((hZ x+t*hZ y)%95:Nat):Int))=((pv t x y:Nat):Int):=by
     unfold pv
     simp[IntKind.wrap,IntKind.bits,IntKind.signed];omega
    have ns:=aOp (t:=t) hf ho hi hx hy
    have n1:=aL (plS t f o i)
    rw[aEI hf ho (by omega)]at n1
    have n3:=aSn hi
    generalize pv t x y=P at *
    generalize (hZ x+t*hZ y)%95=R at *
    generalize hZ x+t*hZ y=S at *
    generalize t*hZ y=T at *
    generalize hZ x=cx at *
    generalize hZ y=cy at *
    (exact rJ i1 a2 hx' hy' b1 b2 b3 b4 b5 b6 b7 b8 b9 ns n1 n3 lo l0 go g0 cG bY bX cH aC aC)
   ·(exact RT1 e0)
theorem q46 {vs:List AV} {h:XH} (hl:vs.length≤6):runW aB 46 vs h=fV none x46.res x46.ownR h.length (execW aB 46 h.length none x46.body (aM (if x46.ownA then vs else jJ vs)) h):=eK rfl hl h rfl
theorem q36 {vs:List AV} {h:XH} (hl:vs.length≤5):runW aB 36 vs h=fV none x36.res x36.ownR h.length (execW aB 36 h.length none x36.body (aM (if x36.ownA then vs else jJ vs)) h):=eK rfl hl h rfl
theorem q42 {vs:List AV} {h:XH} (hl:vs.length≤23):runW aB 42 vs h=fV none x42.res x42.ownR h.length (execW aB 42 h.length none x42.body (aM (if x42.ownA then vs else jJ vs)) h):=eK rfl hl h rfl
theorem p74 {xs:List AV} {h:XH}:runW aB 74 xs h=aFU xs h:=cI rfl rfl xs h
theorem p80 {xs:List AV} {h:XH}:runW aB 80 xs h=yN xs h:=cI rfl rfl xs h
def lnB (f:List Nat):ByteArray:=⟨⟨Lib.trimRightB (f.map UInt8.ofNat) 32⟩⟩
theorem w46 {f:List Nat} (hf:f.length=40):runW aB 46 [qD f] []=some (.str (lnB f),[]):=by
 rw[q46 (by simp)];unfold x46;dsimp only
 have lf:=aL f
 rw[hf]at lf
 have gf:=bF f
 have bu:=aAf (f:=f)
 have t1:=fC hf
 have t2:=iA hf
 have c1:runW aB 80 [.str ⟨⟨f.map UInt8.ofNat⟩⟩,.str ⟨⟨[32]⟩⟩] []=some (.str (lnB f),[]):=by
  rw[p80];unfold yN;dsimp only
  rw[if_pos ⟨by decide,by rw[aAJ,List.length_map];omega⟩]
  rfl
 rw[bE]
 (exact aHI lf gf t1 t2 bu c1 cG bY bX cH)
theorem w36 (s:ByteArray):runW aB 36 [.str s] []=some (.bool (oN s.data.toList),[]):=by
 rw[q36 (by simp)];unfold x36;dsimp only
 have c1:runW aB 74 [.str s,.fn (.func 75) [] []] []=some (.bool (oN s.data.toList),[]):=by rw[p74];rfl
 (exact wN c1)

def txB (s:ByteArray):ByteArray:=lA s 4 44
def rdF (s:ByteArray):List Nat:=dJ (bN (txB s))
def aBp (s:ByteArray) (n:Nat):Bool := !oN (txB s).data.toList&&((nBy (lG n (rdF s))).toList==s.toList)
theorem aCx (s:ByteArray):xC (bN s):=by
 intro i x h
 unfold bN at h
 rw[List.getElem?_map,Option.map_eq_some_iff]at h
 obtain⟨b,_,rfl⟩:=h
 exact b.toNat_lt
theorem mU {l:List Nat} (h:xC l):xC (dJ l):=by
 intro i x hx
 unfold dJ at hx
 rw[List.getElem?_append]at hx
 split at hx
 ·rw[List.getElem?_take]at hx
  split at hx
  ·exact h i x hx
  ·cases hx
 ·rw[List.getElem?_replicate]at hx
  split at hx
  ·simp only[oSI]at hx;omega
  ·cases hx
theorem aIe (a b:ByteArray):eZ BinOp.eql a b=some (.bool (a.toList==b.toList)):=rfl
theorem w42 {s:ByteArray} {n:Nat} (hs:s.size=45) (hn:n≤1000000):runW aB 42 [.str s,I (n:Int)] []=some (.tup [qD (rdF s),.bool (aBp s n)],[]):=by
 rw[q42 (by simp)];unfold x42;dsimp only
 have hs':((45:Int)=45)=True:=eq_true rfl
 have l1:=gU (bN (txB s))
 have b1:=mU (aCx (txB s))
 have c1:=w44 (txB s)
 have c2:=w36 (txB s)
 have c3:=w77 (row:=n) l1 b1 hn
 have hx:lA s 4 44=txB s:=rfl
 have n44:Int.toNat 44=44:=rfl
 have n4:Int.toNat 4=4:=rfl
 have n45:((4:Int)≤((44:Nat):Int))=True:=eq_true (by omega)
 rw[bE]at c1 c3 ⊢
 have lf:=aL (dJ (bN (txB s)))
 rw[l1]at lf
 have t1:=fC l1
 have t2:=iA l1
 have gf:=bF (dJ (bN (txB s)))
 have l0:(bL (nf 0)).length=40:=by rw[aL];exact cZ (by omega)
 have g0:=bF (nf 0)
 have a1:=gO (a:=nf 0) (b:=dJ (bN (txB s))) (by rw[l1];exact cZ (by omega))
 have e1:=aIe (nBy (lG n (dJ (bN (txB s))))) s
 unfold aBp rdF
 cases hu:oN (txB s).data.toList with
 | true =>
   rw[hu]at c2
   (exact aAk hs hx n44 n4 n45 c1 c2 lf t1 t2 gf l0 g0 a1 cG bY bX cH aC aC)
 | false =>
   rw[hu]at c2
   (exact aAk hs hx n44 n4 n45 c1 c2 c3 e1 lf t1 t2 gf l0 g0 a1 cG bY bX cH)
theorem q43 {vs:List AV} {h:XH} (hl:vs.length≤18):runW aB 43 vs h=fV none x43.res x43.ownR h.length (execW aB 43 h.length none x43.body (aM (if x43.ownA then vs else jJ vs)) h):=eK rfl hl h rfl
def eU (C:List Nat) (k:Nat):List Nat:=(C.drop (k*40)).take 40
def dL (C:List Nat):Nat→List Nat
 | 0=>dJ []
 | k+1=>dA 1 (dL C k) (eU C k)
theorem qW {C:List Nat} {n k:Nat} (h:n*40≤C.length) (hk:k<n):(eU C k).length=40:=by
 have h1:(k+1)*40≤n*40:=Nat.mul_le_mul_right _ hk
 have h2:(k+1)*40=k*40+40:=by omega
 simp[eU];omega
theorem wZ {C:List Nat} (h:xC C) (k:Nat):xC (eU C k):=by
 intro i x hx
 unfold eU at hx
 rw[List.getElem?_take]at hx
 split at hx
 ·rw[List.getElem?_drop]at hx;exact h _ _ hx
 ·cases hx
theorem eV {C:List Nat} {n:Nat} (h:n*40≤C.length):∀ k,k≤n→(dL C k).length=40
 | 0,_=>gU []
 | k+1,hk=>by
   have h1:=eV h k (by omega)
   rw[dL,mP (by rw[h1,qW h (by omega)])]
   exact h1
theorem qJ {C:List Nat}:∀ k,xC (dL C k)
 | 0=>mU (fun i x h=>by simp at h)
 | k+1=>qN
theorem aBs {C:List Nat} {k:Nat}:((bL C).drop (k*40)).take 40=bL (eU C k):=by
 simp[bL,eU,List.map_take,List.map_drop]

def aHK:XCode:=(.loop [2,3,7,8,9] (.seq (.reg [] false [⟨0,(some 10),(.bin .lss (.t 9) (.t 8)),none⟩]) (.seq (.cond (.t 10) .skip (.exit 0)) (.seq (.block 1 (.seq (.reg [] false [⟨0,(some 11),(.idx 40 (.t 7) (.t 9)),none⟩,⟨0,(some 12),(.load true 40 (.t 11)),none⟩,⟨0,(some 5),(.alloc (bL (nf 0))),none⟩,⟨0,none,(.store 40 (.t 5) (.t 12) []),none⟩]) (.reg [] false [⟨0,(some 13),(.load true 40 (.t 3)),none⟩,⟨0,(some 14),(.load true 40 (.t 5)),none⟩,⟨0,(some 15),(.callf false (.c (.fn (.func 45) [] [])) [(.t 13),(.t 14),(.c (.int .i64 1))] []),none⟩,⟨0,none,(.store 40 (.t 3) (.t 15) []),none⟩]))) (.reg [] false [⟨0,(some 16),(.bin .add (.t 9) (.c (.int .i64 1))),none⟩,⟨0,(some 9),(.mv (.t 16)),none⟩])))))
theorem aHL:aMK=aHK:=rfl
theorem w43 {C:List Nat} {n:Nat} (hC:n*40≤C.length) (hb:xC C) (hn:n≤1000):runW aB 43 [.sl 0 0 40 n] [some (.blk true (.cells true (bL C)))]=some (qD (dL C n),[some (.blk true (.cells true (bL C)))]):=by
 rw[q43 (by simp)];unfold x43;dsimp only
 have c1:=w44 ⟨⟨[]⟩⟩
 have hnf:dJ (bN ⟨⟨[]⟩⟩)=dJ []:=rfl
 rw[hnf]at c1
 rw[bE]at c1 ⊢
 have l0:(bL (nf 0)).length=40:=by rw[aL];exact cZ (by omega)
 have g0:=bF (nf 0)
 have l1:=gU []
 have lf:=aL (dJ [])
 rw[l1]at lf
 have gf:=bF (dJ [])
 have a1:=gO (a:=nf 0) (b:=dJ []) (by rw[l1];exact cZ (by omega))
 have t1:=fC l1
 have t2:=iA l1
 have gC:=bF C
 sym =>
  simp[Za,Zb,Zc,Zf,Zh,Zl,Zm,Zv,Zw,ZR,ZY,ZZ,Yc,Yf,Yk,Yl,Yt,Xq,XM,Wg,Wh,WR,Ve,Vm,Vp,Vq,Vs,Vt,Vu,V6,VA,VC,VH,VI,VU,VV,VW,UJ,US,UT,UU,UV,UW,UX,Ta,Tb,Th,Tq,Tx,Ty,Tz,T0,T1,T2,T3,T8,T9,TA,Sf,Sg,Su,Sy,Sz,S8,S9,Qm,Qn,Qo,Qp,c1,l0,g0,lf,gf,a1,t1,t2,gC,cG,bY,bX,cH]
  tactic =>
   rw[aHL]
   unfold aHK
   rw[cO n (fun i=>[.pt 1 0,.pt 2 0,.sl 0 0 40 n,I (n:Nat),I (i:Nat)]) (fun i=>[some (.blk true (.cells true (bL C))),some (.blk true (.cells true (bL (nf 0)))),some (.blk true (.cells true (bL (dL C i))))])]
   ·have e0:((n:Int)<(n:Int))=False:=eq_false (by omega)
    have l3:=eV hC n (Nat.le_refl _)
    have c4:=aL (dL C n)
    rw[l3]at c4
    have c5:=fC l3
    have c6:=iA l3
    have c7:=bF (dL C n)
    have c8:=gO (a:=nf 0) (b:=dL C n) (by rw[l3];exact cZ (by omega))
    (exact aMz e0 l0 g0 c4 c5 c6 c7 c8 gC cG bY bX cH aC)
   ·have s0:dL C 0=dJ []:=rfl
    (exact aHI s0 l0 g0 lf gf gC cG bY bX cH)
   ·intro i hi
    have i1:((i:Int)<(n:Int))=True:=eq_true (by omega)
    have a2:=oZ hi (by omega)
    have lC:=aL C
    have i3:(i*40+40≤(bL C).length)=True:=eq_true (by
     rw[lC]
     have h1:(i+1)*40≤n*40:=Nat.mul_le_mul_right _ hi
     omega)
    have fu:=aBs (C:=C) (k:=i)
    have l3:=eV hC i (by omega)
    have l4:=eV hC (i+1) (by omega)
    have l5:=qW hC hi
    have w:=w45 (t:=1) l3 l5 (qJ i) (wZ hb i) (by omega)
    have ws:dA 1 (dL C i) (eU C i)=dL C (i+1):=rfl
    rw[ws]at w
    rw[bE,bE,bE]at w
    have m3:=aL (dL C i)
    rw[l3]at m3
    have m4:=aL (dL C (i+1))
    rw[l4]at m4
    have m5:=aL (eU C i)
    rw[l5]at m5
    have c8:=gO (a:=nf 0) (b:=eU C i) (by rw[l5];exact cZ (by omega))
    have c9:=gO (a:=dL C i) (b:=dL C (i+1)) (by rw[l3,l4])
    have k3:=fC l3
    have k4:=iA l3
    have k5:=fC l5
    have k6:=iA l5
    have g3:=bF (dL C i)
    have g4:=bF (dL C (i+1))
    have g5:=bF (eU C i)
    have w':runW aB 45 [.agg (bL (dL C i)),.agg (bL (eU C i)),I 1] []=some (.agg (bL (dL C (i+1))),[]):=w
    generalize dL C (i+1)=S' at *
    generalize dL C i=S at *
    generalize eU C i=f at *
    (exact oS i1 a2 i3 fu w' m3 m4 m5 c8 c9 k3 k4 k5 k6 g3 g4 g5 gC l0 g0 cG bY bX cH aC aC)
   ·have e0:((n:Int)<(n:Int))=False:=eq_false (by omega)
    (exact wN e0)
theorem aBv {cs:List AV} {s:Nat}:∀ {n o i:Nat},i<n→(bP cs o s n)[i]?=some ((cs.drop (o+i*s)).take s)
 | 0,_,_,h=>absurd h (by omega)
 | n+1,o,0,_=>by rw[bP,List.getElem?_cons_zero,Nat.zero_mul,Nat.add_zero]
 | n+1,o,i+1,h=>by
   rw[bP,List.getElem?_cons_succ,aBv (by omega),Nat.add_mul i 1,Nat.one_mul,Nat.add_assoc,Nat.add_comm s]
theorem aTF {C:List Nat} {n:Nat} (hC:n*40≤C.length):(bP (bL C) 0 40 n).length=n∧∀ i,i<n→(bP (bL C) 0 40 n)[i]?=some (bL (eU C i)):=by
 obtain⟨h1,_,_⟩:=sG (cs:=bL C) (s:=40) (n:=n) (o:=0) (by rw[aL];omega)
 refine⟨h1,fun i hi=>?_⟩
 rw[aBv hi,Nat.zero_add,aBs]
theorem aTR {C:List Nat} {n:Nat} (hC:n*40≤C.length) (hb:xC C) (hn:n≤1000):runW aB 43 [.fs (bP (bL C) 0 40 n)] []=some (qD (dL C n),[]):=by
 rw[q43 (by simp)];unfold x43;dsimp only
 have c1:=w44 ⟨⟨[]⟩⟩
 have hnf:dJ (bN ⟨⟨[]⟩⟩)=dJ []:=rfl
 rw[hnf]at c1
 rw[bE]at c1 ⊢
 have l0:(bL (nf 0)).length=40:=by rw[aL];exact cZ (by omega)
 have g0:=bF (nf 0)
 have l1:=gU []
 have lf:=aL (dJ [])
 rw[l1]at lf
 have gf:=bF (dJ [])
 have a1:=gO (a:=nf 0) (b:=dJ []) (by rw[l1];exact cZ (by omega))
 have t1:=fC l1
 have t2:=iA l1
 obtain⟨rl,ra⟩:=aTF hC
 generalize bP (bL C) 0 40 n=R at *
 sym =>
  simp[Za,Zb,Zc,Zf,Zh,Zl,Zm,Zv,Zw,ZR,ZY,ZZ,Yc,Yf,Yk,Yl,Ys,Xq,XM,Wg,Wh,WQ,Ve,Vm,Vp,Vq,Vs,Vt,Vu,V6,VA,VC,VH,VI,VU,VV,VW,UJ,US,UT,UU,UV,UW,UX,Ta,Tb,Th,Tq,Tx,Ty,Tz,T0,T1,T2,T3,T8,T9,TA,Sf,Sg,Su,Sy,Sz,S8,S9,Qm,Qn,Qo,Qp,rl,c1,l0,g0,lf,gf,a1,t1,t2,cG,bY,bX,cH]
  tactic =>
   rw[aHL]
   unfold aHK
   rw[cO n (fun i=>[.pt 0 0,.pt 1 0,.fs R,I (n:Nat),I (i:Nat)]) (fun i=>[some (.blk true (.cells true (bL (nf 0)))),some (.blk true (.cells true (bL (dL C i))))])]
   ·have e0:((n:Int)<(n:Int))=False:=eq_false (by omega)
    have l3:=eV hC n (Nat.le_refl _)
    have c4:=aL (dL C n)
    rw[l3]at c4
    have c5:=fC l3
    have c6:=iA l3
    have c7:=bF (dL C n)
    have c8:=gO (a:=nf 0) (b:=dL C n) (by rw[l3];exact cZ (by omega))
    (exact aHH e0 l0 g0 c4 c5 c6 c7 c8 cG bY bX cH)
   ·have s0:dL C 0=dJ []:=rfl
    (exact RS9 s0 l0 g0 lf gf cG bY bX cH)
   ·intro i hi
    have i1:((i:Int)<(n:Int))=True:=eq_true (by omega)
    have a2:=oZ hi (by omega)
    have i3:(i<R.length)=True:=eq_true (by omega)
    have fu:=ra i hi
    have l3:=eV hC i (by omega)
    have l4:=eV hC (i+1) (by omega)
    have l5:=qW hC hi
    have w:=w45 (t:=1) l3 l5 (qJ i) (wZ hb i) (by omega)
    have ws:dA 1 (dL C i) (eU C i)=dL C (i+1):=rfl
    rw[ws]at w
    rw[bE,bE,bE]at w
    have m3:=aL (dL C i)
    rw[l3]at m3
    have m4:=aL (dL C (i+1))
    rw[l4]at m4
    have m5:=aL (eU C i)
    rw[l5]at m5
    have c8:=gO (a:=nf 0) (b:=eU C i) (by rw[l5];exact cZ (by omega))
    have c9:=gO (a:=dL C i) (b:=dL C (i+1)) (by rw[l3,l4])
    have k3:=fC l3
    have k4:=iA l3
    have k5:=fC l5
    have k6:=iA l5
    have g3:=bF (dL C i)
    have g4:=bF (dL C (i+1))
    have g5:=bF (eU C i)
    have w':runW aB 45 [.agg (bL (dL C i)),.agg (bL (eU C i)),I 1] []=some (.agg (bL (dL C (i+1))),[]):=w
    generalize dL C (i+1)=S' at *
    generalize dL C i=S at *
    generalize eU C i=f at *
    (exact oS i1 a2 i3 fu rl w' m3 m4 m5 c8 c9 k3 k4 k5 k6 g3 g4 g5 l0 g0 cG bY bX cH aC aC)
   ·have e0:((n:Int)<(n:Int))=False:=eq_false (by omega)
    (exact wN e0)
theorem q69 {vs:List AV} {h:XH} (hl:vs.length≤19):runW aB 69 vs h=fV none x69.res x69.ownR h.length (execW aB 69 h.length none x69.body (aM (if x69.ownA then vs else jJ vs)) h):=eK rfl hl h rfl
theorem aSi {xs:List AV} {h:XH}:runW aB 115 xs h=aCa xs h:=cI rfl rfl xs h
theorem p71 {xs:List AV} {h:XH}:runW aB 71 xs h=aDf xs h:=cI rfl rfl xs h
def dI (s:ByteArray):List AV:=s.data.toList.map fun b=>.int .u8 (b.toNat:Int)
theorem aCH (s:ByteArray):(dI s).length=s.size:=by
 unfold dI;rw[List.length_map,Array.length_toList];rfl
theorem aIc (a b:ByteArray):dI a++dI b=dI (a++b):=by
 unfold dI
 rw[←List.map_append,ByteArray.data_append,Array.toList_append]
theorem eI (s:ByteArray):jK (dI s)=true:=dW fun v hv=>by
 obtain⟨n,_,rfl⟩:=List.mem_map.1 hv;rfl
theorem aJD {α:Type} {g:α→AV} (hg:∀ a,kU (g a)=[]) (l:List α):nP (l.map g)=[]:=by
 induction l with
 | nil=>rfl
 | cons a l ih=>show kU _++nP (l.map g)=[];rw[ih,hg];rfl
theorem aJB {α:Type} {g:α→AV} (hg:∀ a,uM (g a)=[]) (l:List α):slL (l.map g)=[]:=by
 induction l with
 | nil=>rfl
 | cons a l ih=>show uM _++slL (l.map g)=[];rw[ih,hg];rfl
theorem aJC {α:Type} {g:α→AV} {s:Nat→Option Nat} (hg:∀ a,rnA s (g a)=g a) (l:List α):lI s (l.map g)=l.map g:=by
 induction l with
 | nil=>rfl
 | cons a l ih=>show rnA s _::lI s (l.map g)=_;rw[ih,hg];rfl
theorem cY (s:ByteArray):nP (dI s)=[]:=aJD (fun _=>rfl) _
theorem cW (s:ByteArray):slL (dI s)=[]:=aJB (fun _=>rfl) _
theorem cX (f:Nat→Option Nat) (s:ByteArray):lI f (dI s)=dI s:=aJC (fun _=>rfl) _
theorem aGw:∀ l:List UInt8,wI (l.map fun b=>AV.int .u8 (b.toNat:Int))=some l
 | []=>rfl
 | b::l=>by
   have ih:=aGw l
   have hb:=b.toNat_lt
   show (if 0≤(b.toNat:Int)∧(b.toNat:Int)<256 then (wI (l.map fun b=>AV.int .u8 (b.toNat:Int))).map (UInt8.ofNat (b.toNat:Int).toNat :: ·) else none)=_
   rw[if_pos (by omega),ih]
   simp

theorem aCJ (H:Hp) (s:ByteArray):eF 1 H (.str s)=some (s.size,dI s):=rfl
theorem aDF (h:XH) (s:ByteArray):gZ h (.str s)=true:=rfl
theorem aNL {s:ByteArray} (h0:0<s.size) (h1:s.size≤100000):runW aB 69 [.bp 0,.str s] [some (.blk true (.cells true [.nilpt,.nilsl]))] =
 some (.tup [I (s.size:Nat),.nilifc],[some (.blk false (.cells true [.pt 0 0,.sb 1 s.size])),some (.blk true (.cells true (dI s)))]):=by
 rw[q69 (by simp)];unfold x69;dsimp only
 have c1:runW aB 115 [.bp 0] [some (.blk true (.cells true [.nilpt,.nilsl]))]=some (.tup [],[some (.blk false (.cells true [.pt 0 0,.nilsl]))]):=by rw[aSi];rfl
 have z1:(s.size=0)=False:=eq_false (by omega)
 have z2:(s.size*1048577≤1099511627776)=True:=eq_true (by omega)
 have z3:(s.size≤1099511627776)=True:=eq_true (by omega)
 have g1:=eI s
 (exact aHI c1 z1 z2 z3 aCJ aDF cY cW cX g1)

theorem aNK {s a:ByteArray} (h0:0<s.size) (h1:s.size≤100000) (h2:a.size≤100000):runW aB 69 [.bp 0,.str s] [some (.blk false (.cells true [.pt 0 0,.sb 1 a.size])),some (.blk true (.cells true (dI a)))] =
 some (.tup [I (s.size:Nat),.nilifc],[some (.blk false (.cells true [.pt 0 0,.sb 2 (a.size+s.size)])),none,some (.blk true (.cells true (dI (a++s))))]):=by
 rw[q69 (by simp)];unfold x69;dsimp only
 have c1:runW aB 115 [.bp 0] [some (.blk false (.cells true [.pt 0 0,.sb 1 a.size])),some (.blk true (.cells true (dI a)))]=some (.tup [],[some (.blk false (.cells true [.pt 0 0,.sb 1 a.size])),some (.blk true (.cells true (dI a)))]):=by rw[aSi];rfl
 have l1:=aCH a
 have z3:(a.size+s.size≤1099511627776)=True:=eq_true (by omega)
 have z4:(a.size+s.size≤1099511627776∧True)=True:=eq_true ⟨by omega,trivial⟩
 have g1:=eI s
 have g2:=eI a
 have g3:=eI (a++s)
 have e1:=aIc a s
 (exact aHH c1 l1 z3 aCJ aDF cY cW cX g1 g2 g3 e1)
theorem w71 {a:ByteArray} (h0:0<a.size) (h1:a.size≤1000000):runW aB 71 [.bp 0] [some (.blk false (.cells true [.pt 0 0,.sb 1 a.size])),some (.blk true (.cells true (dI a)))]=some (.str a,[some (.blk false (.cells true [.pt 0 0,.sb 1 a.size])),none]):=by
 rw[p71]
 have hl:=aCH a
 have hb:=aGw a.data.toList
 have hsz:a.size=a.data.toList.length:=by rw[Array.length_toList];rfl
 unfold aDf
 simp only[aJ,List.getD_cons_zero,List.getD_cons_succ]
 rw[List.take_of_length_le (by rw[hl];exact Nat.le_refl _)]
 unfold dI
 rw[hb]
 cases hd:a.data.toList with
 | nil=>rw[hsz,hd]at h0;simp at h0
 | cons x l =>
   dsimp only
   have hc:a.size≤(List.map (fun b:UInt8=>AV.int IntKind.u8 (b.toNat:Int)) (x::l)).length∧(1:Nat)≠0∧a.size≤1000000:=⟨by rw[List.length_map,←hd,←hsz];exact Nat.le_refl _,by decide,h1⟩
   rw[if_pos hc]
   have ha:(⟨⟨x::l⟩⟩:ByteArray)=a:=by
    rw[←hd]
   rw[ha]
   rfl
def aMF:XCode:=(.loop [1,5,6,9,10,11] (.seq (.reg [] false [⟨0,(some 12),(.bin .lss (.t 11) (.t 10)),none⟩]) (.seq (.cond (.t 12) .skip (.exit 0)) (.seq (.block 1 (.seq (.reg [] false [⟨0,(some 13),(.mv (.t 11)),none⟩,⟨0,(some 14),(.idx 1 (.t 9) (.t 11)),none⟩,⟨0,(some 15),(.load false 1 (.t 14)),none⟩,⟨0,(some 7),(.mv (.t 13)),none⟩,⟨0,(some 8),(.mv (.t 15)),none⟩]) (.seq (.reg [(8,false)] false [⟨0,(some 16),(.mv (.t 6)),none⟩,⟨0,(some 17),(.mv (.t 8)),none⟩,⟨0,(some 18),(.callf false (.c (.fn (.func 44) [] [])) [(.t 17)] []),none⟩,⟨0,(some 19),(.bslice 40 1 (bL (nf 0)) [(0,(40,(.t 18)))]),none⟩,⟨0,(some 20),(.app 40 40 (.t 16) (.t 19)),none⟩,⟨0,(some 6),(.mv (.t 20)),none⟩]) (.reg [(5,false)] false [⟨0,(some 21),(.mv (.t 6)),none⟩,⟨0,(some 22),(.mv (.t 7)),none⟩,⟨0,(some 23),(.idx 40 (.t 21) (.t 22)),none⟩,⟨0,(some 24),(.load true 40 (.t 23)),none⟩,⟨0,(some 25),(.mv (.t 1)),none⟩,⟨0,(some 26),(.mv (.t 7)),none⟩,⟨0,(some 27),(.bin .add (.t 25) (.t 26)),none⟩,⟨0,(some 28),(.callf false (.c (.fn (.func 77) [] [])) [(.t 24),(.t 27)] []),none⟩,⟨0,(some 29),(.callf false (.c (.fn (.func 69) [] [])) [(.t 5),(.t 28)] []),none⟩])))) (.reg [] false [⟨0,(some 30),(.bin .add (.t 11) (.c (.int .i64 1))),none⟩,⟨0,(some 11),(.mv (.t 30)),none⟩])))))
theorem aNu:aML=aMF:=rfl
def rY (s:ByteArray):List Nat:=dJ (bN s)
theorem qQ (s:ByteArray):(rY s).length=40:=gU _
theorem aCj (s:ByteArray):xC (rY s):=mU (aCx s)
def Cn (ls:List ByteArray) (i:Nat):List Nat:=((ls.take i).map rY).flatten
def rwB (row:Nat) (f:List Nat):ByteArray:=nBy (lG row f)
def Bn (ls:List ByteArray) (row:Nat):Nat→ByteArray
 | 0=>⟨⟨[]⟩⟩
 | i+1=>Bn ls row i++rwB (row+i) (rY (ls.getD i ⟨⟨[]⟩⟩))
theorem aIG {row:Nat} {f:List Nat} (h:f.length=40):(lG row f).length=45:=by simp[lG,rH,h]
theorem tE {row:Nat} {f:List Nat} (h:f.length=40):(rwB row f).size=45:=by
 unfold rwB nBy
 rw[aAJ,List.length_map,aIG h]
theorem xD (ls:List ByteArray) (row:Nat):∀ i,(Bn ls row i).size=i*45
 | 0=>rfl
 | i+1=>by rw[Bn,ByteArray.size_append,xD ls row i,tE (qQ _)];omega
theorem aMl (a:ByteArray):(⟨⟨[]⟩⟩:ByteArray)++a=a:=by
 cases a with
 | mk d=>cases d with
   | mk l=>rw[aMt];rfl
theorem mA {ls:List ByteArray}:∀ {i:Nat},i≤ls.length→(Cn ls i).length=i*40
 | 0,_=>by simp[Cn]
 | i+1,h=>by
   have ih:=mA (ls:=ls) (i:=i) (by omega)
   unfold Cn at *
   rw[List.take_add_one]
   obtain⟨x,hx⟩:=qH (l:=ls) (i:=i) (by omega)
   rw[hx]
   simp only[Option.toList_some,List.map_append,List.map_cons,List.map_nil,List.flatten_append,List.flatten_cons,List.flatten_nil,List.append_nil,List.length_append,ih,qQ]
   omega
theorem aMD {ls:List ByteArray} {i:Nat} {s:ByteArray} (h:ls[i]?=some s):Cn ls (i+1)=Cn ls i++rY s:=by
 unfold Cn
 rw[List.take_add_one,h]
 simp
theorem aPq (ls:List ByteArray) (i:Nat):xC (Cn ls i):=by
 intro k x h
 have hm:=List.mem_of_getElem? h
 unfold Cn at hm
 obtain⟨l,h1,h2⟩:=List.mem_flatten.1 hm
 obtain⟨s,_,rfl⟩:=List.mem_map.1 h1
 obtain⟨j,hj⟩:=List.getElem?_of_mem h2
 exact aCj s j x hj
theorem aTO {ls:List ByteArray} {i:Nat} {s:ByteArray} (h:ls[i]?=some s):((bL (Cn ls (i+1))).drop (i*40)).take 40=bL (rY s):=by
 have hi:i<ls.length:=(List.getElem?_eq_some_iff.1 h).1
 have hl:=mA (ls:=ls) (i:=i) (by omega)
 rw[aMD h]
 unfold bL
 rw[List.map_append,List.drop_append_of_le_length (by rw[List.length_map,hl];exact Nat.le_refl _),List.drop_eq_nil_of_le (by rw[List.length_map,hl];exact Nat.le_refl _),List.nil_append]
 exact List.take_of_length_le (by rw[List.length_map,qQ];exact Nat.le_refl _)
theorem aHV (a b:List Nat):bL a++bL b=bL (a++b):=by simp[bL]
theorem aPr {ls:List ByteArray} {row i:Nat} {s:ByteArray} (h:ls[i]?=some s):Bn ls row (i+1)=Bn ls row i++rwB (row+i) (rY s):=by
 rw[Bn,List.getD_eq_getElem?_getD,h];rfl
def rS (ls:List ByteArray):List (List AV):=ls.map fun s=>[.str s]
theorem aOk (ls:List ByteArray):(rS ls).length=ls.length:=by simp[rS]
theorem q35 {vs:List AV} {h:XH} (hl:vs.length≤15):runW aB 35 vs h=fV none x35.res x35.ownR h.length (execW aB 35 h.length none x35.body (aM (if x35.ownA then vs else jJ vs)) h):=eK rfl hl h rfl
theorem w35 (lo n hi:Int):runW aB 35 [I lo,I n,I hi] []=some (.bool (decide (lo≤n)&&decide (n≤hi)),[]):=by
 rw[q35 (by simp)];unfold x35;dsimp only
 rcases ptf (lo≤n)with h1|h1
 ·have d1:decide (lo≤n)=true:=by simp[h1]
  (exact RS2 h1 d1)
 ·have d1:decide (lo≤n)=false:=by simp[h1]
  (exact RS2 h1 d1)
def lnE (s:ByteArray):Int:=if 40<s.size then 14 else if s.size=0||(oN s.data.toList||Lib.hasSuffix s.data.toList [32]) then 13 else 0
def emB:ByteArray:=⟨#[]⟩
def pgB (ls:List ByteArray) (row:Nat):ByteArray:=Bn ls row ls.length++rwB (row+ls.length) (dL (Cn ls ls.length) ls.length)
theorem aFB (s:ByteArray):s.toList=s.data.toList:=ByteArray.toList_eq s
theorem q16 {vs:List AV} {h:XH} (hl:vs.length≤121):runW aB 16 vs h=fV none x16.res x16.ownR h.length (execW aB 16 h.length none x16.body (aM (if x16.ownA then vs else jJ vs)) h):=eK rfl hl h rfl
def aMH:XCode:=(.loop [0,1,4,5,7,8,9,35,36] (.seq (.reg [] false [⟨0,(some 37),(.bin .lss (.t 36) (.t 35)),none⟩]) (.seq (.cond (.t 37) .skip (.exit 1)) (.seq (.block 2 (.seq (.reg [] false [⟨0,(some 38),(.mv (.t 36)),none⟩,⟨0,(some 10),(.mv (.t 38)),none⟩]) (.seq (.reg [] false [⟨0,(some 40),(.mv (.t 0)),none⟩,⟨0,(some 41),(.mv (.t 10)),none⟩,⟨0,(some 42),(.bin .mul (.t 41) (.c (.int .i64 45))),none⟩,⟨0,(some 43),(.mv (.t 10)),none⟩,⟨0,(some 44),(.bin .add (.t 43) (.c (.int .i64 1))),none⟩,⟨0,(some 45),(.bin .mul (.t 44) (.c (.int .i64 45))),none⟩,⟨0,(some 46),(.slstr (.t 40) (some (.t 42)) (some (.t 45))),none⟩,⟨0,(some 47),(.mv (.t 1)),none⟩,⟨0,(some 48),(.mv (.t 10)),none⟩,⟨0,(some 49),(.bin .add (.t 47) (.t 48)),none⟩,⟨0,(some 50),(.callf false (.c (.fn (.func 42) [] [])) [(.t 46),(.t 49)] []),none⟩,⟨0,(some 39),(.mv (.t 50)),none⟩,⟨0,(some 51),(.ext (.t 39) 0),none⟩,⟨0,(some 52),(.ext (.t 39) 1),none⟩,⟨0,(some 11),(.alloc (bL (nf 0))),none⟩,⟨0,none,(.store 40 (.t 11) (.t 51) []),none⟩,⟨0,(some 12),(.mv (.t 52)),none⟩]) (.seq (.seq (.reg [] false [⟨0,(some 53),(.mv (.t 12)),none⟩,⟨0,(some 54),(.not (.t 53)),none⟩]) (.cond (.t 54) (.seq (.reg [] false [⟨0,(some 55),(.mv (.t 10)),none⟩,⟨0,(some 9),(.mv (.t 55)),none⟩]) (.reg [] false [⟨0,(some 56),(.mv (.t 5)),none⟩,⟨0,(some 57),(.bin .add (.t 56) (.c (.int .i64 1))),none⟩,⟨0,(some 5),(.mv (.t 57)),none⟩])) .skip)) (.reg [] false [⟨0,(some 58),(.mv (.t 8)),none⟩,⟨0,(some 59),(.load true 40 (.t 11)),none⟩,⟨0,(some 60),(.bslice 40 1 (bL (nf 0)) [(0,(40,(.t 59)))]),none⟩,⟨0,(some 61),(.app 40 40 (.t 58) (.t 60)),none⟩,⟨0,(some 8),(.mv (.t 61)),none⟩]))))) (.reg [] false [⟨0,(some 62),(.bin .add (.t 36) (.c (.int .i64 1))),none⟩,⟨0,(some 36),(.mv (.t 62)),none⟩])))))
def aMG:XCode:=(.loop [4,5,105,106,107] (.seq (.reg [] false [⟨0,(some 108),(.bin .lss (.t 107) (.t 106)),none⟩]) (.seq (.cond (.t 108) .skip (.exit 4)) (.seq (.block 5 (.seq (.reg [] false [⟨0,(some 109),(.idx 40 (.t 105) (.t 107)),none⟩,⟨0,(some 110),(.load true 40 (.t 109)),none⟩,⟨0,(some 15),(.alloc (bL (nf 0))),none⟩,⟨0,none,(.store 40 (.t 15) (.t 110) []),none⟩]) (.reg [] false [⟨0,(some 111),(.mv (.t 4)),none⟩,⟨0,(some 112),(.load true 40 (.t 15)),none⟩,⟨0,(some 113),(.callf false (.c (.fn (.func 46) [] [])) [(.t 112)] []),none⟩,⟨0,(some 114),(.bslice 1 1 [(.str ⟨#[]⟩)] [(0,(1,(.t 113)))]),none⟩,⟨0,(some 115),(.app 1 16 (.t 111) (.t 114)),none⟩,⟨0,(some 4),(.mv (.t 115)),none⟩]))) (.reg [] false [⟨0,(some 116),(.bin .add (.t 107) (.c (.int .i64 1))),none⟩,⟨0,(some 107),(.mv (.t 116)),none⟩])))))
def aNv:XCode:=(.seq (.seq (.reg [] false [⟨0,(some 103),(.mv (.t 8)),none⟩,⟨0,(some 104),(.mv (.t 13)),none⟩,⟨0,(some 105),(.slsl 40 (.t 103) none (some (.t 104))),none⟩,⟨0,(some 106),(.len false (.t 105)),none⟩,⟨0,(some 107),(.mv (.c (.int .i64 0))),none⟩]) (.block 4 aMG)) (.seq (.seq (.reg [(4,false)] false [⟨0,(some 117),(.mv (.t 4)),none⟩,⟨0,(some 118),(.callf false (.c (.fn (.func 47) [] [])) [(.t 117),(.c (.str ⟨#[]⟩))] []),none⟩]) (.cond (.t 118) (.seq (.reg [] false [⟨0,(some 4),(.mv (.c .nilsl)),none⟩,⟨0,(some 5),(.mv (.c (.int .i64 0))),none⟩,⟨0,(some 6),(.mv (.c (.int .i64 13))),none⟩]) .ret) .skip)) (.seq (.reg [] false [⟨0,(some 119),(.mv (.t 4)),none⟩,⟨0,(some 120),(.mv (.t 5)),none⟩,⟨0,(some 4),(.mv (.t 119)),none⟩,⟨0,(some 5),(.mv (.t 120)),none⟩,⟨0,(some 6),(.mv (.c (.int .i64 0))),none⟩]) .ret)))
def aPs:XCode:=(.seq (.reg [] false [⟨0,(some 4),(.mv (.c .nilsl)),none⟩,⟨0,(some 5),(.mv (.c (.int .i64 0))),none⟩,⟨0,(some 6),(.mv (.c (.int .i64 0))),none⟩]) (.seq (.reg [] false [⟨0,(some 16),(.mv (.t 0)),none⟩,⟨0,(some 17),(.len true (.t 16)),none⟩,⟨0,(some 18),(.bin .quo (.t 17) (.c (.int .i64 45))),none⟩,⟨0,(some 7),(.mv (.t 18)),none⟩]) (.seq (.block 0 (.seq (.reg [] false [⟨0,(some 20),(.mv (.t 1)),none⟩,⟨0,(some 21),(.callf false (.c (.fn (.func 35) [] [])) [(.c (.int .i64 0)),(.t 20),(.c (.int .i64 1000))] []),none⟩,⟨0,(some 22),(.not (.t 21)),none⟩,⟨0,(some 19),(.mv (.t 22)),none⟩]) (.cond (.t 19) (.seq (.reg [] false [⟨0,(some 4),(.mv (.c .nilsl)),none⟩,⟨0,(some 5),(.mv (.c (.int .i64 0))),none⟩,⟨0,(some 6),(.mv (.c (.int .i64 2))),none⟩]) .ret) (.seq (.reg [] false [⟨0,(some 24),(.mv (.t 0)),none⟩,⟨0,(some 25),(.len true (.t 24)),none⟩,⟨0,(some 26),(.bin .rem (.t 25) (.c (.int .i64 45))),none⟩,⟨0,(some 27),(.bin .neq (.t 26) (.c (.int .i64 0))),none⟩,⟨0,(some 28),(.mv (.t 27)),none⟩,⟨0,(some 29),(.mv (.t 7)),(some (28,false))⟩,⟨0,(some 30),(.bin .lss (.t 29) (.c (.int .i64 2))),(some (28,false))⟩,⟨0,(some 31),(.pick (.t 28) (.c (.bool true)) (.t 30)),none⟩,⟨0,(some 23),(.mv (.t 31)),none⟩]) (.cond (.t 23) (.seq (.reg [] false [⟨0,(some 4),(.mv (.c .nilsl)),none⟩,⟨0,(some 5),(.mv (.c (.int .i64 0))),none⟩,⟨0,(some 6),(.mv (.c (.int .i64 20))),none⟩]) .ret) (.seq (.reg [] false [⟨0,(some 33),(.mv (.t 7)),none⟩,⟨0,(some 34),(.bin .gtr (.t 33) (.c (.int .i64 6))),none⟩,⟨0,(some 32),(.mv (.t 34)),none⟩]) (.cond (.t 32) (.seq (.reg [] false [⟨0,(some 4),(.mv (.c .nilsl)),none⟩,⟨0,(some 5),(.mv (.c (.int .i64 0))),none⟩,⟨0,(some 6),(.mv (.c (.int .i64 1))),none⟩]) .ret) .skip))))))) (.seq (.reg [] false [⟨0,(some 8),(.mv (.c .nilsl)),none⟩]) (.seq (.reg [] false [⟨0,(some 9),(.mv (.c (.int .i64 (-1)))),none⟩]) (.seq (.seq (.reg [] false [⟨0,(some 35),(.mv (.t 7)),none⟩,⟨0,(some 36),(.mv (.c (.int .i64 0))),none⟩]) (.block 1 aMH)) (.seq (.reg [] false [⟨0,(some 63),(.mv (.t 7)),none⟩,⟨0,(some 64),(.bin .sub (.t 63) (.c (.int .i64 1))),none⟩,⟨0,(some 13),(.mv (.t 64)),none⟩]) (.seq (.block 3 (.seq (.reg [] false [⟨0,(some 66),(.mv (.t 5)),none⟩,⟨0,(some 67),(.bin .gtr (.t 66) (.c (.int .i64 1))),none⟩,⟨0,(some 65),(.mv (.t 67)),none⟩]) (.cond (.t 65) (.seq (.reg [] false [⟨0,(some 4),(.mv (.c .nilsl)),none⟩,⟨0,(some 5),(.mv (.c (.int .i64 0))),none⟩,⟨0,(some 6),(.mv (.c (.int .i64 19))),none⟩]) .ret) (.seq (.reg [] true [⟨0,(some 69),(.mv (.t 5)),none⟩,⟨1,(some 70),(.bin .eql (.t 69) (.c (.int .i64 0))),none⟩,⟨2,(some 71),(.mv (.t 70)),none⟩,⟨3,(some 72),(.mv (.t 8)),(some (71,true))⟩,⟨4,(some 73),(.mv (.t 13)),(some (71,true))⟩,⟨5,(some 74),(.slsl 40 (.t 72) none (some (.t 73))),(some (71,true))⟩,⟨7,(some 76),(.mv (.t 8)),(some (71,true))⟩,⟨8,(some 77),(.mv (.t 13)),(some (71,true))⟩,⟨9,(some 78),(.idx 40 (.t 76) (.t 77)),(some (71,true))⟩,⟨10,(some 79),(.load true 40 (.t 78)),(some (71,true))⟩,⟨6,(some 75),(.callf false (.c (.fn (.func 43) [] [])) [(.t 74)] [10]),(some (71,true))⟩,⟨11,(some 80),(.eqag true (List.replicate 40 0) (.t 75) (.t 79)),(some (71,true))⟩,⟨12,(some 81),(.pick (.t 71) (.t 80) (.c (.bool false))),none⟩,⟨13,(some 68),(.mv (.t 81)),none⟩]) (.cond (.t 68) (.seq (.reg [] false [⟨0,(some 4),(.mv (.c .nilsl)),none⟩,⟨0,(some 5),(.mv (.c (.int .i64 0))),none⟩,⟨0,(some 6),(.mv (.c (.int .i64 22))),none⟩]) .ret) (.seq (.reg [] false [⟨0,(some 83),(.mv (.t 9)),none⟩,⟨0,(some 84),(.mv (.t 13)),none⟩,⟨0,(some 85),(.bin .sub (.t 84) (.c (.int .i64 1))),none⟩,⟨0,(some 86),(.callf false (.c (.fn (.func 35) [] [])) [(.c (.int .i64 0)),(.t 83),(.t 85)] []),none⟩,⟨0,(some 82),(.mv (.t 86)),none⟩]) (.cond (.t 82) (.seq (.reg [] false [⟨0,(some 87),(.mv (.t 8)),none⟩,⟨0,(some 88),(.mv (.t 9)),none⟩,⟨0,(some 89),(.callf false (.c (.fn (.func 44) [] [])) [(.c (.str ⟨#[]⟩))] []),none⟩,⟨0,(some 90),(.idx 40 (.t 87) (.t 88)),none⟩,⟨0,none,(.store 40 (.t 90) (.t 89) []),none⟩]) (.reg [] true [⟨0,(some 91),(.mv (.t 8)),none⟩,⟨1,(some 92),(.mv (.t 9)),none⟩,⟨2,(some 93),(.mv (.t 8)),none⟩,⟨3,(some 94),(.mv (.t 13)),none⟩,⟨4,(some 95),(.idx 40 (.t 93) (.t 94)),none⟩,⟨5,(some 96),(.load true 40 (.t 95)),none⟩,⟨6,(some 97),(.mv (.t 8)),none⟩,⟨7,(some 98),(.mv (.t 13)),none⟩,⟨8,(some 99),(.slsl 40 (.t 97) none (some (.t 98))),none⟩,⟨9,(some 100),(.callf false (.c (.fn (.func 43) [] [])) [(.t 99)] [5]),none⟩,⟨10,(some 101),(.callf false (.c (.fn (.func 45) [] [])) [(.t 96),(.t 100),(.c (.int .i64 94))] []),none⟩,⟨11,(some 102),(.idx 40 (.t 91) (.t 92)),none⟩,⟨12,none,(.store 40 (.t 102) (.t 101) []),none⟩])) .skip))))))) aNv))))))))
theorem aNw:x16=⟨121,[(4,none),(5,none),(6,none)],false,false,aPs,none,none⟩:=rfl
theorem aNN (a b:Nat):tdZ (a:Int) (b:Int)=((a/b:Nat):Int):=by
 rw[tdZ,Int.tdiv_eq_ediv_of_nonneg (by omega)];exact(Int.natCast_ediv a b).symm
def rwS (s:ByteArray) (i:Nat):ByteArray:=lA s (i*45) ((i+1)*45)
def gdS (s:ByteArray) (row i:Nat):Bool:=aBp (rwS s i) (row+i)
def FnS (s:ByteArray):Nat→List Nat
 | 0=>[]
 | i+1=>FnS s i++rdF (rwS s i)
def bdS (s:ByteArray) (row:Nat):Nat→Int
 | 0 => -1
 | i+1=>if gdS s row i then bdS s row i else (i:Int)
def vV (s:ByteArray) (row:Nat):Nat→Nat
 | 0=>0
 | i+1=>if gdS s row i then vV s row i else vV s row i+1
theorem aBX (s:ByteArray):(rdF s).length=40:=gU _
theorem rF (s:ByteArray):∀ i,(FnS s i).length=i*40
 | 0=>rfl
 | i+1=>by rw[FnS,List.length_append,rF s i,aBX];omega
theorem aGB (s:ByteArray):∀ i,xC (FnS s i)
 | 0=>by intro k x h;simp[FnS]at h
 | i+1=>by
   intro k x h
   rw[FnS,List.getElem?_append]at h
   split at h
   ·exact aGB s i k x h
   ·exact mU (aCx _) _ x h
theorem aEO (s:ByteArray) (row:Nat):∀ i,vV s row i≤i
 | 0=>Nat.le_refl _
 | i+1=>by
   have:=aEO s row i
   rw[vV];split<;>omega
theorem aKB (s:ByteArray) (row:Nat):∀ i,-1≤bdS s row i∧bdS s row i<i
 | 0=>by simp[bdS]
 | i+1=>by
   have:=aKB s row i
   rw[bdS];split<;>omega
theorem xW {s:ByteArray} {i:Nat} (h:(i+1)*45≤s.size):(rwS s i).size=45:=by
 unfold rwS
 rw[←aCs,ByteArray.size_extract];omega

def setC (C:List Nat) (k:Nat) (f:List Nat):List Nat:=C.take (k*40)++(f++C.drop (k*40+40))
def aKf (C:List Nat) (n k:Nat):List Nat:=setC (setC C k (dJ [])) k (dA 94 (eU (setC C k (dJ [])) n) (dL (setC C k (dJ [])) n))
def wK (C:List Nat) (n:Nat):List ByteArray:=(List.range n).map fun i=>lnB (eU C i)
def erV (e:Int):AV:=.tup [.fs [],I 0,I e]
def yT (C:List Nat) (n md:Nat):AV:=if Lib.containsS (wK C n) emB then erV 13 else .tup [.fs (rS (wK C n)),I (md:Nat),I 0]
def pX (C:List Nat) (n:Nat) (bad:Int) (md:Nat):AV:=if 1<md then erV 19 else if md=0∧dL C n≠eU C n then erV 22 else
 if 0≤bad∧bad<n then yT (aKf C n bad.toNat) n md else yT C n md
def mnV (s:ByteArray) (row:Int):AV:=if (decide (0≤row)&&decide (row≤1000))=true then
 (if s.size%45≠0∨s.size/45<2 then erV 20 else if 6<s.size/45 then erV 1 else pX (FnS s (s.size/45)) (s.size/45-1) (bdS s row.toNat (s.size/45)) (vV s row.toNat (s.size/45))) else erV 2
def mS (i:Nat):AV:=if i=0 then .nilsl else .sl 0 0 40 i
def mG (s:ByteArray) (i:Nat):XH:=if i=0 then [] else [some (.blk true (.cells true (bL (FnS s i))))]

theorem q47 {xs:List AV} {h:XH}:runW aB 47 xs h=aDg xs h:=cI rfl rfl xs h
theorem aFC:∀ l:List ByteArray,sU (rS l)=some l
 | []=>rfl
 | s::l=>by
   have ih:=aFC l
   show (sU (rS l)).map (s :: ·)=_
   rw[ih];rfl
theorem w47 {l:List ByteArray} {x:ByteArray} (h:l.length≤1000000):runW aB 47 [.fs (rS l),.str x] []=some (.bool (Lib.containsS l x),[]):=by
 rw[q47];unfold aDg;dsimp only;rw[aFC];dsimp only;rw[if_pos h]
def lX (l:List ByteArray):List AV:=l.map AV.str
theorem aBL (l:List ByteArray):(lX l).length=l.length:=by simp[lX]
theorem dD (l:List ByteArray):nP (lX l)=[]:=aJD (fun _=>rfl) _
theorem dB (l:List ByteArray):slL (lX l)=[]:=aJB (fun _=>rfl) _
theorem dC (f:Nat→Option Nat) (l:List ByteArray):lI f (lX l)=lX l:=aJC (fun _=>rfl) _
theorem jG (l:List ByteArray):jK (lX l)=true:=dW fun v hv=>by
 obtain⟨n,_,rfl⟩:=List.mem_map.1 hv;rfl
theorem aNU (l:List ByteArray):bP (lX l) 0 1 l.length=rS l:=aGu (f:=AV.str) l []
theorem aGd (C:List Nat) (n:Nat):(wK C n).length=n:=by simp[wK]
theorem aSo (C:List Nat) (i:Nat):lX (wK C i)++[.str (lnB (eU C i))]=lX (wK C (i+1)):=by
 simp[lX,wK,List.range_succ]
def tS (i:Nat):AV:=if i=0 then .nilsl else .sl 0 0 1 i
def tB (p i:Nat):AV:=if i=0 then .sl 0 0 40 p else .sl 1 0 40 p
def tG (C:List Nat) (i:Nat):XH:=if i=0 then [some (.blk true (.cells true (bL C)))] else [some (.blk true (.cells true (lX (wK C i)))),some (.blk true (.cells true (bL C)))]
theorem t16 {C:List Nat} {n p md:Nat} {e:aD} (hn:n=p+1) (hC:C.length=n*40) (hb:xC C) (h0:1≤p) (h1:p≤1000) (e4:e 4 = .nilsl) (e5:e 5=I (md:Nat)) (e8:e 8 = .sl 0 0 40 n) (e13:e 13=I (p:Nat)) :
 fV none [(4,none),(5,none),(6,none)] false 0 (execW aB 16 0 none aNv e [some (.blk true (.cells true (bL C)))])=some (yT C p md,[]):=by
 unfold aNv
 have z1:((p:Int)≤(n:Int))=True:=eq_true (by omega)
 have z2:(0<p)=True:=eq_true (by omega)
 sym =>
  simp[iC,iD,oO,Za,Zb,Zf,Zh,Zl,Zm,Zn,Zv,ZM,ZR,Yt,YF,YG,Tq,TE,TF,TG,Su,Sy,Sz,S8,S9,SJ,SK,SL,SM,Rb,e4,e5,e8,e13,z1,z2]
  tactic =>
   unfold aMG
   rw[cO p (fun i=>[tS i,I (md:Nat),tB p i,I (p:Nat),I (i:Nat)]) (fun i=>tG C i)]
   ·have s0:tS p = .sl 0 0 1 p:=if_neg (by omega)
    have b0:tB p p = .sl 1 0 40 p:=if_neg (by omega)
    have g0:tG C p=[some (.blk true (.cells true (lX (wK C p)))),some (.blk true (.cells true (bL C)))]:=if_neg (by omega)
    have x0:((p:Int)<(p:Int))=False:=eq_false (by omega)
    have ll:=aGd C p
    have lc:=aBL (wK C p)
    rw[ll]at lc
    have ch:=aNU (wK C p)
    rw[ll]at ch
    have c1:=w47 (l:=wK C p) (x:=⟨#[]⟩) (by omega)
    unfold yT
    have hE:Lib.containsS (wK C p) emB=Lib.containsS (wK C p) ⟨#[]⟩:=rfl
    rw[hE]
    have p1:(p*1≤p)=True:=eq_true (by omega)
    have p2:(p≤p)=True:=eq_true (by omega)
    generalize wK C p=L at *
    cases hc:Lib.containsS L ⟨#[]⟩with
    | true =>
      rw[hc]at c1
      unfold erV
      (exact RT9 s0 b0 g0 x0 lc ch c1 p1 p2)
    | false =>
      rw[hc]at c1
      (exact RT9 s0 b0 g0 x0 lc ch c1 p1 p2)
   ·have s0:tS 0 = .nilsl:=rfl
    have b0:tB p 0 = .sl 0 0 40 p:=rfl
    have g0:tG C 0=[some (.blk true (.cells true (bL C)))]:=rfl
    (exact RT9 s0 b0 g0 e4 e5 cG bY bX cH)
   ·intro i hi
    have i1:((i:Int)<(p:Int))=True:=eq_true (by omega)
    have a2:=oZ hi (by omega)
    have hC2:p*40≤C.length:=by omega
    have lC:=aL C
    have i3:(i*40+40≤(bL C).length)=True:=eq_true (by
     rw[lC]
     have h1:(i+1)*40≤p*40:=Nat.mul_le_mul_right _ hi
     omega)
    have fu:=aBs (C:=C) (k:=i)
    have l5:=qW hC2 hi
    have c1:=w46 l5
    rw[bE]at c1
    have m5:=aL (eU C i)
    rw[l5]at m5
    have l0:(bL (nf 0)).length=40:=by rw[aL];exact cZ (by omega)
    have gz:=bF (nf 0)
    have c8:=gO (a:=nf 0) (b:=eU C i) (by rw[l5];exact cZ (by omega))
    have k5:=fC l5
    have k6:=iA l5
    have g5:=bF (eU C i)
    have gC:=bF C
    have ls:=aSo C i
    have n1:=aBL (wK C i)
    rw[aGd]at n1
    have n2:=jG (wK C i)
    have n3:=jG (wK C (i+1))
    have s1:tS (i+1) = .sl 0 0 1 (i+1):=if_neg (by omega)
    have b1:tB p (i+1) = .sl 1 0 40 p:=if_neg (by omega)
    have g1:tG C (i+1)=[some (.blk true (.cells true (lX (wK C (i+1))))),some (.blk true (.cells true (bL C)))]:=if_neg (by omega)
    have z3:(i+1≤1099511627776)=True:=eq_true (by omega)
    have z4:((i+1)*16≤1099511627776)=True:=eq_true (by omega)
    by_cases hi0:i=0
    ·subst hi0
     have s0:tS 0 = .nilsl:=rfl
     have b0:tB p 0 = .sl 0 0 40 p:=rfl
     have g0:tG C 0=[some (.blk true (.cells true (bL C)))]:=rfl
     have L0:lX (wK C 0)=[]:=rfl
     rw[L0,List.nil_append]at ls
     have j1:((0:Int)<(p:Int))=True:=eq_true (by omega)
     rw[s1,b1,g1]
     rw[←ls]
     have fu:List.take 40 (bL C)=bL (eU C 0):=fu
     have fv:List.take 40 (List.drop 0 (bL C))=bL (eU C 0):=fu
     have i3:(40≤(bL C).length)=True:=eq_true (by rw[lC];omega)
     generalize lnB (eU C 0)=B at *
     generalize eU C 0=f at *
     (exact aXb j1 i3 fu fv m5 c1 l0 gz c8 k5 k6 g5 gC s0 b0 g0 cG bY bX cH)
    ·have s0:tS i = .sl 0 0 1 i:=if_neg hi0
     have b0:tB p i = .sl 1 0 40 p:=if_neg hi0
     have g0:tG C i=[some (.blk true (.cells true (lX (wK C i)))),some (.blk true (.cells true (bL C)))]:=if_neg hi0
     rw[s1,b1,g1]
     generalize wK C (i+1)=L1 at *
     generalize wK C i=L0 at *
     generalize lnB (eU C i)=B at *
     generalize eU C i=f at *
     (sym=>(simp[iC,iD,oO,Za,Zb,Zc,Zd,Ze,Zf,Zh,Zl,Zm,Zo,Zv,Zw,Z8,ZA,ZI,ZU,ZY,ZZ,Yc,Yf,Yj,Yk,Yl,Yw,Y4,YA,YF,YG,Xo,Xr,Xu,XO,We,Wg,Wh,Wk,Vd,Ve,Vm,Vn,Vo,Vp,Vq,Vr,Vs,Vt,Vw,Vx,V0,V4,V6,V8,V9,VA,VB,VC,VD,VE,VF,VG,VH,VI,VL,VM,VR,VU,VV,VW,UK,UL,UM,UN,UO,UT,UU,UV,UW,UX,UZ,Ta,Tb,Te,Th,Tq,Ts,Tt,Tv,Tw,Tx,Ty,Tz,T0,T1,T2,T3,TA,TB,TC,TD,TL,TM,TN,TO,TR,TS,TT,TV,TW,TY,TZ,Sd,Sf,Sg,Sk,Sl,Sm,Sn,Sr,Su,Sw,Sy,Sz,S4,S7,S8,S9,SX,SY,SZ,Rc,Qm,Qn,Qo,Qp,i1,a2,i3,fu,m5,c1,l0,gz,c8,k5,k6,g5,gC,ls,n1,n2,n3,s0,b0,g0,z3,z4,cG,bY,bX,cH,dD,dB,dC];all_goals tactic=>exact rfl))
   ·have x0:((p:Int)<(p:Int))=False:=eq_false (by omega)
    (exact RT1 x0)

theorem aBy:∀ {a b:List Nat} {n:Nat},a.length=n→b.length=n→cK (List.replicate n 0) (bL a) (bL b)=some (decide (a=b))
 | [],[],0,_,_=>rfl
 | x::a,y::b,n+1,ha,hb=>by
   have ih:=aBy (a:=a) (b:=b) (n:=n) (by simpa using ha) (by simpa using hb)
   rw[List.replicate_succ]
   show (match qE 0 (.int .u8 (x:Int)) (.int .u8 (y:Int)),cK (List.replicate n 0) (bL a) (bL b)with
    | some x,some y=>some (x&&y)
    | _,_=>none)=_
   rw[ih]
   show some (decide ((x:Int)=(y:Int))&&decide (a=b))=_
   congr 1
   rw[←Bool.decide_and]
   exact decide_eq_decide.2 (by rw[List.cons.injEq];constructor<;>(rintro ⟨h1,h2⟩;exact⟨by omega,h2⟩))
theorem aFF {C:List Nat} {k:Nat} {f:List Nat} (hf:f.length=40):bH (bL C) (k*40) (bL f)=bL (setC C k f):=by
 unfold bH setC bL
 simp[hf]
theorem sX {C:List Nat} {k n:Nat} {f:List Nat} (hC:C.length=n*40) (hk:k<n) (hf:f.length=40):(setC C k f).length=n*40:=by
 have:(k+1)*40≤n*40:=Nat.mul_le_mul_right _ hk
 simp[setC,hf,hC];omega
theorem sY {C:List Nat} {k:Nat} {f:List Nat} (hC:xC C) (hf:xC f):xC (setC C k f):=by
 intro i x h
 unfold setC at h
 rw[List.getElem?_append]at h
 split at h
 ·rw[List.getElem?_take]at h
  split at h
  ·exact hC _ _ h
  ·cases h
 ·rw[List.getElem?_append]at h
  split at h
  ·exact hf _ _ h
  ·rw[List.getElem?_drop]at h
   exact hC _ _ h
theorem zN {C:List Nat} {n p:Nat} (hC:C.length=n*40) (hp:n=p+1):(eU C p).length=40:=qW (n:=n) (by omega) (by omega)
theorem aKC (b:Bool):b=false∨b=true:=by cases b;exact .inl rfl;exact .inr rfl
theorem aBO:∀ l:List Nat,eN (bL l) (bL l)=true
 | []=>rfl
 | x::l=>by
   show (bW (.int .u8 (x:Int)) (.int .u8 (x:Int))&&eN (bL l) (bL l))=true
   rw[aBO l]
   simp[bW]
theorem aGq:runW aB 44 [.str ⟨#[]⟩] []=some (.agg (bL (dJ [])),[]):=w44 ⟨#[]⟩
theorem w16 {s:ByteArray} {row:Int} (hz:s.size≤1000000):runW aB 16 [.str s,I row] []=some (mnV s row,[]):=by
 rw[q16 (by simp),aNw];unfold aPs;dsimp only
 have c1:=w35 0 row 1000
 have d1:tdZ (s.size:Int) 45=((s.size/45:Nat):Int):=aNN s.size 45
 have d2:tmZ (s.size:Int) 45=((s.size%45:Nat):Int):=aBH s.size 45
 have d3:IntKind.i64.wrap ((s.size/45:Nat):Int)=((s.size/45:Nat):Int):=bB (by omega) (by omega)
 cases hb:decide (0≤row)&&decide (row≤1000)with
 | false =>
   rw[hb]at c1
   have hv:mnV s row=erV 2:=by unfold mnV;rw[hb,if_neg (by decide)]
   rw[hv];unfold erV
   (exact RT4 c1 d1 d2 d3)
 | true =>
   rw[hb]at c1
   rcases ptf (s.size%45=0)with h0|h0
   ·have h0':=of_eq_true h0
    have z0:(((s.size%45:Nat):Int)=0)=True:=eq_true (by omega)
    rcases ptf (s.size/45<2)with h2|h2
    ·have h2':=of_eq_true h2
     have z2:(((s.size/45:Nat):Int)<2)=True:=eq_true (by omega)
     have hv:mnV s row=erV 20:=by unfold mnV;rw[hb,if_pos rfl,if_pos (Or.inr h2')]
     rw[hv];unfold erV
     generalize s.size%45=rm at *
     generalize s.size/45=n at *
     (exact RT6 c1 d1 d2 d3 z0 z2)
    ·have h2':=of_eq_false h2
     have z2:(((s.size/45:Nat):Int)<2)=False:=eq_false (by omega)
     rcases ptf (6<s.size/45)with h6|h6
     ·have h6':=of_eq_true h6
      have z6:((6:Int)<((s.size/45:Nat):Int))=True:=eq_true (by omega)
      have hv:mnV s row=erV 1:=by unfold mnV;rw[hb,if_pos rfl,if_neg (by omega),if_pos h6']
      rw[hv];unfold erV
      generalize s.size%45=rm at *
      generalize s.size/45=n at *
      (exact RT7 c1 d1 d2 d3 z0 z2 z6)
     ·have h6':=of_eq_false h6
      have z6:((6:Int)<((s.size/45:Nat):Int))=False:=eq_false (by omega)
      have hv:mnV s row=pX (FnS s (s.size/45)) (s.size/45-1) (bdS s row.toNat (s.size/45)) (vV s row.toNat (s.size/45)):=by unfold mnV;rw[hb,if_pos rfl,if_neg (by omega),if_neg h6']
      rw[hv]
      have hsz:s.size/45*45=s.size:=by omega
      simp only[Bool.and_eq_true,decide_eq_true_eq]at hb
      obtain⟨R,hR⟩:∃ R:Nat,row=(R:Int):=⟨row.toNat,by omega⟩
      have hR1:row.toNat=R:=by omega
      rw[hR1]
      subst hR
      generalize s.size%45=rm at *
      generalize s.size/45=n at *
      sym =>
       simp[iC,iD,oO,Za,Zb,Zf,Zh,Zl,Zm,Zp,Zr,Zv,Zy,ZA,ZD,ZR,Yc,Yf,Yk,Yl,Yn,Yp,Yv,Y9,YA,YC,Xo,We,Wf,WL,WN,Vt,Vu,V6,VA,VC,VH,VI,VU,VV,VW,UJ,UN,UP,US,UT,UU,UW,UX,Tb,Tl,Tt,Tu,Tx,Ty,Tz,T0,T1,T8,T9,Sr,Su,Sw,Sy,Sz,S4,S8,S9,Qm,Qn,Qo,Qp,c1,d1,d2,d3,z0,z2,z6]
       tactic =>
        unfold aMH
        rw[cO n (fun i=>[.str s,I (R:Int),.nilsl,I (vV s R i:Nat),I (n:Nat),mS i,I (bdS s R i),I (n:Nat),I (i:Nat)]) (fun i=>mG s i)]
        ·obtain⟨p,hp⟩:∃ p,n=p+1:=⟨n-1,by omega⟩
         have hnp:n-1=p:=by omega
         have s0:mS n = .sl 0 0 40 n:=if_neg (by omega)
         have g0:mG s n=[some (.blk true (.cells true (bL (FnS s n))))]:=if_neg (by omega)
         have x0:((n:Int)<(n:Int))=False:=eq_false (by omega)
         have wr:IntKind.i64.wrap ((n:Int)-1)=(p:Int):=by rw[bB (by omega) (by omega)];omega
         have wq:IntKind.i64.wrap ((p:Int)-1)=(p:Int)-1:=bB (by omega) (by omega)
         have hC:=rF s n
         have hB:=aGB s n
         have hmd:=aEO s R n
         have hbd:=aKB s R n
         rw[hnp]
         generalize FnS s n=C at *
         generalize vV s R n=md at *
         generalize bdS s R n=bad at *
         have lC:=aL C
         rw[hC]at lC
         have gC:=bF C
         have sC:=aBO C
         rcases ptf ((1:Int)<(md:Int))with k1|k1
         ·have hv:pX C p bad md=erV 19:=by unfold pX;rw[if_pos (by have:=of_eq_true k1;omega)]
          rw[hv];unfold erV
          (exact aTN s0 g0 x0 wr k1 lC gC cG bY bX cH aC)
         ·have k1':¬1<md:=by have:=of_eq_false k1;omega
          rcases ptf ((md:Int)=0)with k0|k0
          ·have k0':md=0:=by have:=of_eq_true k0;omega
           have f9:=aBs (C:=C) (k:=p)
           have l9:=zN hC hp
           have l8:=eV (C:=C) (n:=p) (by omega) p (Nat.le_refl _)
           have cs9:=w43 (C:=C) (n:=p) (by omega) hB (by omega)
           rw[bE]at cs9
           have ce:=aBy l8 l9
           have y1:((p:Int)<(n:Int))=True:=eq_true (by omega)
           have y2:(p*40+40≤n*40)=True:=eq_true (by omega)
           have y3:((p:Int)≤(n:Int))=True:=eq_true (by omega)
           have y4:(0<p)=True:=eq_true (by omega)
           have g9:=bF (eU C p)
           have g8:=bF (dL C p)
           have m9:=aL (eU C p)
           rw[l9]at m9
           have m8:=aL (dL C p)
           rw[l8]at m8
           rcases aKC (decide (dL C p=eU C p))with hq|hq
           ·skip
            rw[hq]at ce
            have hv:pX C p bad md=erV 22:=by unfold pX;rw[if_neg k1',if_pos ⟨k0',of_decide_eq_false hq⟩]
            rw[hv];unfold erV
            (exact rJ s0 g0 x0 wr wq k1 k0 lC gC sC f9 cs9 ce y1 y2 y3 y4 g9 g8 m9 m8 cG bY bX cH aC)
           ·skip
            rw[hq]at ce
            have hz9:¬(md=0∧dL C p≠eU C p):=fun hh=>hh.2 (of_decide_eq_true hq)
            have c35:=w35 0 bad ((p:Int)-1)
            rcases aKC (decide (0≤bad)&&decide (bad≤(p:Int)-1))with hbt|hbt
            ·skip
             rw[hbt]at c35
             have hfx:¬(0≤bad∧bad<p):=fun hh=>by
              rw[Bool.and_eq_false_iff,decide_eq_false_iff_not,decide_eq_false_iff_not]at hbt
              omega
             have hv:pX C p bad md=yT C p md:=by unfold pX;rw[if_neg k1',if_neg hz9,if_neg hfx]
             rw[hv]
             sym =>
              simp[iC,iD,oO,Za,Zb,Zd,Ze,Zf,Zh,Zi,Zl,Zm,Zn,Zp,Zq,Zv,Zy,ZA,ZB,ZI,ZM,ZV,ZX,Ya,Yc,Yf,Yg,Yh,Yk,Yl,Ym,Yw,Y5,Y8,YA,YC,YF,YG,Xc,Xd,Xo,Xu,We,Wf,Wh,Wk,Vm,Vn,Vo,Vp,Vs,Vt,Vw,Vy,V0,V6,V8,V9,VA,VC,VD,VH,VI,VJ,VL,VM,VR,VU,VV,VW,VX,VZ,Ua,Ub,Uc,UK,UN,UP,UT,UU,UW,UX,Ta,Tb,Th,Tl,Tp,Tq,Ts,Tt,Tu,Tv,Tw,Tx,Ty,Tz,T0,T1,TE,TF,TG,TX,TY,TZ,Sd,Sr,Su,Sw,Sx,Sy,Sz,S2,S4,S6,S8,S9,SJ,SK,SL,SM,SY,Rb,R8,Qm,Qn,Qo,Qp,Qq,s0,g0,x0,wr,wq,k1,lC,gC,sC,c35,cG,bY,bX,cH,k0,f9,cs9,ce,y1,y2,y3,y4,g9,g8,m9,m8]
              tactic =>
               exact t16 hp hC hB (by omega) (by omega) rfl rfl rfl rfl
            ·skip
             rw[hbt]at c35
             have hfx:0≤bad∧bad<p:=by
              rw[Bool.and_eq_true,decide_eq_true_eq,decide_eq_true_eq]at hbt
              omega
             have hv:pX C p bad md=yT (aKf C p bad.toNat) p md:=by unfold pX;rw[if_neg k1',if_neg hz9,if_pos hfx]
             rw[hv]
             obtain⟨k,hk⟩:∃ k:Nat,bad=(k:Int):=⟨bad.toNat,by omega⟩
             subst hk
             have ht:((k:Int)).toNat=k:=rfl
             rw[ht]
             unfold aKf
             have j1:((k:Int)<(n:Int))=True:=eq_true (by omega)
             have f0:=aGq
             have le0:=gU []
             have su:=aFF (C:=C) (k:=k) le0
             have hC1:=sX (k:=k) hC (by omega) le0
             have hB1:=sY (k:=k) hB (mU (l:=[]) (fun i x h=>by simp at h))
             have m0:=aL (dJ [])
             rw[le0]at m0
             have t0:=fC le0
             have gf0:=bF (dJ [])
             generalize setC C k (dJ [])=C1 at *
             have lC1:=aL C1
             rw[hC1]at lC1
             have gC1:=bF C1
             have sC1:=aBO C1
             have f1:=aBs (C:=C1) (k:=p)
             have lf1:=zN hC1 hp
             have cs:=w43 (C:=C1) (n:=p) (by omega) hB1 (by omega)
             rw[bE]at cs
             have ls1:=eV (C:=C1) (n:=p) (by omega) p (Nat.le_refl _)
             have w9:=w45 (t:=94) lf1 ls1 (wZ hB1 p) (qJ p) (by omega)
             rw[bE,bE,bE]at w9
             have w9:runW aB 45 [.agg (bL (eU C1 p)),.agg (bL (dL C1 p)),I 94] []=some (.agg (bL (dA 94 (eU C1 p) (dL C1 p))),[]):=w9
             have lp:=mP (t:=94) (l:=eU C1 p) (m:=dL C1 p) (by rw[lf1,ls1])
             rw[lf1]at lp
             have bp:=qN (t:=94) (l:=eU C1 p) (m:=dL C1 p)
             have su2:=aFF (C:=C1) (k:=k) lp
             have hC2:=sX (k:=k) hC1 (by omega) lp
             have hB2:=sY (k:=k) hB1 bp
             have q1:=aL (eU C1 p)
             rw[lf1]at q1
             have q2:=aL (dL C1 p)
             rw[ls1]at q2
             have q3:=aL (dA 94 (eU C1 p) (dL C1 p))
             rw[lp]at q3
             have g1:=bF (eU C1 p)
             have g2:=bF (dL C1 p)
             have g3:=bF (dA 94 (eU C1 p) (dL C1 p))
             have tk1:=fC lp
             generalize dA 94 (eU C1 p) (dL C1 p)=fp at *
             generalize dL C1 p=fs at *
             generalize eU C1 p=fa at *
             generalize setC C1 k fp=C2 at *
             have kl:(k*40+40≤n*40)=True:=eq_true (by have:(k+1)*40≤n*40:=Nat.mul_le_mul_right _ (by omega);omega)
             sym =>
              simp[iC,iD,oO,Za,Zb,Zc,Zd,Ze,Zf,Zh,Zi,Zl,Zm,Zn,Zp,Zq,Zv,Zy,ZA,ZB,ZI,ZM,ZV,ZX,ZY,ZZ,Ya,Yb,Yc,Yf,Yg,Yh,Yk,Yl,Ym,Yw,Y5,Y8,YA,YC,YF,YG,Xc,Xd,Xo,Xq,Xr,Xu,We,Wf,Wg,Wh,Wk,Ve,Vk,Vm,Vn,Vo,Vp,Vs,Vt,Vw,Vy,V0,V6,V8,V9,VA,VC,VD,VH,VI,VJ,VL,VM,VR,VU,VV,VW,VX,VY,VZ,Ua,Ub,Uc,UK,UN,UO,UP,UT,UU,UW,UX,Ta,Tb,Th,Tl,Tm,Tn,Tp,Tq,Ts,Tt,Tu,Tv,Tw,Tx,Ty,Tz,T0,T1,TE,TF,TG,TX,TY,TZ,Sd,Sf,Sg,Sr,Su,Sx,Sy,Sz,S2,S4,S6,S8,S9,SJ,SK,SL,SM,SY,Rb,R4,R8,Qm,Qn,Qo,Qp,Qq,s0,g0,x0,wr,wq,k1,lC,gC,sC,c35,cG,bY,bX,cH,k0,f9,cs9,ce,y1,y2,y3,y4,g9,g8,m9,m8,j1,f0,su,m0,t0,gf0,lC1,gC1,sC1,f1,cs,w9,su2,q1,q2,q3,g1,g2,g3,tk1,kl]
              tactic =>
               exact t16 hp hC2 hB2 (by omega) (by omega) rfl rfl rfl rfl
          ·have k0':¬md=0:=by have:=of_eq_false k0;omega
           have hz9:¬(md=0∧dL C p≠eU C p):=fun hh=>k0' hh.1
           have y1:((p:Int)<(n:Int))=True:=eq_true (by omega)
           have y2:(p*40+40≤n*40)=True:=eq_true (by omega)
           have y3:((p:Int)≤(n:Int))=True:=eq_true (by omega)
           have y4:(0<p)=True:=eq_true (by omega)
           have c35:=w35 0 bad ((p:Int)-1)
           rcases aKC (decide (0≤bad)&&decide (bad≤(p:Int)-1))with hbt|hbt
           ·skip
            rw[hbt]at c35
            have hfx:¬(0≤bad∧bad<p):=fun hh=>by
             rw[Bool.and_eq_false_iff,decide_eq_false_iff_not,decide_eq_false_iff_not]at hbt
             omega
            have hv:pX C p bad md=yT C p md:=by unfold pX;rw[if_neg k1',if_neg hz9,if_neg hfx]
            rw[hv]
            sym =>
             simp[iC,iD,oO,Za,Zb,Zf,Zh,Zi,Zl,Zm,Zp,Zs,Zv,Zy,ZA,Yc,Yf,Yk,Yl,Yn,Y5,Y8,YA,YC,Xo,We,Wf,Vt,V6,VA,VC,VH,VI,VU,VV,VW,UK,UN,UP,UT,UU,UW,UX,Ta,Tb,Tu,Tx,Ty,Tz,T0,T1,TX,Sr,Su,Sw,Sx,Sy,Sz,S2,S4,S6,S8,S9,Qm,Qn,Qo,Qp,s0,g0,x0,wr,wq,k1,lC,gC,sC,c35,cG,bY,bX,cH,k0,y1,y2,y3,y4]
             tactic =>
              exact t16 hp hC hB (by omega) (by omega) rfl rfl rfl rfl
           ·skip
            rw[hbt]at c35
            have hfx:0≤bad∧bad<p:=by
             rw[Bool.and_eq_true,decide_eq_true_eq,decide_eq_true_eq]at hbt
             omega
            have hv:pX C p bad md=yT (aKf C p bad.toNat) p md:=by unfold pX;rw[if_neg k1',if_neg hz9,if_pos hfx]
            rw[hv]
            obtain⟨k,hk⟩:∃ k:Nat,bad=(k:Int):=⟨bad.toNat,by omega⟩
            subst hk
            have ht:((k:Int)).toNat=k:=rfl
            rw[ht]
            unfold aKf
            have j1:((k:Int)<(n:Int))=True:=eq_true (by omega)
            have f0:=aGq
            have le0:=gU []
            have su:=aFF (C:=C) (k:=k) le0
            have hC1:=sX (k:=k) hC (by omega) le0
            have hB1:=sY (k:=k) hB (mU (l:=[]) (fun i x h=>by simp at h))
            have m0:=aL (dJ [])
            rw[le0]at m0
            have t0:=fC le0
            have gf0:=bF (dJ [])
            generalize setC C k (dJ [])=C1 at *
            have lC1:=aL C1
            rw[hC1]at lC1
            have gC1:=bF C1
            have sC1:=aBO C1
            have f1:=aBs (C:=C1) (k:=p)
            have lf1:=zN hC1 hp
            have cs:=w43 (C:=C1) (n:=p) (by omega) hB1 (by omega)
            rw[bE]at cs
            have ls1:=eV (C:=C1) (n:=p) (by omega) p (Nat.le_refl _)
            have w9:=w45 (t:=94) lf1 ls1 (wZ hB1 p) (qJ p) (by omega)
            rw[bE,bE,bE]at w9
            have w9:runW aB 45 [.agg (bL (eU C1 p)),.agg (bL (dL C1 p)),I 94] []=some (.agg (bL (dA 94 (eU C1 p) (dL C1 p))),[]):=w9
            have lp:=mP (t:=94) (l:=eU C1 p) (m:=dL C1 p) (by rw[lf1,ls1])
            rw[lf1]at lp
            have bp:=qN (t:=94) (l:=eU C1 p) (m:=dL C1 p)
            have su2:=aFF (C:=C1) (k:=k) lp
            have hC2:=sX (k:=k) hC1 (by omega) lp
            have hB2:=sY (k:=k) hB1 bp
            have q1:=aL (eU C1 p)
            rw[lf1]at q1
            have q2:=aL (dL C1 p)
            rw[ls1]at q2
            have q3:=aL (dA 94 (eU C1 p) (dL C1 p))
            rw[lp]at q3
            have g1:=bF (eU C1 p)
            have g2:=bF (dL C1 p)
            have g3:=bF (dA 94 (eU C1 p) (dL C1 p))
            have tk1:=fC lp
            generalize dA 94 (eU C1 p) (dL C1 p)=fp at *
            generalize dL C1 p=fs at *
            generalize eU C1 p=fa at *
            generalize setC C1 k fp=C2 at *
            have kl:(k*40+40≤n*40)=True:=eq_true (by have:(k+1)*40≤n*40:=Nat.mul_le_mul_right _ (by omega);omega)
            sym =>
             simp[iC,iD,oO,Za,Zb,Zc,Zd,Ze,Zf,Zh,Zi,Zl,Zm,Zn,Zp,Zs,Zv,Zy,ZA,ZI,ZM,ZV,ZX,ZY,ZZ,Ya,Yb,Yc,Yf,Yg,Yh,Yk,Yl,Yn,Yw,Y5,Y8,YA,YC,YF,YG,Xo,Xq,Xr,Xu,We,Wf,Wg,Wh,Wk,Ve,Vk,Vm,Vn,Vo,Vp,Vs,Vt,Vw,Vy,V0,V6,V8,V9,VA,VC,VD,VH,VI,VJ,VL,VM,VR,VU,VV,VW,VX,VY,VZ,Ua,Ub,Uc,UK,UN,UO,UP,UT,UU,UW,UX,Ta,Tb,Th,Tl,Tm,Tn,Tp,Tq,Ts,Tu,Tv,Tw,Tx,Ty,Tz,T0,T1,TE,TF,TG,TX,TY,TZ,Sd,Sf,Sg,Sr,Su,Sx,Sy,Sz,S2,S4,S6,S8,S9,SJ,SK,SL,SM,SY,Rb,R4,R8,Qm,Qn,Qo,Qp,Qq,s0,g0,x0,wr,wq,k1,lC,gC,sC,c35,cG,bY,bX,cH,k0,y1,y2,y3,y4,j1,f0,su,m0,t0,gf0,lC1,gC1,sC1,f1,cs,w9,su2,q1,q2,q3,g1,g2,g3,tk1,kl]
             tactic =>
              exact t16 hp hC2 hB2 (by omega) (by omega) rfl rfl rfl rfl
        ·have s0:mS 0 = .nilsl:=rfl
         have g0:mG s 0=[]:=rfl
         have b0:bdS s R 0 = -1:=rfl
         have m0:vV s R 0=0:=rfl
         (exact RT4 s0 g0 b0 m0)
        ·intro i hi
         have i1:((i:Int)<(n:Int))=True:=eq_true (by omega)
         have a2:=oZ hi (by omega)
         have a3:IntKind.i64.wrap ((i:Int)*45)=((i*45:Nat):Int):=by rw[bB (by omega) (by omega)];omega
         have a4:IntKind.i64.wrap (((i:Int)+1)*45)=(((i+1)*45:Nat):Int):=by rw[bB (by omega) (by omega)];omega
         have a5:IntKind.i64.wrap ((R:Int)+(i:Int))=((R+i:Nat):Int):=by rw[bB (by omega) (by omega)];omega
         have hle:(i+1)*45≤s.size:=by rw[←hsz];exact Nat.mul_le_mul_right _ hi
         have a6:(((i+1)*45:Nat):Int)≤(s.size:Int):=by omega
         have a6b:(((i*45:Nat):Int)≤(((i+1)*45:Nat):Int))=True:=eq_true (by omega)
         have hx:lA s (i*45) ((i+1)*45)=rwS s i:=rfl
         have c2:=w42 (s:=rwS s i) (n:=R+i) (xW hle) (by omega)
         have hg:aBp (rwS s i) (R+i)=gdS s R i:=rfl
         rw[hg]at c2
         rw[bE]at c2
         have lf:=aBX (rwS s i)
         have m1:=aL (rdF (rwS s i))
         rw[lf]at m1
         have k5:=fC lf
         have k6:=iA lf
         have g5:=bF (rdF (rwS s i))
         have l0:(bL (nf 0)).length=40:=by rw[aL];exact cZ (by omega)
         have gz:=bF (nf 0)
         have c8:=gO (a:=nf 0) (b:=rdF (rwS s i)) (by rw[lf];exact cZ (by omega))
         have ap:=aHV (FnS s i) (rdF (rwS s i))
         have hF:FnS s i++rdF (rwS s i)=FnS s (i+1):=rfl
         rw[hF]at ap
         have lc:=aL (FnS s i)
         rw[rF]at lc
         have lc1:=aL (FnS s (i+1))
         rw[rF]at lc1
         have gc:=bF (FnS s i)
         have gc1:=bF (FnS s (i+1))
         have ml:=aEO s R i
         have a7:IntKind.i64.wrap (((vV s R i:Nat):Int)+1)=((vV s R i+1:Nat):Int):=by rw[bB (by omega) (by omega)];omega
         have s1:mS (i+1) = .sl 0 0 40 (i+1):=if_neg (by omega)
         have g1:mG s (i+1)=[some (.blk true (.cells true (bL (FnS s (i+1)))))]:=if_neg (by omega)
         have z2':((i+1)*40≤1099511627776)=True:=eq_true (by omega)
         have z3:(i+1≤1099511627776)=True:=eq_true (by omega)
         by_cases hi0:i=0
         ·subst hi0
          have s0:mS 0 = .nilsl:=rfl
          have g0:mG s 0=[]:=rfl
          have b0:bdS s R 0 = -1:=rfl
          have m0:vV s R 0=0:=rfl
          have F1:FnS s (0+1)=rdF (rwS s 0):=rfl
          rw[s1,g1,F1]
          have j1:((0:Int)<(n:Int))=True:=eq_true (by omega)
          have hx':lA s 0 45=rwS s 0:=rfl
          have a8:IntKind.i64.wrap ((R:Int)+0)=(R:Int):=bB (by omega) (by omega)
          have a9:((45:Int)≤(s.size:Int))=True:=eq_true (by omega)
          have wz:IntKind.i64.wrap 45=45:=rfl
          have tz:Int.toNat 45=45:=rfl
          have j4:(0<n)=True:=eq_true (by omega)
          rw[Nat.add_zero]at c2
          cases hg:gdS s R 0 with
          | true =>
            rw[hg]at c2
            have bb:bdS s R (0+1) = -1:=by rw[bdS,hg];rfl
            have mm:vV s R (0+1)=0:=by rw[vV,hg];rfl
            rw[bb,mm]
            generalize rdF (rwS s 0)=f at *
            (exact rJ s0 g0 b0 m0 wz tz j1 j4 hx' c2 a8 a9 m1 k5 k6 g5 l0 gz c8 cG bY bX cH aC aC aC)
          | false =>
            rw[hg]at c2
            have bb:bdS s R (0+1)=0:=by rw[bdS,hg];rfl
            have mm:vV s R (0+1)=1:=by rw[vV,hg];rfl
            rw[bb,mm]
            generalize rdF (rwS s 0)=f at *
            (exact rJ s0 g0 b0 m0 wz tz j1 j4 hx' c2 a8 a9 m1 k5 k6 g5 l0 gz c8 cG bY bX cH aC aC aC)
         ·have s0:mS i = .sl 0 0 40 i:=if_neg hi0
          have g0:mG s i=[some (.blk true (.cells true (bL (FnS s i))))]:=if_neg hi0
          have e45:(i+1)*45=i*45+45:=by omega
          have a3':((i*45:Nat):Int).toNat=i*45:=rfl
          rw[s1,g1]
          cases hg:gdS s R i with
          | true =>
            rw[hg]at c2
            have bb:bdS s R (i+1)=bdS s R i:=by rw[bdS,hg];rfl
            have mm:vV s R (i+1)=vV s R i:=by rw[vV,hg];rfl
            rw[bb,mm]
            generalize FnS s (i+1)=C1 at *
            generalize FnS s i=C0 at *
            generalize rdF (rwS s i)=f at *
            (sym=>(simp[iC,iD,oO,Za,Zb,Zc,Zd,Ze,Zf,Zh,Zl,Zm,Zn,Zo,Zv,Zw,Z8,ZA,ZD,ZN,ZQ,ZU,ZY,ZZ,Yc,Yf,Yj,Yk,Yl,Yp,Yz,Y4,Y6,YA,YF,YG,Xo,Xq,Xu,Xx,XW,We,Wf,Wg,Wh,Wi,Wk,Wn,Ve,Vm,Vn,Vo,Vp,Vt,Vv,Vw,V0,V4,V6,V8,V9,VA,VB,VC,VD,VE,VF,VG,VH,VI,VL,VM,VR,VU,VV,VW,UK,UL,UM,UN,UO,UP,UT,UU,UV,UW,UX,UZ,Ta,Tb,Te,Th,Tl,Tq,Ts,Tt,Tv,Tw,Tx,Ty,Tz,T0,T1,TB,TC,TD,TF,TG,TL,TM,TN,TO,TR,TS,TT,TV,TW,TY,TZ,Sd,Sf,Sg,Sk,Sl,Sm,Sn,Sr,Su,Sw,Sy,Sz,S4,S7,S8,S9,SN,SO,SP,SQ,SZ,Rc,Qm,Qn,Qo,Qp,s0,g0,i1,a2,a3,a4,a5,a6,a6b,hx,c2,m1,k5,k6,g5,l0,gz,c8,ap,lc,lc1,gc,gc1,z2',z3,cG,bY,bX,cH];all_goals tactic=>exact rfl))
          | false =>
            rw[hg]at c2
            have bb:bdS s R (i+1)=(i:Int):=by rw[bdS,hg];rfl
            have mm:vV s R (i+1)=vV s R i+1:=by rw[vV,hg];rfl
            rw[bb,mm]
            generalize FnS s (i+1)=C1 at *
            generalize FnS s i=C0 at *
            generalize rdF (rwS s i)=f at *
            generalize vV s R i=md at *
            (sym=>(simp[iC,iD,oO,Za,Zb,Zc,Zd,Ze,Zf,Zh,Zl,Zm,Zn,Zo,Zv,Zw,Z8,ZA,ZD,ZN,ZQ,ZU,ZY,ZZ,Yc,Yf,Yj,Yk,Yl,Yp,Yz,Y4,Y6,YA,YF,YG,Xo,Xq,Xu,Xx,XW,We,Wf,Wg,Wh,Wi,Wk,Wn,Ve,Vm,Vn,Vo,Vp,Vt,Vv,Vw,V0,V4,V6,V8,V9,VA,VB,VC,VD,VE,VF,VG,VH,VI,VL,VM,VR,VU,VV,VW,UK,UL,UM,UN,UO,UT,UU,UV,UW,UX,UZ,Ta,Tb,Te,Th,Tm,Tq,Ts,Tt,Tv,Tw,Tx,Ty,Tz,T0,T1,TB,TC,TD,TF,TG,TL,TM,TN,TO,TR,TS,TT,TV,TW,TY,TZ,Sd,Sf,Sg,Sk,Sl,Sm,Sn,Sr,Su,Sw,Sy,Sz,S4,S7,S8,S9,SN,SO,SP,SQ,SZ,Rc,Qm,Qn,Qo,Qp,s0,g0,i1,a2,a3,a4,a5,a6,a6b,a7,hx,c2,m1,k5,k6,g5,l0,gz,c8,ap,lc,lc1,gc,gc1,z2',z3,cG,bY,bX,cH];all_goals tactic=>exact rfl))
        ·have e0:((n:Int)<(n:Int))=False:=eq_false (by omega)
         (exact RT1 e0)
   ·have h0':=of_eq_false h0
    have z0:(((s.size%45:Nat):Int)=0)=False:=eq_false (by omega)
    have hv:mnV s row=erV 20:=by unfold mnV;rw[hb,if_pos rfl,if_pos (Or.inl h0')]
    rw[hv];unfold erV
    generalize s.size%45=rm at *
    generalize s.size/45=n at *
    (exact RT5 c1 d1 d2 d3 z0)
theorem aId (a b:ByteArray):eZ BinOp.neq a b=some (.bool (!decide (a=b))):=by
 show some (AV.bool (!(a.toList==b.toList)))=_
 rw[aFB,aFB]
 congr 3
 cases a with
 | mk x =>
   cases b with
   | mk y =>
     cases x with
     | mk x =>
       cases y with
       | mk y =>
         show (x==y)=decide ((⟨⟨x⟩⟩:ByteArray)=⟨⟨y⟩⟩)
         by_cases h:x=y
         ·subst h;simp
         ·have:¬((⟨⟨x⟩⟩:ByteArray)=⟨⟨y⟩⟩):=fun hh=>h (by injection hh with h1;injection h1)
          simp[h]
theorem aCw (s:ByteArray):(bN s).length=s.size:=by
 unfold bN;rw[List.length_map,Array.length_toList];rfl
end Go.Proofs.YtmapgnepfgnphaaGreatDoor
namespace Go.Proofs.YtmapgnepfgnphaaGreatDoor
open Go Go.DL
theorem aKD (a b:ByteArray):bN (a++b)=bN a++bN b:=by
 unfold bN
 rw[ByteArray.data_append,Array.toList_append,List.map_append]
theorem aFp {l:List Nat} (h:xC l):bN (nBy l)=l:=by
 unfold bN nBy
 rw[List.map_map]
 apply List.ext_getElem?
 intro i
 rw[List.getElem?_map]
 cases hx:l[i]? with
 | none=>rfl
 | some x =>
   have:=h i x hx
   simp only[Option.map_some,Function.comp]
   rw[UInt8.toNat_ofNat',Nat.mod_eq_of_lt this]
theorem aEM (s:ByteArray):nBy (bN s)=s:=by
 unfold bN nBy
 rw[List.map_map]
 cases s with
 | mk d =>
   cases d with
   | mk l =>
     congr 2
     conv=>rhs;rw[←List.map_id l]
     apply List.map_congr_left
     intro b _
     simp
theorem aFq (s:ByteArray) (a b:Nat):bN (lA s a b)=((bN s).drop a).take (b-a):=by
 unfold bN lA
 simp only[List.map_take,List.map_drop]
def rwL (b:List Nat) (i:Nat):List Nat:=(b.drop (i*45)).take 45
def fdL (r:List Nat):List Nat:=(r.drop 4).take 40
def prL (f:List Nat):Bool:=f.all fun x=>decide (32≤x)&&decide (x≤126)
def okL (n:Nat) (r:List Nat):Bool:=prL (fdL r)&&decide (r=lG n (fdL r))
theorem aMQ (s:ByteArray) (i:Nat):bN (rwS s i)=rwL (bN s) i:=by
 unfold rwS rwL
 rw[aFq]
 congr 1;omega
theorem aBE:∀ l:List UInt8,oN l = !prL (l.map UInt8.toNat)
 | []=>rfl
 | x::l=>by
   have ih:=aBE l
   show (decide (x.toNat<32)||(decide (126<x.toNat)||oN l)) = !((decide (32≤x.toNat)&&decide (x.toNat≤126))&&prL (l.map UInt8.toNat))
   rw[ih,Bool.not_and,Bool.not_and,←decide_not,←decide_not]
   simp only[Nat.not_le,Bool.or_assoc]
theorem aLO {l:List Nat} (h:l.length=40):dJ l=l:=by
 unfold dJ
 rw[List.take_of_length_le (by omega),h];simp
theorem aMU {s:ByteArray} (h:s.size=45):rdF s=fdL (bN s):=by
 unfold rdF txB fdL
 rw[aFq,aLO]
 simp[aCw,h]
theorem yB {n:Nat} {f:List Nat} (h:xC f):xC (lG n f):=by
 intro i x hx
 unfold lG at hx
 have hm:=List.mem_of_getElem? hx
 have hc:zX n f<9973:=Nat.mod_lt _ (by decide)
 simp only[rH,List.mem_append,List.mem_cons,List.not_mem_nil,or_false]at hm
 rcases hm with (h1|h1|h1|h1)|h1|h1
 ·omega
 ·omega
 ·omega
 ·omega
 ·obtain⟨j,hj⟩:=List.getElem?_of_mem h1
  exact h j x hj
 ·omega
theorem aMj {r:List Nat} (h:xC r):xC (fdL r):=by
 intro i x hx
 unfold fdL at hx
 rw[List.getElem?_take]at hx
 split at hx
 ·rw[List.getElem?_drop]at hx;exact h _ _ hx
 ·cases hx
theorem aEl (a b:ByteArray):(a.toList==b.toList)=decide (bN a=bN b):=by
 rw[aFB,aFB]
 by_cases h:bN a=bN b
 ·have:a=b:=by rw[←aEM a,←aEM b,h]
  subst this;simp
 ·have:¬a.data.toList=b.data.toList:=fun hh=>h (by unfold bN;rw[hh])
  rw[decide_eq_false h]
  exact beq_eq_false_iff_ne.2 this
theorem aMa {s:ByteArray} {n:Nat} (h:s.size=45):aBp s n=okL n (bN s):=by
 unfold aBp okL
 have e1:bN (txB s)=fdL (bN s):=by unfold txB fdL;rw[aFq]
 have e2:(txB s).data.toList.map UInt8.toNat=fdL (bN s):=e1
 rw[aBE,e2,Bool.not_not,aEl,aMU h,aFp (yB (aMj (aCx s)))]
 congr 1
 exact decide_eq_decide.2 ⟨fun h=>h.symm,fun h=>h.symm⟩
theorem aTx {s:ByteArray} {n i:Nat} (h:(i+1)*45≤s.size):gdS s n i=okL (n+i) (rwL (bN s) i):=by
 unfold gdS
 rw[aMa (xW h),aMQ]
theorem aGn {C D:List Nat} {n k:Nat} (hC:C.length=n*40) (hk:k<n):eU (C++D) k=eU C k:=by
 have:(k+1)*40≤n*40:=Nat.mul_le_mul_right _ hk
 unfold eU
 rw[List.drop_append_of_le_length (by omega),List.take_append_of_le_length (by simp;omega)]
theorem aDJ {C f:List Nat} {n:Nat} (hC:C.length=n*40) (hf:f.length=40):eU (C++f) n=f:=by
 unfold eU
 rw[List.drop_append,List.drop_eq_nil_of_le (by omega),hC,Nat.sub_self,List.nil_append,List.drop_zero,List.take_of_length_le (by omega)]
theorem aKO {s:ByteArray}:∀ {n k:Nat},k<n→n*45≤s.size→eU (FnS s n) k=fdL (rwL (bN s) k)
 | 0,_,h,_=>absurd h (by omega)
 | n+1,k,h,hs=>by
   rw[FnS]
   by_cases hk:k<n
   ·rw[aGn (rF s n) hk]
    exact aKO hk (by omega)
   ·have:k=n:=by omega
    subst this
    rw[aDJ (rF s k) (aBX _),aMU (xW hs),aMQ]
theorem aDW {s:ByteArray} {n:Nat}:∀ {k:Nat},(∀ i,i<k→gdS s n i=true)→vV s n k=0∧bdS s n k = -1
 | 0,_=>⟨rfl,rfl⟩
 | k+1,h=>by
   obtain⟨h1,h2⟩:=aDW (k:=k) fun i hi=>h i (by omega)
   have hk:=h k (by omega)
   rw[vV,bdS,hk]
   exact⟨h1,h2⟩
def aMo (C:List Nat) (j:Nat):Nat→Nat
 | 0=>0
 | k+1=>aMo C j k+hZ ((eU C k).getD j 0)
theorem aOY {y:Nat} (h:y<95):hZ (32+y)=y:=by unfold hZ;omega
theorem aDh {t:Nat}:∀ {f o:List Nat} {j x y:Nat},f[j]?=some x→o[j]?=some y→(dA t f o)[j]?=some (pv t x y)
 | [],_,_,_,_,h,_=>by simp at h
 | _::_,[],_,_,_,_,h=>by simp at h
 | a::f,b::o,0,x,y,h1,h2=>by
   simp only[List.getElem?_cons_zero,oSI]at h1 h2
   subst h1 h2;rfl
 | a::f,b::o,j+1,x,y,h1,h2=>by
   simp only[List.getElem?_cons_succ]at h1 h2
   rw[dA,List.getElem?_cons_succ]
   exact aDh h1 h2
theorem aMb {l:List Nat} {j:Nat} (h:j<l.length):l[j]?=some (l.getD j 0):=by
 rw[List.getD_eq_getElem?_getD,List.getElem?_eq_getElem h];rfl
theorem aIh {C:List Nat} {n j:Nat} (hC:n*40≤C.length) (hj:j<40):∀ {k},k≤n→(dL C k)[j]?=some (32+aMo C j k%95)
 | 0,_=>by
   have:dL C 0=List.replicate 40 32:=rfl
   rw[this,List.getElem?_replicate,if_pos hj];rfl
 | k+1,hk=>by
   have ih:=aIh hC hj (k:=k) (by omega)
   have hf:=aMb (l:=eU C k) (j:=j) (by rw[qW hC (by omega)];exact hj)
   rw[dL,aDh ih hf]
   unfold pv
   rw[aMo,aOY (Nat.mod_lt _ (by decide))]
   congr 2;omega
theorem yA {n:Nat} {f:List Nat} (h:f.length=40):(lG n f).length=45:=by simp[lG,rH,h]
theorem aFL {n:Nat} {f:List Nat} (h:f.length=40):fdL (lG n f)=f:=by
 unfold fdL lG
 rw[List.drop_append_of_le_length (by simp[rH])]
 have:List.drop 4 (rH (zX n f))=[]:=rfl
 rw[this,List.nil_append,List.take_append_of_le_length (by omega),List.take_of_length_le (by omega)]
theorem aJw {n:Nat} {f:List Nat} (h:f.length=40) (hp:prL f=true):okL n (lG n f)=true:=by
 unfold okL
 rw[aFL h,hp,decide_eq_true rfl];rfl
def pgL:Nat→List (List Nat)→List Nat
 | _,[]=>[]
 | n,f::F=>lG n f++pgL (n+1) F
theorem aLH {F:List (List Nat)} (h:∀ f∈F,f.length=40) (n:Nat):(pgL n F).length=F.length*45:=by
 induction F generalizing n with
 | nil=>rfl
 | cons f F ih =>
   rw[pgL,List.length_append,yA (h f (by simp)),ih (fun g hg=>h g (by simp[hg])),List.length_cons]
   omega
theorem aOs {F:List (List Nat)} (h:∀ f∈F,f.length=40) {n i:Nat} {f:List Nat} (hi:F[i]?=some f):rwL (pgL n F) i=lG (n+i) f:=by
 induction F generalizing n i with
 | nil=>simp at hi
 | cons g F ih =>
   have lg:=yA (n:=n) (h g (by simp))
   cases i with
   | zero =>
     simp only[List.getElem?_cons_zero,oSI]at hi
     subst hi
     unfold rwL
     rw[pgL,Nat.zero_mul,List.drop_zero,List.take_append_of_le_length (by omega),List.take_of_length_le (by omega),Nat.add_zero]
   | succ i =>
     simp only[List.getElem?_cons_succ]at hi
     have:=ih (fun g hg=>h g (by simp[hg])) (n:=n+1) hi
     unfold rwL at this ⊢
     rw[pgL,List.drop_append,List.drop_eq_nil_of_le (by omega),List.nil_append,lg,show (i+1)*45-45=i*45 by omega,this]
     congr 1;omega
theorem yR {f:List Nat}:∀ {F:List (List Nat)} {n:Nat},pgL n (F++[f])=pgL n F++lG (n+F.length) f
 | [],n=>by simp[pgL]
 | g::F,n=>by
   rw[List.cons_append,pgL,yR,pgL,List.append_assoc,List.length_cons]
   congr 3;omega
theorem aNq {ls:List ByteArray} {row:Nat}:∀ {i},i≤ls.length→bN (Bn ls row i)=pgL row ((ls.take i).map rY)
 | 0,_=>rfl
 | i+1,h=>by
   obtain⟨s,hs⟩:=qH (l:=ls) (i:=i) (by omega)
   rw[aPr hs,aKD,aNq (by omega),List.take_add_one,hs,List.map_append]
   show _=pgL row ((ls.take i).map rY++[rY s])
   rw[yR,List.length_map,List.length_take,Nat.min_eq_left (by omega)]
   unfold rwB
   rw[aFp (yB (aCj s))]
def jO (ls:List ByteArray):List (List Nat):=ls.map rY++[dL (Cn ls ls.length) ls.length]
theorem aNp {ls:List ByteArray} {row:Nat}:bN (pgB ls row)=pgL row (jO ls):=by
 unfold pgB jO
 rw[aKD,aNq (Nat.le_refl _),List.take_of_length_le (Nat.le_refl _),yR,List.length_map]
 unfold rwB
 rw[aFp (yB (qJ _))]
theorem aJI {s:ByteArray} (h:lnE s=0):s.size≤40∧s.size≠0∧oN s.data.toList=false∧Lib.hasSuffix s.data.toList [32]=false:=by
 unfold lnE at h
 split at h
 ·exact absurd h (by decide)
 ·rename_i h1
  split at h
  ·exact absurd h (by decide)
  ·rename_i h2
   simp only[Bool.or_eq_true,not_or,Bool.not_eq_true,decide_eq_false_iff_not]at h2
   exact⟨by omega,h2.1,h2.2.1,h2.2.2⟩
theorem aLU {s:ByteArray} (h:lnE s=0):prL (bN s)=true:=by
 have h1:=(aJI h).2.2.1
 rw[aBE]at h1
 have:prL (s.data.toList.map UInt8.toNat)=true:=by
  cases hx:prL (s.data.toList.map UInt8.toNat)with
  | true=>rfl
  | false=>rw[hx]at h1;cases h1
 exact this
theorem aLN {l:List Nat} (h:prL l=true):prL (dJ l)=true:=by
 unfold dJ prL at *
 rw[List.all_append,Bool.and_eq_true]
 refine⟨List.all_eq_true.2 fun x hx=>List.all_eq_true.1 h x (List.mem_of_mem_take hx),List.all_eq_true.2 fun x hx=>?_⟩
 rw[List.eq_of_mem_replicate hx];rfl
theorem aOG {s:ByteArray} (h:lnE s=0):prL (rY s)=true:=aLN (aLU h)
theorem aPi (s:ByteArray):(bN s).map UInt8.ofNat=s.data.toList:=by
 have:=aEM s
 unfold nBy at this
 have h:=congrArg (fun x=>x.data.toList) this
 exact h
theorem aLT {s:ByteArray} (h:lnE s=0):lnB (rY s)=s:=by
 obtain⟨h1,h2,_,h3⟩:=aJI h
 have hl:s.data.toList.length=s.size:=by rw[Array.length_toList];rfl
 unfold lnB rY dJ
 have e:(List.take 40 (bN s)++List.replicate (40-(bN s).length) 32).map UInt8.ofNat=s.data.toList++List.replicate (40-s.size) 32:=by
  rw[List.take_of_length_le (by rw[aCw];omega),List.map_append,aPi,aCw,List.map_replicate];rfl
 rw[e,Lib.trimRightB_take _ _ s.size (by rw[List.length_append,hl];omega)]
 ·rw[List.take_append_of_le_length (by omega),List.take_of_length_le (by omega)]
 ·intro j b hj hb
  rw[List.getElem?_append_right (by omega)]at hb
  rw[List.getElem?_replicate]at hb
  split at hb
  ·simp only[oSI]at hb;exact hb.symm
  ·cases hb
 ·intro b hk hb hb32
  subst hb32
  rw[List.getElem?_append_left (by omega)]at hb
  have:Lib.hasSuffix s.data.toList [32]=true:=by
   unfold Lib.hasSuffix
   rw[List.isSuffixOf_iff_suffix]
   refine⟨s.data.toList.take (s.size-1),?_⟩
   obtain⟨k1,k2⟩:=List.getElem?_eq_some_iff.1 hb
   have hd:=List.drop_eq_getElem_cons k1
   have hd2:s.data.toList.drop (s.size-1+1)=[]:=List.drop_eq_nil_of_le (by omega)
   rw[k2,hd2]at hd
   rw[←hd,List.take_append_drop]
  rw[this]at h3;cases h3
theorem aNX {C:List Nat} {n k:Nat} (hC:n*40≤C.length) (hk:k≤n):prL (dL C k)=true:=by
 refine List.all_eq_true.2 fun x hx=>?_
 obtain⟨j,hj⟩:=List.getElem?_of_mem hx
 have lj:j<(dL C k).length:=(List.getElem?_eq_some_iff.1 hj).1
 rw[eV hC k hk]at lj
 rw[aIh hC lj hk]at hj
 simp only[oSI]at hj
 have:=Nat.mod_lt (aMo C j k) (show 0<95 by decide)
 simp;omega
theorem aIg {C D:List Nat}:∀ {k},(∀ i,i<k→eU C i=eU D i)→dL C k=dL D k
 | 0,_=>rfl
 | k+1,h=>by rw[dL,dL,aIg fun i hi=>h i (by omega),h k (by omega)]
theorem aKm {ls:List ByteArray}:∀ {n i:Nat} {s:ByteArray},n≤ls.length→i<n→ls[i]?=some s→eU (Cn ls n) i=rY s
 | 0,_,_,_,h,_=>absurd h (by omega)
 | n+1,i,s,hn,h,hs=>by
   obtain⟨u,hu⟩:=qH (l:=ls) (i:=n) (by omega)
   rw[aMD hu]
   by_cases hi:i<n
   ·rw[aGn (mA (by omega)) hi]
    exact aKm (by omega) hi hs
   ·have:i=n:=by omega
    subst this
    rw[hs]at hu
    cases hu
    exact aDJ (mA (by omega)) (qQ s)
section
variable {ls:List ByteArray} {n:Nat} {s:ByteArray}
def lst (ls:List ByteArray):List Nat:=dL (Cn ls ls.length) ls.length
theorem aMg {i:Nat} {l:ByteArray} (h:ls[i]?=some l):(jO ls)[i]?=some (rY l):=by
 have hi:i<ls.length:=(List.getElem?_eq_some_iff.1 h).1
 unfold jO
 rw[List.getElem?_append_left (by simpa using hi),List.getElem?_map,h];rfl
theorem aHr:(jO ls)[ls.length]?=some (lst ls):=by
 unfold jO
 rw[List.getElem?_append_right (by simp)]
 simp[lst]
theorem aLR:(lst ls).length=40:=eV (n:=ls.length) (by rw[mA (Nat.le_refl _)];exact Nat.le_refl _) _ (Nat.le_refl _)
theorem aOD:prL (lst ls)=true:=aNX (n:=ls.length) (by rw[mA (Nat.le_refl _)];exact Nat.le_refl _) (Nat.le_refl _)
theorem uE:∀ f∈jO ls,f.length=40:=by
 intro f hf
 unfold jO at hf
 rcases List.mem_append.1 hf with h|h
 ·obtain⟨x,_,rfl⟩:=List.mem_map.1 h
  exact qQ x
 ·simp only[List.mem_singleton]at h
  rw[h];exact aLR
theorem aMf (gl:∀ l∈ls,lnE l=0):∀ f∈jO ls,prL f=true:=by
 intro f hf
 unfold jO at hf
 rcases List.mem_append.1 hf with h|h
 ·obtain⟨x,hx,rfl⟩:=List.mem_map.1 h
  exact aOG (gl x hx)
 ·simp only[List.mem_singleton]at h
  rw[h];exact aOD
theorem aEY:(jO ls).length=ls.length+1:=by simp[jO]
def rwO (ls:List ByteArray) (n i:Nat):List Nat:=lG (n+i) ((jO ls).getD i [])
theorem aEZ {i:Nat} (hi:i≤ls.length):(jO ls).getD i []∈jO ls:=by
 rw[List.getD_eq_getElem?_getD,List.getElem?_eq_getElem (by rw[aEY];omega)]
 exact List.getElem_mem _
theorem aKe {i:Nat} {l:ByteArray} (h:ls[i]?=some l):(jO ls).getD i []=rY l:=by rw[List.getD_eq_getElem?_getD,aMg h];rfl
theorem aOT:(jO ls).getD ls.length []=lst ls:=by rw[List.getD_eq_getElem?_getD,aHr];rfl
theorem aOf {i:Nat} (hi:i≤ls.length):fdL (rwO ls n i)=(jO ls).getD i []:=aFL (uE _ (aEZ hi))
theorem aOe (gl:∀ l∈ls,lnE l=0) {i:Nat} (hi:i≤ls.length):okL (n+i) (rwO ls n i)=true:=aJw (uE _ (aEZ hi)) (aMf gl _ (aEZ hi))
theorem aOd {i:Nat} (hi:i≤ls.length):rwL (bN (pgB ls n)) i=rwO ls n i:=by
 rw[aNp]
 unfold rwO
 have:(jO ls)[i]?=some ((jO ls).getD i []):=by
  rw[List.getD_eq_getElem?_getD,List.getElem?_eq_getElem (by rw[aEY];omega)];rfl
 exact aOs uE this
theorem aLG:(pgB ls n).size=(ls.length+1)*45:=by
 rw[←aCw,aNp,aLH uE,aEY]

theorem aOB (h1:1≤ls.length) (h5:ls.length≤5) (hn:n≤1000) (hz:s.size=(ls.length+1)*45) :
 mnV s (n:Int)=pX (FnS s (ls.length+1)) ls.length (bdS s n (ls.length+1)) (vV s n (ls.length+1)):=by
 have e1:s.size%45=0:=by omega
 have e2:s.size/45=ls.length+1:=by omega
 have hb:(decide ((0:Int)≤(n:Int))&&decide ((n:Int)≤1000))=true:=by simp;omega
 unfold mnV
 rw[if_pos hb,e1,e2,if_neg (by omega),if_neg (by omega)]
 rfl
theorem aTB (hz:s.size=(ls.length+1)*45) {i:Nat} (hi:i≤ls.length) (hr:rwL (bN s) i=rwO ls n i):eU (FnS s (ls.length+1)) i=(jO ls).getD i []:=by
 rw[aKO (by omega) (by omega),hr,aOf hi]
theorem aOF (gl:∀ l∈ls,lnE l=0) {C:List Nat} (h:∀ i,i<ls.length→eU C i=(jO ls).getD i []):wK C ls.length=ls:=by
 unfold wK
 apply List.ext_getElem?
 intro i
 rw[List.getElem?_map]
 by_cases hi:i<ls.length
 ·obtain⟨l,hl⟩:=qH hi
  rw[List.getElem?_range hi,Option.map_some,h i hi,aKe hl,aLT (gl l (List.mem_of_getElem? hl)),hl]
 ·rw[List.getElem?_eq_none (by simpa using hi),List.getElem?_eq_none (by omega)];rfl
theorem aOv (gl:∀ l∈ls,lnE l=0) {C:List Nat} {md:Nat} (h:∀ i,i<ls.length→eU C i=(jO ls).getD i []):yT C ls.length md = .tup [.fs (rS ls),I (md:Nat),I 0]:=by
 unfold yT
 rw[aOF gl h]
 have hc:Lib.containsS ls emB=false:=by
  cases hx:Lib.containsS ls emB with
  | false=>rfl
  | true =>
    have:=(Lib.containsS_iff ls emB).1 hx
    exact absurd rfl (aJI (gl _ this)).2.1
 rw[hc];rfl
theorem aIf {C:List Nat} (h:∀ i,i<ls.length→eU C i=(jO ls).getD i []):dL C ls.length=lst ls:=by
 unfold lst
 refine aIg fun i hi=>?_
 obtain⟨l,hl⟩:=qH hi
 rw[h i hi,aKe hl,aKm (Nat.le_refl _) hi hl]
theorem aLQ (gl:∀ l∈ls,lnE l=0) (h1:1≤ls.length) (h5:ls.length≤5) (hn:n≤1000) (hz:s.size=(ls.length+1)*45) (h:∀ i,i≤ls.length→rwL (bN s) i=rwO ls n i) :
 mnV s (n:Int) = .tup [.fs (rS ls),I 0,I 0]:=by
 rw[aOB h1 h5 hn hz]
 obtain⟨e1,e2⟩:=aDW (s:=s) (n:=n) (k:=ls.length+1) fun i hi=>by
  have:(i+1)*45≤(ls.length+1)*45:=Nat.mul_le_mul_right _ hi
  rw[aTx (by omega),h i (by omega),aOe gl (by omega)]
 have hf:∀ i,i≤ls.length→eU (FnS s (ls.length+1)) i=(jO ls).getD i []:=fun i hi=>aTB hz hi (h i hi)
 unfold pX
 rw[e1,e2,if_neg (by omega),if_neg,if_neg (by omega),aOv gl fun i hi=>hf i (by omega)]
 ·rfl
 ·rw[aIf fun i hi=>hf i (by omega),hf _ (Nat.le_refl _),aOT]
  exact fun hh=>hh.2 rfl
end
section
variable {ls:List ByteArray} {n:Nat}
theorem aLP (gl:∀ l∈ls,lnE l=0) (h1:1≤ls.length) (h5:ls.length≤5) (hn:n≤1000):mnV (pgB ls n) (n:Int) = .tup [.fs (rS ls),I 0,I 0] :=
 aLQ gl h1 h5 hn aLG fun i hi=>aOd hi
end
end Go.Proofs.YtmapgnepfgnphaaGreatDoor
namespace Go.Proofs.YtmapgnepfgnphaaGreatDoor
open Go Go.DL
set_option maxRecDepth 100000
set_option maxHeartbeats 4000000
end Go.Proofs.YtmapgnepfgnphaaGreatDoor
namespace Go.Proofs.YtmapgnepfgnphaaGreatDoor
open Go Go.DL Go.ChangeShapes Go.WideShapes Go.ChangeAt Go.RowKit
set_option maxRecDepth 100000
theorem yH {H:Type} {enc:TypeId×Value→H} {a:Assume} {C:Checked} {os:Os} {f:FuncId} {fn:Func} {s:ChangeSpec} {X:World→Array Value→Prop}
 (hX:∀ (w w':World) (args:Array Value),w.heap=w'.heap→X w args→X w' args)
 (own:ownKnob C.prog.godebug=none) (started:os.Started) (noInit:C.prog.inits.idxOf? f=none) (hfn:C.prog.funcs[f]?=some fn)
 (witness:∃ (w:World) (tape:Tape) (i:Input),w.os=os∧(w.forCall tape i).Shaped C.prog∧i.vars=[]∧Input.okWide C.prog (w.forCall tape i) .any w.heap.size f i ∧
  ((s.pre enc C.prog fn [] false (w.forCall tape i).memory i.args∧X (w.forCall tape i).memory i.args)∧sizedMet enc C.prog fn (OpenSpec.ofChange s) false (w.forCall tape i).memory i.args)∧a.holds C.prog (lone (Frame.enter C.prog f i.args .normal) [] (w.forCall tape i)))
 (contract:∀ (W:World) (base:Nat) (args:Array Value) (ds gs:List (DataW H)) (before:List MemPlace),
  (∀ (j:Nat) t v,fn.params[j]?=some t→args[j]?=some v→Value.okWide C.prog W .any base t v) →
  DataW.Whole enc C.prog fn.params.toList s.vars false W args.toList ds gs before→X W args→W.ShapedOpen C.prog →
  Calls C.prog f args W fun e W'=>∃ v,e = .returned v∧s.post enc C.prog fn false true false false W args v W') :
 ReturnsInHanded a C os f .any (fun w args=>(s.pre enc C.prog fn [] false w args∧X w args)∧sizedMet enc C.prog fn (OpenSpec.ofChange s) false w args) (s.post enc C.prog fn false true false false):=by
 refine returnsInHanded_of_calls own started noInit witness ?_
 rintro w tape i _ hsh _ ⟨_,_,_,fn',hfn',_,_,_,_,hval⟩ ⟨⟨⟨ds,gs,before,hw,_⟩,hx⟩,_⟩ _
 cases hfn'.symm.trans hfn
 exact(contract _ _ _ ds gs before hval (DataW.Whole.of_heap (by rfl) hw) (hX _ _ _ (by rfl) hx) hsh).mono fun e W' ⟨v,he,hp⟩=>by
  subst he
  exact ChangeSpec.post_blind hp
theorem aOJ {k:IntKind} {a:AV} (h:Sh (.int k) a):∃ n,a = .int k n∧(Lit.int k n).wf=true:=by cases h;exact⟨_,rfl,by assumption⟩
theorem aQI {n:Int} (h:(Lit.int .u8 n).wf=true):∃ m:Nat,n=(m:Int)∧m<256:=by
 simp[Lit.wf,IntKind.bits,IntKind.signed,IntKind.min,IntKind.max]at h
 exact⟨n.toNat,by omega,by omega⟩
theorem aKF {F:Nat→Prop} {w:World}:Args F w [] #[]:=⟨rfl,fun i a' v' h1 h2=>by simp at h1⟩
theorem aHF {F:Nat→Prop} {w:World} {a:AV} {v:Value} {xs:List AV} {vs:List Value} (h:Rv F w a v) (hs:Args F w xs vs.toArray):Args F w (a::xs) (v::vs).toArray:=by
 refine⟨by have:=hs.1;simp at this ⊢;exact this,fun i a' v' h1 h2=>?_⟩
 match i with
 | 0=>simp at h1 h2;rw[←h1,←h2];exact h
 | i+1 =>
   simp at h1 h2
   exact hs.2 i a' v' h1 (by simpa using h2)
end Go.Proofs.YtmapgnepfgnphaaGreatDoor
