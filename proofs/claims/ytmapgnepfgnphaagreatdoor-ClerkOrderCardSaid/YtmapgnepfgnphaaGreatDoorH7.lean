/- Parts of a proof, joined: GT SH Z1 Z2 Z3 Z5 Z6 Y0 Y1 Z4 W1 W2 W3 W4 W5 W6 W7 W8 W9 W10 WA V1 V2 V3 WY WZ Z7 PF F0 K1 K2 K3 K4 K5 K6 K7 K8 K9 K10 K11 K12 P1 P2 P3 P4 P5 P6 K13 LB P7 K15 Q1 Q2 Q3 Q4 Q5 Q6 Q7 Q8 Q9 Q10 Q11 Q12 Q13 Q14 Q15 Q16. No statement of the seed is proved here. -/
import Derived.Shelf.Strings.Builder1
import Derived.Shelf.Strings.Builder2
import Derived.Shelf.Strings.OnBuilder
import Derived.Shelf.Strings.Trim
import Derived.Shelf.Small.Utf8
import Derived.Shelf.Small.Strs
import Derived.Shelf.Small.Wraps
import Derived.Shelf.Strings.BuilderF
import Derived.Shelf.Strings.BuilderK
import Derived.Shelf.Strconv.Atoi
import Derived.Shelf.Strconv.Itoa0
import Derived.Shelf.Strconv.Itoa1
import Derived.Shelf.LaysM
import Derived.Shelf.Strconv.Itoa2
import Derived.Shelf.Strconv.Itoa3
import Derived.Shelf.Strconv.AtoiErrFast
import Derived.Shelf.Strconv.ParseIntEmpty
import Derived.Shelf.Strconv.AtoiFail
import Derived.Shelf.Strconv.Clone
import Derived.Shelf.Strconv.SyntaxError
import Derived.Shelf.LaysC
import Derived.Shelf.Strconv.ToError
import Derived.Shelf.Strconv.Lower
import Derived.Shelf.Strconv.ParseUint10
import Derived.Shelf.Strconv.ParseUint10Empty
import Derived.Shelf.Strconv.ParseUint10Any
import Derived.Shelf.Strconv.ParseInt10
import Derived.Shelf.Strconv.AtoiLong
import Derived.Shelf.Strconv.AtoiInnerAll
import Derived.Shelf.Strconv.RangeError
import Derived.Shelf.Strconv.ToErrorRange
import Derived.Shelf.Strconv.AtoiAll
import Derived.Shelf.Strings.Search1
import Derived.Shelf.Strings.Search2
import Derived.Shelf.Strings.Search3
import Derived.Shelf.Strings.Count
import Derived.Shelf.Strings.Shaped
import Derived.Shelf.GgClosure.StringsIndexFunc
import Derived.Ground.GgwProg
import Derived.Shelf.GgClosure.StringsIndexFuncTop
import Derived.Shelf.GgClosure.StringsRunes
import Derived.Shelf.Strings.Prefix
import Derived.Shelf.Strings.Split
import Derived.Shelf.Strings.SplitShaped
import Derived.Shelf.Unicode.Decode
import Derived.Shelf.Strings.Runes
import Derived.Shelf.Strings.RuneCount
import Derived.Shelf.Strings.AsciiSet
import Derived.Shelf.Strings.Explode
import Derived.Shelf.Bits.Mul64
import Derived.Shelf.Strings.Repeat
import Derived.Shelf.Unicode.DecodeSlow
import Derived.Shelf.Unicode.DecodeAny
import Derived.Shelf.Unicode.DecodeLast
import Derived.Shelf.Strings.FuncGrows
import Derived.Shelf.Slices.Turned
import Derived.Test.YtmapgnepfgnphaaGreatDoorProg
import Derived.KernelRfl
import Derived.Lib.AtoiAllCases
import Derived.Test.YtmapgnepfgnphaaGreatDoorH6
set_option linter.unusedSimpArgs false
set_option linter.unusedVariables false
set_option linter.unusedSectionVars false
namespace Go.Proofs.YtmapgnepfgnphaaGreatDoor
open Go Go.DL Go.Proofs.Tryz

def aQE:List (Nat×XFn):=[(11,x11),(13,x13),(14,x14),(16,x16),(18,x18),(19,x19),(23,x23),(25,x25),(31,x31),(33,x33),(34,x34),(35,x35),(36,x36),(38,x38),(42,x42),(43,x43),(44,x44),(45,x45),(46,x46),(52,x52),(53,x53),(54,x54),(55,x55),(58,x58),(59,x59),(60,x60),(61,x61),(62,x62),(69,x69),(70,x70),(73,x73),(75,x75),(77,x77),(84,x84),(85,x85),(86,x86),(87,x87),(88,x88),(89,x89),(90,x90),(91,x91),(92,x92),(93,x93),(94,x94),(95,x95),(96,x96),(97,x97),(98,x98),(116,aQs),(119,aQr),(126,aQq),(127,aQp),(128,aAb),(129,aCG),(130,aQo),(131,aQn),(132,aQm),(133,aQl),(134,aQk),(135,aQj),(136,aQi),(137,aLl),(154,aQg),(155,aQf),(156,aQe),(157,aQd),(158,aQc),(159,aLk),(160,aLj),(175,aPZ),(179,aPY),(180,aPX),(181,aPW),(182,aLi),(183,aLh),(184,aHK),(185,aLg),(186,aLf),(197,aPU),(198,aPT),(201,aPS),(202,aPR),(203,aLe),(204,aLd),(205,aLc),(206,aLb),(207,aLa),(211,aKZ),(212,aKY),(213,aKX),(215,aKW),(234,aHE),(235,aKV),(236,aKU),(237,aKT),(242,aKS),(243,aKR),(244,aKQ),(245,aKP)]
def aJe:Nat→Option XFn:=aDL aQE
set_option maxRecDepth 100000
theorem vI:∀ p∈aQE,aN prog p :=
 aU aWH (aU aWG (aU aWF (aU aWE (aU aWD (aU aWC (aU aWB (aU aWA (aU aWz (aU aWy (aU aWx (aU aWw (aU aWv (aU aWu (aU aWt (aU aWs (aU aWr (aU aWq (aU aWp (aU aWo (aU aWn (aU aWm (aU aWl (aU aWk (aU aWj (aU aWi (aU aWh (aU aWg (aU aWf (aU aWe (aU aWd (aU aWc (aU aWb (aU aWa (aU aVZ (aU aVY (aU aVX (aU aVW (aU aVV (aU aVU (aU aVT (aU aVS (aU aVR (aU aVQ (aU aVP (aU aVO (aU aVN (aU aVM (aU aSY (aU aSX (aU aSW (aU aSV (aU aSU (aU aST (aU aSS (aU aSR (aU aSQ (aU aSP (aU aSO (aU aSN (aU aSM (aU aSL (aU aSK (aU aSJ (aU aSI (aU aSH (aU aSG (aU aSF (aU aSE (aU aSD (aU aSC (aU aSB (aU aSA (aU aSz (aU aSy (aU aSx (aU aSw (aU aSv (aU aSu (aU aSt (aU aSs (aU aSr (aU aSq (aU aSp (aU aSo (aU aSn (aU aSm (aU aSl (aU aSk (aU aSj (aU aSi (aU aSh (aU aSg (aU aSf (aU aSe (aU aSd (aU aSc (aU aSb (aU aSa (aWV)))))))))))))))))))))))))))))))))))))))))))))))))))))))))))))))))))))))))))))))))))))))))))))))))))
theorem aMg {k:Nat} {d:XFn} (h:aJe k=some d):d.prm=none:=(vI _ (mH h)).2.2.2
theorem progX_ok:XOk prog aJe:=⟨rfl,fun k d h _=>(vI _ (mH h)).1,fun k d f h hp=>(by rw[aMg h]at hp;cases hp),fun k d h=>(vI _ (mH h)).2.1,fun k d h=>(vI _ (mH h)).2.2.1⟩
end Go.Proofs.YtmapgnepfgnphaaGreatDoor
namespace Go.Proofs
open Go.Shelf
def Tryz.lays156_ren:Go.Shelf.Ren:=⟨fun|156=>99|165=>138|166=>69|169=>71|240=>115|241=>161|276=>140|277=>187|n=>n,fun|31=>22|9=>9|3=>3|4=>4|0=>0|20=>20|72=>126|76=>129|70=>124|37=>59|75=>128|127=>183|164=>215|5=>5|80=>37|n=>n,fun|n=>n⟩
theorem Tryz.lays156:Go.Proofs.Lays.n156 Tryz.prog Tryz.lays156_ren:={
 mixed:=by kernel_rfl
 f156:=Tryz.func99.trans (congrArg some (by kernel_rfl))
 f165:=Tryz.func138.trans (congrArg some (by kernel_rfl))
 f166:=Tryz.func69.trans (congrArg some (by kernel_rfl))
 f169:=Tryz.func71.trans (congrArg some (by kernel_rfl))
 f240:=Tryz.func115.trans (congrArg some (by kernel_rfl))
 f241:=Tryz.func161.trans (congrArg some (by kernel_rfl))
 f276:=Tryz.func140.trans (congrArg some (by kernel_rfl))
 f277:=Tryz.func187.trans (congrArg some (by kernel_rfl))
 t0:=Tryz.underlying0
 a0:=Tryz.isAgg0
 z0:=Tryz.sizeOf0
 v0:=Tryz.zeroValue0
 t3:=Tryz.underlying3
 a3:=Tryz.isAgg3
 z3:=Tryz.sizeOf3
 v3:=Tryz.zeroValue3
 t4:=Tryz.underlying4
 a4:=Tryz.isAgg4
 z4:=Tryz.sizeOf4
 v4:=Tryz.zeroValue4
 t9:=Tryz.underlying9
 a9:=Tryz.isAgg9
 z9:=Tryz.sizeOf9
 v9:=Tryz.zeroValue9
 t20:=Tryz.underlying20
 a20:=Tryz.isAgg20
 z20:=Tryz.sizeOf20
 v20:=Tryz.zeroValue20
 t31:=Tryz.underlying22
 a31:=Tryz.isAgg22
 z31:=Tryz.sizeOf22
 v31:=Tryz.zeroValue22
 t37:=Tryz.underlying59
 a37:=Tryz.isAgg59
 z37:=Tryz.sizeOf59
 v37:=Tryz.zeroValue59
 t70:=Tryz.underlying124
 a70:=Tryz.isAgg124
 z70:=Tryz.sizeOf124
 v70:=Tryz.zeroValue124
 t72:=Tryz.underlying126
 a72:=Tryz.isAgg126
 z72:=Tryz.sizeOf126
 v72:=Tryz.zeroValue126
 t75:=Tryz.underlying128
 a75:=Tryz.isAgg128
 z75:=Tryz.sizeOf128
 v75:=Tryz.zeroValue128
 t76:=Tryz.underlying129
 a76:=Tryz.isAgg129
 z76:=Tryz.sizeOf129
 v76:=Tryz.zeroValue129
 t127:=Tryz.underlying183
 a127:=Tryz.isAgg183
 z127:=Tryz.sizeOf183
 v127:=Tryz.zeroValue183
 t164:=Tryz.underlying215
 a164:=Tryz.isAgg215
 z164:=Tryz.sizeOf215
 v164:=Tryz.zeroValue215 }
theorem Tryz.Builder_Extra_156:Builder.Extra Tryz.prog Tryz.lays156_ren:={
 sizeBuilder:=by kernel_rfl
 liesBuilder:=by kernel_rfl
 t5:=Tryz.underlying5
 a5:=Tryz.isAgg5
 z5:=Tryz.sizeOf5
 v5:=Tryz.zeroValue5
 infoByte:=by kernel_rfl
 cellsByte:=by kernel_rfl
 sizeByte:=by kernel_rfl
 neB5:=by decide }
open Go.RowKit in
theorem Tryz.strings_Join_none (a:Option Addr) (c:Nat) (sep:ByteArray) (w:World) :
 Calls Tryz.prog 99 #[.slice a 0 c,.string sep] w fun e w'=>e = .returned (.string ⟨#[]⟩)∧w'=w:=Any.strings_Join_none Tryz.lays156 Tryz.Builder_Extra_156 a c sep w
open Go.RowKit in
theorem Tryz.strings_Join (bk o c:Nat) (xs:List ByteArray) (sep:ByteArray) (w:World) (hcells:∀ (j:Nat) x,xs[j]?=some x→w.cell? ⟨bk,o+j,none⟩=some (.string x)) (hbk:bk<w.heap.size) (hN:xs.length≤140737488355328) (hcap:xs.length≤c) (hlen:(Lib.join (xs.map (·.data.toList)) sep.data.toList).length≤140737488355328) :
 Calls Tryz.prog 99 #[.slice (some ⟨bk,o,none⟩) xs.length c,.string sep] w fun e w'=>e = .returned (.string ⟨(Lib.join (xs.map (·.data.toList)) sep.data.toList).toArray⟩)∧Below w.heap.size w w':=Any.strings_Join Tryz.lays156 Tryz.Builder_Extra_156 bk o c xs sep w hcells hbk hN hcap hlen
def Tryz.lays162_ren:Go.Shelf.Ren:=⟨fun|162=>80|232=>120|227=>121|234=>122|236=>123|228=>144|271=>145|151=>146|120=>168|197=>169|152=>170|260=>192|137=>193|119=>194|224=>195|225=>196|217=>199|266=>209|n=>n,fun|9=>9|4=>4|3=>3|5=>5|117=>188|116=>187|0=>0|124=>191|21=>21|105=>218|46=>238|119=>286|139=>289|138=>288|n=>n,fun|3=>4|4=>5|n=>n⟩
theorem Tryz.lays162:Go.Proofs.Lays.n162 Tryz.prog Tryz.lays162_ren:={
 mixed:=by kernel_rfl
 f119:=Tryz.func194.trans (congrArg some (by kernel_rfl))
 f120:=Tryz.func168.trans (congrArg some (by kernel_rfl))
 f137:=Tryz.func193.trans (congrArg some (by kernel_rfl))
 f151:=Tryz.func146.trans (congrArg some (by kernel_rfl))
 f152:=Tryz.func170.trans (congrArg some (by kernel_rfl))
 f162:=Tryz.func80.trans (congrArg some (by kernel_rfl))
 f197:=Tryz.func169.trans (congrArg some (by kernel_rfl))
 f217:=Tryz.func199.trans (congrArg some (by kernel_rfl))
 f224:=Tryz.func195.trans (congrArg some (by kernel_rfl))
 f225:=Tryz.func196.trans (congrArg some (by kernel_rfl))
 f227:=Tryz.func121.trans (congrArg some (by kernel_rfl))
 f228:=Tryz.func144.trans (congrArg some (by kernel_rfl))
 f232:=Tryz.func120.trans (congrArg some (by kernel_rfl))
 f234:=Tryz.func122.trans (congrArg some (by kernel_rfl))
 f236:=Tryz.func123.trans (congrArg some (by kernel_rfl))
 f260:=Tryz.func192.trans (congrArg some (by kernel_rfl))
 f266:=Tryz.func209.trans (congrArg some (by kernel_rfl))
 f271:=Tryz.func145.trans (congrArg some (by kernel_rfl))
 t0:=Tryz.underlying0
 a0:=Tryz.isAgg0
 z0:=Tryz.sizeOf0
 v0:=Tryz.zeroValue0
 t3:=Tryz.underlying3
 a3:=Tryz.isAgg3
 z3:=Tryz.sizeOf3
 v3:=Tryz.zeroValue3
 t4:=Tryz.underlying4
 a4:=Tryz.isAgg4
 z4:=Tryz.sizeOf4
 v4:=Tryz.zeroValue4
 t5:=Tryz.underlying5
 a5:=Tryz.isAgg5
 z5:=Tryz.sizeOf5
 v5:=Tryz.zeroValue5
 t9:=Tryz.underlying9
 a9:=Tryz.isAgg9
 z9:=Tryz.sizeOf9
 v9:=Tryz.zeroValue9
 t21:=Tryz.underlying21
 a21:=Tryz.isAgg21
 z21:=Tryz.sizeOf21
 v21:=Tryz.zeroValue21
 t46:=Tryz.underlying238
 a46:=Tryz.isAgg238
 z46:=Tryz.sizeOf238
 v46:=Tryz.zeroValue238
 t105:=Tryz.underlying218
 a105:=Tryz.isAgg218
 z105:=Tryz.sizeOf218
 v105:=Tryz.zeroValue218
 t116:=Tryz.underlying187
 a116:=Tryz.isAgg187
 z116:=Tryz.sizeOf187
 t117:=Tryz.underlying188
 a117:=Tryz.isAgg188
 z117:=Tryz.sizeOf188
 v117:=Tryz.zeroValue188
 t119:=Tryz.underlying286
 a119:=Tryz.isAgg286
 z119:=Tryz.sizeOf286
 t124:=Tryz.underlying191
 a124:=Tryz.isAgg191
 z124:=Tryz.sizeOf191
 v124:=Tryz.zeroValue191
 t138:=Tryz.underlying288
 a138:=Tryz.isAgg288
 z138:=Tryz.sizeOf288
 v138:=Tryz.zeroValue288
 t139:=Tryz.underlying289
 a139:=Tryz.isAgg289
 z139:=Tryz.sizeOf289
 v139:=Tryz.zeroValue289
 g3:=by kernel_rfl
 g4:=by kernel_rfl }
open Go.RowKit in
theorem Tryz.strings_TrimRight_one (s:ByteArray) (c:UInt8) (hc:c.toNat<128) (w:World) (hs:s.size≤9223372036854775807) :
 Calls Tryz.prog 80 #[.string s,.string ⟨#[c]⟩] w fun e w'=>e = .returned (.string ⟨(Lib.trimRightB s.data.toList c).toArray⟩)∧w'=w:=Any.strings_TrimRight_one Tryz.lays162 s c hc w hs
def Tryz.lays103_ren:Go.Shelf.Ren:=⟨fun|103=>72|210=>117|206=>141|n=>n,fun|9=>9|4=>4|24=>55|3=>3|n=>n,fun|n=>n⟩
theorem Tryz.lays103:Go.Proofs.Lays.n103 Tryz.prog Tryz.lays103_ren:={
 mixed:=by kernel_rfl
 f103:=Tryz.func72.trans (congrArg some (by kernel_rfl))
 f206:=Tryz.func141.trans (congrArg some (by kernel_rfl))
 f210:=Tryz.func117.trans (congrArg some (by kernel_rfl))
 t3:=Tryz.underlying3
 a3:=Tryz.isAgg3
 z3:=Tryz.sizeOf3
 v3:=Tryz.zeroValue3
 t4:=Tryz.underlying4
 a4:=Tryz.isAgg4
 z4:=Tryz.sizeOf4
 v4:=Tryz.zeroValue4
 t9:=Tryz.underlying9
 a9:=Tryz.isAgg9
 z9:=Tryz.sizeOf9
 v9:=Tryz.zeroValue9
 t24:=Tryz.underlying55
 a24:=Tryz.isAgg55
 z24:=Tryz.sizeOf55
 v24:=Tryz.zeroValue55 }
open Go.RowKit in
theorem Tryz.strings_CutPrefix (s p:ByteArray) (w:World) :
 Calls Tryz.prog 72 #[.string s,.string p] w fun e w'=>e = .returned (.tuple #[.string ⟨(Lib.trimPrefix s.data.toList p.data.toList).toArray⟩,.bool (Lib.hasPrefix s.data.toList p.data.toList)])∧w'=w:=Any.strings_CutPrefix Tryz.lays103 s p w
def Tryz.laysM171_ren:Go.Shelf.Ren:=⟨fun|171=>57|243=>82|246=>124|283=>147|284=>148|285=>149|286=>150|129=>172|317=>171|318=>173|319=>174|320=>175|337=>197|338=>198|n=>n,fun|3=>3|9=>9|2=>2|4=>4|171=>221|0=>0|53=>222|37=>59|5=>5|173=>225|212=>251|51=>252|20=>20|213=>253|46=>238|232=>290|233=>291|n=>n,fun|17=>0|18=>6|19=>7|n=>n⟩
theorem Tryz.laysM171:Go.Proofs.LaysM.n171 Tryz.prog Tryz.laysM171_ren:={
 mixed:=by kernel_rfl
 f129:=Tryz.func172.trans (congrArg some (by kernel_rfl))
 f171:=Tryz.func57.trans (congrArg some (by kernel_rfl))
 f243:=Tryz.func82.trans (congrArg some (by kernel_rfl))
 f246:=Tryz.func124.trans (congrArg some (by kernel_rfl))
 f283:=Tryz.func147.trans (congrArg some (by kernel_rfl))
 f284:=Tryz.func148.trans (congrArg some (by kernel_rfl))
 f285:=Tryz.func149.trans (congrArg some (by kernel_rfl))
 f286:=Tryz.func150.trans (congrArg some (by kernel_rfl))
 f317:=Tryz.func171.trans (congrArg some (by kernel_rfl))
 f318:=Tryz.func173.trans (congrArg some (by kernel_rfl))
 f319:=Tryz.func174.trans (congrArg some (by kernel_rfl))
 f320:=Tryz.func175.trans (congrArg some (by kernel_rfl))
 f337:=Tryz.func197.trans (congrArg some (by kernel_rfl))
 f338:=Tryz.func198.trans (congrArg some (by kernel_rfl))
 t0:=Tryz.underlying0
 a0:=Tryz.isAgg0
 z0:=Tryz.sizeOf0
 v0:=Tryz.zeroValue0
 t2:=Tryz.underlying2
 a2:=Tryz.isAgg2
 z2:=Tryz.sizeOf2
 v2:=Tryz.zeroValue2
 t3:=Tryz.underlying3
 a3:=Tryz.isAgg3
 z3:=Tryz.sizeOf3
 v3:=Tryz.zeroValue3
 t4:=Tryz.underlying4
 a4:=Tryz.isAgg4
 z4:=Tryz.sizeOf4
 v4:=Tryz.zeroValue4
 t5:=Tryz.underlying5
 a5:=Tryz.isAgg5
 z5:=Tryz.sizeOf5
 v5:=Tryz.zeroValue5
 t9:=Tryz.underlying9
 a9:=Tryz.isAgg9
 z9:=Tryz.sizeOf9
 v9:=Tryz.zeroValue9
 t20:=Tryz.underlying20
 a20:=Tryz.isAgg20
 z20:=Tryz.sizeOf20
 v20:=Tryz.zeroValue20
 t37:=Tryz.underlying59
 a37:=Tryz.isAgg59
 z37:=Tryz.sizeOf59
 v37:=Tryz.zeroValue59
 t46:=Tryz.underlying238
 a46:=Tryz.isAgg238
 z46:=Tryz.sizeOf238
 v46:=Tryz.zeroValue238
 t51:=Tryz.underlying252
 a51:=Tryz.isAgg252
 z51:=Tryz.sizeOf252
 v51:=Tryz.zeroValue252
 t53:=Tryz.underlying222
 a53:=Tryz.isAgg222
 z53:=Tryz.sizeOf222
 v53:=Tryz.zeroValue222
 t171:=Tryz.underlying221
 a171:=Tryz.isAgg221
 z171:=Tryz.sizeOf221
 v171:=Tryz.zeroValue221
 t173:=Tryz.underlying225
 a173:=Tryz.isAgg225
 z173:=Tryz.sizeOf225
 v173:=Tryz.zeroValue225
 t212:=Tryz.underlying251
 a212:=Tryz.isAgg251
 z212:=Tryz.sizeOf251
 v212:=Tryz.zeroValue251
 t213:=Tryz.underlying253
 a213:=Tryz.isAgg253
 z213:=Tryz.sizeOf253
 t232:=Tryz.underlying290
 a232:=Tryz.isAgg290
 z232:=Tryz.sizeOf290
 v232:=Tryz.zeroValue290
 t233:=Tryz.underlying291
 a233:=Tryz.isAgg291
 z233:=Tryz.sizeOf291
 v233:=Tryz.zeroValue291
 g17:=by kernel_rfl
 g18:=by kernel_rfl
 g19:=by kernel_rfl
 i0:=by kernel_rfl
 i2:=by kernel_rfl
 i3:=by kernel_rfl
 i4:=by kernel_rfl
 i5:=by kernel_rfl
 i9:=by kernel_rfl
 i20:=by kernel_rfl
 i37:=by kernel_rfl
 i46:=by kernel_rfl
 i51:=by kernel_rfl
 i53:=by kernel_rfl
 i171:=by kernel_rfl
 i173:=by kernel_rfl
 i212:=by kernel_rfl
 i232:=by kernel_rfl
 i233:=by kernel_rfl
 m17:=by kernel_rfl
 m18:=by kernel_rfl
 m19:=by kernel_rfl }
open Go.RowKit Go.Sort Go.Lib in
theorem Tryz.strconv_Itoa (n:Int) (h0 : -9223372036854775808≤n) (h1:n≤9223372036854775807) (w:World) (htab:Lib.TabIs Tryz.prog w "internal/strconv.uint64pow10" .u64 Lib.pow10Tab) :
 Calls Tryz.prog 57 #[.int .i64 n] w fun e w'=>e = .returned (.string ⟨(Lib.itoa n).toArray⟩)∧∃ k os,w'=grow (w.drewN k) os:=Any.strconv_Itoa Tryz.laysM171 n h0 h1 w htab
def Tryz.laysC172_ren:Go.Shelf.Ren:=⟨fun|172=>86|244=>126|245=>127|247=>154|279=>155|280=>156|281=>157|282=>158|287=>179|316=>180|171=>57|205=>181|321=>201|322=>202|243=>82|246=>124|283=>147|284=>148|285=>149|286=>150|129=>172|317=>171|318=>173|319=>174|320=>175|337=>197|338=>198|n=>n,fun|9=>9|3=>3|75=>128|76=>129|4=>4|5=>5|167=>229|37=>59|0=>0|85=>230|2=>2|168=>232|53=>222|175=>257|46=>238|210=>260|127=>183|145=>280|143=>278|21=>21|171=>221|173=>225|212=>251|51=>252|20=>20|213=>253|232=>290|233=>291|80=>37|n=>n,fun|15=>1|16=>2|17=>0|18=>6|19=>7|n=>n⟩
theorem Tryz.laysC172:Go.Proofs.LaysC.n172 Tryz.prog Tryz.laysC172_ren:={
 mixed:=by kernel_rfl
 f129:=Tryz.func172.trans (congrArg some (by kernel_rfl))
 f171:=Tryz.func57.trans (congrArg some (by kernel_rfl))
 f172:=Tryz.func86.trans (congrArg some (by kernel_rfl))
 f205:=Tryz.func181.trans (congrArg some (by kernel_rfl))
 f243:=Tryz.func82.trans (congrArg some (by kernel_rfl))
 f244:=Tryz.func126.trans (congrArg some (by kernel_rfl))
 f245:=Tryz.func127.trans (congrArg some (by kernel_rfl))
 f246:=Tryz.func124.trans (congrArg some (by kernel_rfl))
 f247:=Tryz.func154.trans (congrArg some (by kernel_rfl))
 f279:=Tryz.func155.trans (congrArg some (by kernel_rfl))
 f280:=Tryz.func156.trans (congrArg some (by kernel_rfl))
 f281:=Tryz.func157.trans (congrArg some (by kernel_rfl))
 f282:=Tryz.func158.trans (congrArg some (by kernel_rfl))
 f283:=Tryz.func147.trans (congrArg some (by kernel_rfl))
 f284:=Tryz.func148.trans (congrArg some (by kernel_rfl))
 f285:=Tryz.func149.trans (congrArg some (by kernel_rfl))
 f286:=Tryz.func150.trans (congrArg some (by kernel_rfl))
 f287:=Tryz.func179.trans (congrArg some (by kernel_rfl))
 f316:=Tryz.func180.trans (congrArg some (by kernel_rfl))
 f317:=Tryz.func171.trans (congrArg some (by kernel_rfl))
 f318:=Tryz.func173.trans (congrArg some (by kernel_rfl))
 f319:=Tryz.func174.trans (congrArg some (by kernel_rfl))
 f320:=Tryz.func175.trans (congrArg some (by kernel_rfl))
 f321:=Tryz.func201.trans (congrArg some (by kernel_rfl))
 f322:=Tryz.func202.trans (congrArg some (by kernel_rfl))
 f337:=Tryz.func197.trans (congrArg some (by kernel_rfl))
 f338:=Tryz.func198.trans (congrArg some (by kernel_rfl))
 t0:=Tryz.underlying0
 a0:=Tryz.isAgg0
 z0:=Tryz.sizeOf0
 v0:=Tryz.zeroValue0
 t2:=Tryz.underlying2
 a2:=Tryz.isAgg2
 z2:=Tryz.sizeOf2
 v2:=Tryz.zeroValue2
 t3:=Tryz.underlying3
 a3:=Tryz.isAgg3
 z3:=Tryz.sizeOf3
 v3:=Tryz.zeroValue3
 t4:=Tryz.underlying4
 a4:=Tryz.isAgg4
 z4:=Tryz.sizeOf4
 v4:=Tryz.zeroValue4
 t5:=Tryz.underlying5
 a5:=Tryz.isAgg5
 z5:=Tryz.sizeOf5
 v5:=Tryz.zeroValue5
 t9:=Tryz.underlying9
 a9:=Tryz.isAgg9
 z9:=Tryz.sizeOf9
 v9:=Tryz.zeroValue9
 t20:=Tryz.underlying20
 a20:=Tryz.isAgg20
 z20:=Tryz.sizeOf20
 v20:=Tryz.zeroValue20
 t21:=Tryz.underlying21
 a21:=Tryz.isAgg21
 z21:=Tryz.sizeOf21
 v21:=Tryz.zeroValue21
 t37:=Tryz.underlying59
 a37:=Tryz.isAgg59
 z37:=Tryz.sizeOf59
 v37:=Tryz.zeroValue59
 t46:=Tryz.underlying238
 a46:=Tryz.isAgg238
 z46:=Tryz.sizeOf238
 v46:=Tryz.zeroValue238
 t51:=Tryz.underlying252
 a51:=Tryz.isAgg252
 z51:=Tryz.sizeOf252
 v51:=Tryz.zeroValue252
 t53:=Tryz.underlying222
 a53:=Tryz.isAgg222
 z53:=Tryz.sizeOf222
 v53:=Tryz.zeroValue222
 t75:=Tryz.underlying128
 a75:=Tryz.isAgg128
 z75:=Tryz.sizeOf128
 v75:=Tryz.zeroValue128
 t76:=Tryz.underlying129
 a76:=Tryz.isAgg129
 z76:=Tryz.sizeOf129
 v76:=Tryz.zeroValue129
 t85:=Tryz.underlying230
 a85:=Tryz.isAgg230
 z85:=Tryz.sizeOf230
 v85:=Tryz.zeroValue230
 t127:=Tryz.underlying183
 a127:=Tryz.isAgg183
 z127:=Tryz.sizeOf183
 v127:=Tryz.zeroValue183
 t143:=Tryz.underlying278
 a143:=Tryz.isAgg278
 z143:=Tryz.sizeOf278
 v143:=Tryz.zeroValue278
 t145:=Tryz.underlying280
 a145:=Tryz.isAgg280
 z145:=Tryz.sizeOf280
 v145:=Tryz.zeroValue280
 t167:=Tryz.underlying229
 a167:=Tryz.isAgg229
 z167:=Tryz.sizeOf229
 v167:=Tryz.zeroValue229
 t168:=Tryz.underlying232
 a168:=Tryz.isAgg232
 z168:=Tryz.sizeOf232
 v168:=Tryz.zeroValue232
 t171:=Tryz.underlying221
 a171:=Tryz.isAgg221
 z171:=Tryz.sizeOf221
 v171:=Tryz.zeroValue221
 t173:=Tryz.underlying225
 a173:=Tryz.isAgg225
 z173:=Tryz.sizeOf225
 v173:=Tryz.zeroValue225
 t175:=Tryz.underlying257
 a175:=Tryz.isAgg257
 z175:=Tryz.sizeOf257
 v175:=Tryz.zeroValue257
 t210:=Tryz.underlying260
 a210:=Tryz.isAgg260
 z210:=Tryz.sizeOf260
 v210:=Tryz.zeroValue260
 t212:=Tryz.underlying251
 a212:=Tryz.isAgg251
 z212:=Tryz.sizeOf251
 v212:=Tryz.zeroValue251
 t213:=Tryz.underlying253
 a213:=Tryz.isAgg253
 z213:=Tryz.sizeOf253
 t232:=Tryz.underlying290
 a232:=Tryz.isAgg290
 z232:=Tryz.sizeOf290
 v232:=Tryz.zeroValue290
 t233:=Tryz.underlying291
 a233:=Tryz.isAgg291
 z233:=Tryz.sizeOf291
 v233:=Tryz.zeroValue291
 g15:=by kernel_rfl
 g16:=by kernel_rfl
 g17:=by kernel_rfl
 g18:=by kernel_rfl
 g19:=by kernel_rfl
 t80:=Tryz.underlying37
 a80:=Tryz.isAgg37
 z80:=Tryz.sizeOf37
 v80:=Tryz.zeroValue37
 i0:=by kernel_rfl
 i2:=by kernel_rfl
 i3:=by kernel_rfl
 i4:=by kernel_rfl
 i5:=by kernel_rfl
 i9:=by kernel_rfl
 i20:=by kernel_rfl
 i21:=by kernel_rfl
 i37:=by kernel_rfl
 i46:=by kernel_rfl
 i51:=by kernel_rfl
 i53:=by kernel_rfl
 i75:=by kernel_rfl
 i76:=by kernel_rfl
 i80:=by kernel_rfl
 i85:=by kernel_rfl
 i127:=by kernel_rfl
 i143:=by kernel_rfl
 i145:=by kernel_rfl
 i167:=by kernel_rfl
 i168:=by kernel_rfl
 i171:=by kernel_rfl
 i173:=by kernel_rfl
 i175:=by kernel_rfl
 i210:=by kernel_rfl
 i212:=by kernel_rfl
 i232:=by kernel_rfl
 i233:=by kernel_rfl
 m15:=by kernel_rfl
 m16:=by kernel_rfl
 m17:=by kernel_rfl
 m18:=by kernel_rfl
 m19:=by kernel_rfl
 c0:=by kernel_rfl
 c2:=by kernel_rfl
 c3:=by kernel_rfl
 c4:=by kernel_rfl
 c5:=by kernel_rfl
 c9:=by kernel_rfl
 c20:=by kernel_rfl
 c21:=by kernel_rfl
 c37:=by kernel_rfl
 c46:=by kernel_rfl
 c51:=by kernel_rfl
 c53:=by kernel_rfl
 c75:=by kernel_rfl
 c76:=by kernel_rfl
 c80:=by kernel_rfl
 c85:=by kernel_rfl
 c127:=by kernel_rfl
 c143:=by kernel_rfl
 c145:=by kernel_rfl
 c167:=by kernel_rfl
 c168:=by kernel_rfl
 c171:=by kernel_rfl
 c173:=by kernel_rfl
 c175:=by kernel_rfl
 c210:=by kernel_rfl
 c212:=by kernel_rfl
 c213:=by kernel_rfl
 c232:=by kernel_rfl
 c233:=by kernel_rfl }
open Go.RowKit in
theorem Tryz.strconv_Atoi_ok (s:ByteArray) (hmax:s.size≤9223372036854775806) (v:Int) (h:Lib.atoiAll s.data.toList = .ok v) (w:World) :
 Calls Tryz.prog 86 #[.string s] w fun e w'=>e = .returned (.tuple #[.int .i64 v,.nilIface])∧(w'=w∨∃ t,w'=Lib.bytesWorld w 5 t):=Any.strconv_Atoi_ok Tryz.laysC172 s hmax v h w
open Go.RowKit in
theorem Tryz.strconv_Atoi_syntax (s:ByteArray) (hlim:s.size≤281474976710656) (h:Lib.atoiAll s.data.toList=Lib.NumEnd.syntax) (ev:Value) (w:World) (hv:w.cell? ⟨1,0,none⟩=some ev) (hev:ev = .nilIface∨∃ te pe,ev = .iface te pe) :
 Calls Tryz.prog 86 #[.string s] w fun e w'=>∃ N,e = .returned (.tuple #[.int .i64 (0),.iface 232 (.pointer (some ⟨N,0,none⟩))])∧w.heap.size≤N∧w'.heap[N]?=some (.cells #[.string ⟨#[65,116,111,105]⟩,.string s,ev] 260 (0,0))∧Below w.heap.size w w':=Any.strconv_Atoi_syntax Tryz.laysC172 s hlim h ev w hv hev
open Go.RowKit in
theorem Tryz.strconv_Atoi_range (s:ByteArray) (hlim:s.size≤281474976710656) (h:Lib.atoiAll s.data.toList = .range) (ev:Value) (w:World) (hv:w.cell? ⟨2,0,none⟩=some ev) (hev:ev = .nilIface∨∃ te pe,ev = .iface te pe) :
 Calls Tryz.prog 86 #[.string s] w fun e w'=>∃ N,e = .returned (.tuple #[.int .i64 (Lib.atoiSat s.data.toList),.iface 232 (.pointer (some ⟨N,0,none⟩))])∧w.heap.size≤N∧w'.heap[N]?=some (.cells #[.string ⟨#[65,116,111,105]⟩,.string s,ev] 260 (0,0))∧Below w.heap.size w w':=Any.strconv_Atoi_range Tryz.laysC172 s hlim h ev w hv hev
def Tryz.laysGw17_ren:Go.Shelf.Ren:=⟨fun|17=>74|15=>118|20=>142|n=>n,fun|9=>9|23=>137|4=>4|3=>3|0=>0|21=>21|n=>n,fun|n=>n⟩
theorem Tryz.laysGw17:Go.Proofs.LaysGw.n17 Tryz.prog Tryz.laysGw17_ren:={
 mixed:=by kernel_rfl
 f15:=Tryz.func118.trans (congrArg some (by kernel_rfl))
 f17:=Tryz.func74.trans (congrArg some (by kernel_rfl))
 f20:=Tryz.func142.trans (congrArg some (by kernel_rfl))
 t0:=Tryz.underlying0
 a0:=Tryz.isAgg0
 z0:=Tryz.sizeOf0
 v0:=Tryz.zeroValue0
 i0:=by kernel_rfl
 t3:=Tryz.underlying3
 a3:=Tryz.isAgg3
 z3:=Tryz.sizeOf3
 v3:=Tryz.zeroValue3
 i3:=by kernel_rfl
 t4:=Tryz.underlying4
 a4:=Tryz.isAgg4
 z4:=Tryz.sizeOf4
 v4:=Tryz.zeroValue4
 i4:=by kernel_rfl
 t9:=Tryz.underlying9
 a9:=Tryz.isAgg9
 z9:=Tryz.sizeOf9
 v9:=Tryz.zeroValue9
 i9:=by kernel_rfl
 t21:=Tryz.underlying21
 a21:=Tryz.isAgg21
 z21:=Tryz.sizeOf21
 v21:=Tryz.zeroValue21
 i21:=by kernel_rfl
 t23:=Tryz.underlying137
 a23:=Tryz.isAgg137
 z23:=Tryz.sizeOf137
 v23:=Tryz.zeroValue137
 i23:=by kernel_rfl }
open Go.RowKit Go.Lib in
theorem Tryz.strings_ContainsFunc_runes (g:Nat) (lb:Array Value) (eg:∀ args w,(callFunc g args).run Tryz.prog w = .ok (.enter g args) w) (p:Nat→Bool) (s:ByteArray) (w:World) (hp:PredAtRunes Tryz.prog g lb p w) :
 Calls Tryz.prog 74 #[.string s,.func (.func g) #[] lb] w fun e w'=>e = .returned (.bool (decide (0≤Lib.idxFunc p true s)))∧Below w.heap.size w w':=Any.strings_ContainsFunc_runes Tryz.laysGw17 g lb eg p s w hp
def Tryz.lays100_ren:Go.Shelf.Ren:=⟨fun|100=>37|207=>76|n=>n,fun|9=>9|4=>4|3=>3|n=>n,fun|n=>n⟩
theorem Tryz.lays100:Go.Proofs.Lays.n100 Tryz.prog Tryz.lays100_ren:={
 mixed:=by kernel_rfl
 f100:=Tryz.func37.trans (congrArg some (by kernel_rfl))
 f207:=Tryz.func76.trans (congrArg some (by kernel_rfl))
 t3:=Tryz.underlying3
 a3:=Tryz.isAgg3
 z3:=Tryz.sizeOf3
 v3:=Tryz.zeroValue3
 t4:=Tryz.underlying4
 a4:=Tryz.isAgg4
 z4:=Tryz.sizeOf4
 v4:=Tryz.zeroValue4
 t9:=Tryz.underlying9
 a9:=Tryz.isAgg9
 z9:=Tryz.sizeOf9
 v9:=Tryz.zeroValue9 }
open Go.RowKit Go.Lib in
theorem Tryz.strings_HasSuffix (s p:ByteArray) (w:World) (hs:s.size≤9223372036854775807) :
 Calls Tryz.prog 37 #[.string s,.string p] w fun e w'=>e = .returned (.bool (Lib.hasSuffix s.data.toList p.data.toList))∧w'=w:=Any.strings_HasSuffix Tryz.lays100 s p w hs
def Tryz.lays146_ren:Go.Shelf.Ren:=⟨fun|146=>83|221=>125|268=>151|138=>152|143=>153|195=>176|197=>169|218=>177|219=>178|260=>192|217=>199|225=>196|224=>195|267=>200|266=>209|314=>210|n=>n,fun|9=>9|31=>22|3=>3|4=>4|0=>0|105=>218|21=>21|5=>5|46=>238|119=>286|139=>289|138=>288|146=>272|51=>252|n=>n,fun|1=>3|3=>4|4=>5|n=>n⟩
theorem Tryz.lays146:Go.Proofs.Lays.n146 Tryz.prog Tryz.lays146_ren:={
 mixed:=by kernel_rfl
 f138:=Tryz.func152.trans (congrArg some (by kernel_rfl))
 f143:=Tryz.func153.trans (congrArg some (by kernel_rfl))
 f146:=Tryz.func83.trans (congrArg some (by kernel_rfl))
 f195:=Tryz.func176.trans (congrArg some (by kernel_rfl))
 f197:=Tryz.func169.trans (congrArg some (by kernel_rfl))
 f217:=Tryz.func199.trans (congrArg some (by kernel_rfl))
 f218:=Tryz.func177.trans (congrArg some (by kernel_rfl))
 f219:=Tryz.func178.trans (congrArg some (by kernel_rfl))
 f221:=Tryz.func125.trans (congrArg some (by kernel_rfl))
 f224:=Tryz.func195.trans (congrArg some (by kernel_rfl))
 f225:=Tryz.func196.trans (congrArg some (by kernel_rfl))
 f260:=Tryz.func192.trans (congrArg some (by kernel_rfl))
 f266:=Tryz.func209.trans (congrArg some (by kernel_rfl))
 f267:=Tryz.func200.trans (congrArg some (by kernel_rfl))
 f268:=Tryz.func151.trans (congrArg some (by kernel_rfl))
 f314:=Tryz.func210.trans (congrArg some (by kernel_rfl))
 t0:=Tryz.underlying0
 a0:=Tryz.isAgg0
 z0:=Tryz.sizeOf0
 v0:=Tryz.zeroValue0
 t3:=Tryz.underlying3
 a3:=Tryz.isAgg3
 z3:=Tryz.sizeOf3
 v3:=Tryz.zeroValue3
 t4:=Tryz.underlying4
 a4:=Tryz.isAgg4
 z4:=Tryz.sizeOf4
 v4:=Tryz.zeroValue4
 t5:=Tryz.underlying5
 a5:=Tryz.isAgg5
 z5:=Tryz.sizeOf5
 v5:=Tryz.zeroValue5
 t9:=Tryz.underlying9
 a9:=Tryz.isAgg9
 z9:=Tryz.sizeOf9
 v9:=Tryz.zeroValue9
 t21:=Tryz.underlying21
 a21:=Tryz.isAgg21
 z21:=Tryz.sizeOf21
 v21:=Tryz.zeroValue21
 t31:=Tryz.underlying22
 a31:=Tryz.isAgg22
 z31:=Tryz.sizeOf22
 v31:=Tryz.zeroValue22
 t46:=Tryz.underlying238
 a46:=Tryz.isAgg238
 z46:=Tryz.sizeOf238
 v46:=Tryz.zeroValue238
 t51:=Tryz.underlying252
 a51:=Tryz.isAgg252
 z51:=Tryz.sizeOf252
 v51:=Tryz.zeroValue252
 t105:=Tryz.underlying218
 a105:=Tryz.isAgg218
 z105:=Tryz.sizeOf218
 v105:=Tryz.zeroValue218
 t119:=Tryz.underlying286
 a119:=Tryz.isAgg286
 z119:=Tryz.sizeOf286
 t138:=Tryz.underlying288
 a138:=Tryz.isAgg288
 z138:=Tryz.sizeOf288
 v138:=Tryz.zeroValue288
 t139:=Tryz.underlying289
 a139:=Tryz.isAgg289
 z139:=Tryz.sizeOf289
 v139:=Tryz.zeroValue289
 t146:=Tryz.underlying272
 a146:=Tryz.isAgg272
 z146:=Tryz.sizeOf272
 v146:=Tryz.zeroValue272
 g1:=by kernel_rfl
 g3:=by kernel_rfl
 g4:=by kernel_rfl }
open Go.RowKit Go.Lib in
theorem Tryz.strings_Split (s sep:ByteArray) (m:Int) (w:World) (hs:s.size<4294967281) (hm:w.cell? ⟨3,0,none⟩=some (.int .i64 m)) (h1:1≤sep.size) :
 Calls Tryz.prog 83 #[.string s,.string sep] w fun e w' =>
  e = .returned (.slice (some ⟨w.heap.size,0,none⟩) (Lib.countB s sep+1) (Lib.countB s sep+1))∧w'=w.alloc (.cells ((Lib.splitB sep 0 (Lib.countB s sep) s).map Value.string).toArray 9):=Any.strings_Split Tryz.lays146 (by kernel_rfl) s sep m w hs hm h1
def Tryz.lays105_ren:Go.Shelf.Ren:=⟨fun|105=>143|212=>165|99=>166|165=>138|166=>69|170=>167|169=>71|263=>190|264=>191|206=>141|240=>115|241=>161|276=>140|277=>187|n=>n,fun|9=>9|3=>3|4=>4|20=>20|0=>0|46=>238|109=>246|5=>5|72=>126|76=>129|51=>252|146=>272|53=>222|148=>274|70=>124|37=>59|75=>128|127=>183|164=>215|80=>37|n=>n,fun|n=>n⟩
theorem Tryz.lays105:Go.Proofs.Lays.n105 Tryz.prog Tryz.lays105_ren:={
 mixed:=by kernel_rfl
 f99:=Tryz.func166.trans (congrArg some (by kernel_rfl))
 f105:=Tryz.func143.trans (congrArg some (by kernel_rfl))
 f165:=Tryz.func138.trans (congrArg some (by kernel_rfl))
 f166:=Tryz.func69.trans (congrArg some (by kernel_rfl))
 f169:=Tryz.func71.trans (congrArg some (by kernel_rfl))
 f170:=Tryz.func167.trans (congrArg some (by kernel_rfl))
 f206:=Tryz.func141.trans (congrArg some (by kernel_rfl))
 f212:=Tryz.func165.trans (congrArg some (by kernel_rfl))
 f240:=Tryz.func115.trans (congrArg some (by kernel_rfl))
 f241:=Tryz.func161.trans (congrArg some (by kernel_rfl))
 f263:=Tryz.func190.trans (congrArg some (by kernel_rfl))
 f264:=Tryz.func191.trans (congrArg some (by kernel_rfl))
 f276:=Tryz.func140.trans (congrArg some (by kernel_rfl))
 f277:=Tryz.func187.trans (congrArg some (by kernel_rfl))
 t0:=Tryz.underlying0
 a0:=Tryz.isAgg0
 z0:=Tryz.sizeOf0
 v0:=Tryz.zeroValue0
 t3:=Tryz.underlying3
 a3:=Tryz.isAgg3
 z3:=Tryz.sizeOf3
 v3:=Tryz.zeroValue3
 t4:=Tryz.underlying4
 a4:=Tryz.isAgg4
 z4:=Tryz.sizeOf4
 v4:=Tryz.zeroValue4
 t5:=Tryz.underlying5
 a5:=Tryz.isAgg5
 z5:=Tryz.sizeOf5
 v5:=Tryz.zeroValue5
 t9:=Tryz.underlying9
 a9:=Tryz.isAgg9
 z9:=Tryz.sizeOf9
 v9:=Tryz.zeroValue9
 t20:=Tryz.underlying20
 a20:=Tryz.isAgg20
 z20:=Tryz.sizeOf20
 v20:=Tryz.zeroValue20
 t37:=Tryz.underlying59
 a37:=Tryz.isAgg59
 z37:=Tryz.sizeOf59
 v37:=Tryz.zeroValue59
 t46:=Tryz.underlying238
 a46:=Tryz.isAgg238
 z46:=Tryz.sizeOf238
 v46:=Tryz.zeroValue238
 t51:=Tryz.underlying252
 a51:=Tryz.isAgg252
 z51:=Tryz.sizeOf252
 v51:=Tryz.zeroValue252
 t53:=Tryz.underlying222
 a53:=Tryz.isAgg222
 z53:=Tryz.sizeOf222
 v53:=Tryz.zeroValue222
 t70:=Tryz.underlying124
 a70:=Tryz.isAgg124
 z70:=Tryz.sizeOf124
 v70:=Tryz.zeroValue124
 t72:=Tryz.underlying126
 a72:=Tryz.isAgg126
 z72:=Tryz.sizeOf126
 v72:=Tryz.zeroValue126
 t75:=Tryz.underlying128
 a75:=Tryz.isAgg128
 z75:=Tryz.sizeOf128
 v75:=Tryz.zeroValue128
 t76:=Tryz.underlying129
 a76:=Tryz.isAgg129
 z76:=Tryz.sizeOf129
 v76:=Tryz.zeroValue129
 t109:=Tryz.underlying246
 a109:=Tryz.isAgg246
 z109:=Tryz.sizeOf246
 v109:=Tryz.zeroValue246
 t127:=Tryz.underlying183
 a127:=Tryz.isAgg183
 z127:=Tryz.sizeOf183
 v127:=Tryz.zeroValue183
 t146:=Tryz.underlying272
 a146:=Tryz.isAgg272
 z146:=Tryz.sizeOf272
 v146:=Tryz.zeroValue272
 t148:=Tryz.underlying274
 a148:=Tryz.isAgg274
 z148:=Tryz.sizeOf274
 v148:=Tryz.zeroValue274
 t164:=Tryz.underlying215
 a164:=Tryz.isAgg215
 z164:=Tryz.sizeOf215
 v164:=Tryz.zeroValue215 }
theorem Tryz.Builder_Extra_105:Builder.Extra Tryz.prog Tryz.lays105_ren:={
 sizeBuilder:=by kernel_rfl
 liesBuilder:=by kernel_rfl
 t5:=Tryz.underlying5
 a5:=Tryz.isAgg5
 z5:=Tryz.sizeOf5
 v5:=Tryz.zeroValue5
 infoByte:=by kernel_rfl
 cellsByte:=by kernel_rfl
 sizeByte:=by kernel_rfl
 neB5:=by decide }
open Go.RowKit Go.Lib in
theorem Tryz.strings_Repeat (s:ByteArray) (c:Nat) (w:World) (hc:c≤9223372036854775807) (hlen:s.size*c≤140737488355328) :
 Calls Tryz.prog 143 #[.string s,.int .i64 c] w fun e w'=>e = .returned (.string ⟨(Lib.repeatL s.data.toList c).toArray⟩)∧Below w.heap.size w w':=Any.strings_Repeat Tryz.lays105 Tryz.Builder_Extra_105 s c w hc hlen
def Tryz.lays110_ren:Go.Shelf.Ren:=⟨fun|110=>47|109=>81|n=>n,fun|31=>22|9=>9|4=>4|3=>3|0=>0|n=>n,fun|n=>n⟩
theorem Tryz.lays110:Go.Proofs.Lays.n110 Tryz.prog Tryz.lays110_ren:={
 mixed:=by kernel_rfl
 f109:=Tryz.func81.trans (congrArg some (by kernel_rfl))
 f110:=Tryz.func47.trans (congrArg some (by kernel_rfl))
 t0:=Tryz.underlying0
 a0:=Tryz.isAgg0
 z0:=Tryz.sizeOf0
 v0:=Tryz.zeroValue0
 t3:=Tryz.underlying3
 a3:=Tryz.isAgg3
 z3:=Tryz.sizeOf3
 v3:=Tryz.zeroValue3
 t4:=Tryz.underlying4
 a4:=Tryz.isAgg4
 z4:=Tryz.sizeOf4
 v4:=Tryz.zeroValue4
 t9:=Tryz.underlying9
 a9:=Tryz.isAgg9
 z9:=Tryz.sizeOf9
 v9:=Tryz.zeroValue9
 t31:=Tryz.underlying22
 a31:=Tryz.isAgg22
 z31:=Tryz.sizeOf22
 v31:=Tryz.zeroValue22 }
open Go.Lib in
theorem Tryz.slices_Contains_string (b off n c:Nat) (zs:List ByteArray) (x:ByteArray) (w:World) (hz:n≤zs.length) (hbig:n≤9223372036854775807) (hc:∀ j,j<zs.length→w.cell? ⟨b,off+j,none⟩=some (.string (zs.getD j ByteArray.empty))) :
 Calls Tryz.prog 47 #[.slice (some ⟨b,off,none⟩) n c,.string x] w fun e w'=>e = .returned (.bool (Lib.containsS (zs.take n) x))∧w'=w:=Any.slices_Contains_string Tryz.lays110 b off n c zs x w hz hbig hc
open Go.Lib in
theorem Tryz.slices_Contains_string_empty (a:Option Addr) (c:Nat) (x:ByteArray) (w:World) :
 Calls Tryz.prog 47 #[.slice a 0 c,.string x] w fun e w'=>e = .returned (.bool false)∧w'=w:=Any.slices_Contains_string_empty Tryz.lays110 a c x w
end Go.Proofs
namespace Go.Proofs.YtmapgnepfgnphaaGreatDoor
open Go Go.DL Go.RowKit Go.Proofs.Tryz
variable {D:Nat→Option XFn} {Y:Nat→Option YI} {r:Nat→Option Nat} {h:XH} {H:Hp} {B:Base}

def gM (D:Nat→Option XFn) (K:Nat) (f:List AV→XH→Option (AV×XH)):Prop :=
 ∀ (B:Base) (Y:Nat→Option YI) (r:Nat→Option Nat) (h:XH) (H:Hp) (xs ys:List AV) (v:AV) (h':XH),SH D Y r h H→RnL D Y r xs ys→f xs h=some (v,h')→FnW B Tryz.prog K ys H (cS D Y r v h')

def yA:List AV→XH→Option (AV×XH):=fun xs h=>match xs with
 | [.str s,.int .i64 n]=>if 0≤n∧n≤1000000∧s.size≤1000 then some (.str ⟨⟨Go.Lib.repeatL s.data.toList n.toNat⟩⟩,h) else none
 | _=>none
theorem aEt {s:ByteArray} {k:IntKind} {n:Int} {as':List AV} (hr:RnL D Y r [.str s,.int k n] as'):as'=[.str s,.int k n]:=by
 obtain⟨a,as1,rfl,h1,h2⟩:=hr.inv
 obtain⟨b,as2,rfl,h3,h4⟩:=h2.inv
 rw[cL h1,bY h3,h4.nil_inv]
theorem aEy:gM D 143 yA:=by
 intro B Y r h H xs ys v h' sh hr hx
 unfold yA at hx
 split at hx
 ·rename_i s n
  split at hx
  ·rename_i hn
   cases hx
   rw[aEt hr]
   have hc:Calls Tryz.prog 143 #[.string s,.int .i64 (n.toNat:Int)]=Calls Tryz.prog 143 #[.string s,.int .i64 n]:=by rw[Int.toNat_of_nonneg hn.1]
   refine FnW.shelf (r:=fun _=>.string ⟨(Go.Lib.repeatL s.data.toList n.toNat).toArray⟩) (fun vs w=>call143 vs w) (fun F w vs=>.str _) (fun F w vs hl ha=>?_) ⟨r,Sub.refl r,sh,.str _⟩
   rw[ha.strInt,←hc]
   exact Tryz.strings_Repeat s n.toNat w (by omega) (by
    have h1:n.toNat≤1000000:=by omega
    have:=Nat.mul_le_mul hn.2.2 h1
    omega)
  ·cases hx
 ·cases hx

def wM:List (List AV)→Option (List ByteArray)
 | []=>some []
 | [.str x]::l=>(wM l).map (x :: ·)
 | _=>none
theorem sY:∀ {rows:List (List AV)} {xs:List ByteArray},wM rows=some xs→xs.length=rows.length∧∀ (j:Nat) (x:ByteArray),xs[j]?=some x→rows[j]?=some [.str x]
 | [],xs,h=>by simp only[wM,oSI]at h;subst h;simp
 | row::l,xs,h=>by
   unfold wM at h
   split at h
   ·rename_i h0;cases h0
   ·rename_i x l' h0
    cases h0
    cases hl:wM l with
    | none=>rw[hl]at h;cases h
    | some ys =>
      rw[hl]at h
      simp only[Option.map_some,oSI]at h
      subst h
      obtain⟨h1,h2⟩:=sY hl
      refine⟨by simp[h1],fun j y hj=>?_⟩
      cases j with
      | zero=>simp at hj;subst hj;rfl
      | succ j=>exact h2 j y (by simpa using hj)
   ·cases h

def aEB:List AV→XH→Option (AV×XH):=fun xs h=>match xs with
 | [.fs rows,.str sep]=>match wM rows with
   | some l=>if l.length≤1000∧(Go.Lib.join (l.map (·.data.toList)) sep.data.toList).length≤100000 then some (.str ⟨⟨Go.Lib.join (l.map (·.data.toList)) sep.data.toList⟩⟩,h) else none
   | none=>none
 | _=>none
theorem aJh:gM D 99 aEB:=by
 intro B Y r h H xs ys v h' sh hr hx
 unfold aEB at hx
 split at hx
 ·rename_i rows sep
  split at hx
  ·rename_i l hl
   split at hx
   ·rename_i hn
    cases hx
    obtain⟨a,as1,rfl,h1,h2⟩:=hr.inv
    obtain⟨b,as2,rfl,h3,h4⟩:=h2.inv
    rw[(rR h1).1,cL h3,h4.nil_inv]
    obtain⟨hlen,hget⟩:=sY hl
    refine FnW.shelf (r:=fun _=>.string ⟨(Go.Lib.join (l.map (·.data.toList)) sep.data.toList).toArray⟩) (fun vs w=>call99 vs w) (fun F w vs=>.str _) (fun F w vs hlt ha=>?_) ⟨r,Sub.refl r,sh,.str _⟩
    obtain⟨v1,vs1,rfl,k1,k2⟩:=ha.cons1
    obtain⟨v2,vs2,rfl,k3,k4⟩:=k2.cons1
    rw[k4.nil1]
    cases k3
    have none:∀ (a:Option Addr) (c:Nat),rows=[]→Calls Tryz.prog 99 #[.slice a 0 c,.string sep] w fun e w'=>e = .returned (.string ⟨(Go.Lib.join (l.map (·.data.toList)) sep.data.toList).toArray⟩)∧Below w.heap.size w w':=fun a c h0=>by
     subst h0
     have:l=[]:=List.eq_nil_of_length_eq_zero (by simpa using hlen)
     subst this
     exact(Tryz.strings_Join_none a c sep w).mono fun e w' ⟨he,hw⟩=>⟨by rw[he];rfl,hw▸Below.refl _ _⟩
    cases k1 with
    | fs0 a cap=>exact none a cap rfl
    | fs rows blk off s cap g hcap hF hs hc ho hv =>
      by_cases h0:rows=[]
      ·have:=none (some ⟨blk,off,Option.none⟩) cap h0
       subst h0
       exact this
      ·have hs1:s=1:=by
        obtain⟨row,rest,rfl⟩:=List.exists_cons_of_ne_nil h0
        have hl0:l.length=rest.length+1:=by simpa using hlen
        obtain⟨x,hx0⟩:∃ x,l[0]?=some x:=⟨_,List.getElem?_eq_getElem (by omega)⟩
        have:=hget 0 x hx0
        simp only[List.getElem?_cons_zero,oSI]at this
        rw[←hs row (by simp),this];rfl
       subst hs1
       rw[←hlen]
       refine Tryz.strings_Join blk off cap l sep w (fun j x hj=>?_) (hlt _ hF) (by omega) (by omega) (by omega)
       have h5:=hget j x hj
       have h6:=hc j _ 0 _ h5 rfl
       have h7:=hv j _ 0 _ h5 rfl
       generalize g j 0=y at h6 h7
       cases h7
       simpa using h6
   ·cases hx
  ·cases hx
 ·cases hx
variable {D:Nat→Option XFn} {Y:Nat→Option YI} {r:Nat→Option Nat} {h:XH} {H:Hp} {B:Base}

def kX (c:UInt8):List UInt8→List (List UInt8)
 | []=>[[]]
 | b::r=>if b=c then []::kX c r else match kX c r with
   | x::l=>(b::x)::l
   | []=>[[b]]
theorem wR (c:UInt8):∀ s:List UInt8,Lib.splitK [c] 0 (Lib.count s [c]) s=kX c s
 | []=>by rw[Lib.count_one];rfl
 | b::l=>by
   have ih:=wR c l
   by_cases h:b=c
   ·subst h
    have hix:Lib.index (b::l) [b]=0:=by rw[Lib.index];simp[List.isPrefixOf]
    rw[Lib.count_cons_eq,Nat.add_comm,Lib.splitK,hix]
    simp only[kX,if_true]
    rw[if_neg (by decide)]
    simp[ih]
   ·have hp:([c]:List UInt8).isPrefixOf (b::l)=false:=by simp[List.isPrefixOf,Ne.symm h]
    have hix:Lib.index (b::l) [c]=if Lib.index l [c] == -1 then -1 else Lib.index l [c]+1:=by rw[Lib.index,hp];simp
    rw[Lib.count_cons_ne b c l h]
    simp only[kX,if_neg h,←ih]
    cases hk:Lib.count l [c]with
    | zero=>rfl
    | succ k =>
      simp only[Lib.splitK]
      by_cases hm:Lib.index l [c] = -1
      ·rw[hix,if_pos (beq_iff_eq.2 hm)]
       simp[hm]
      ·have hge:=Lib.index_ge l [c]
       obtain⟨j,hj⟩:∃ j:Nat,Lib.index l [c]=j:=⟨(Lib.index l [c]).toNat,by omega⟩
       rw[hix,if_neg (fun e=>hm (beq_iff_eq.1 e)),hj]
       have h1:¬(((j:Int)+1 == -1)=true):=by simp;omega
       have h2:¬(((j:Int) == -1)=true):=by simp
       rw[if_neg h1,if_neg h2]
       have e:((j:Int)+1).toNat=j+1:=by omega
       simp[e,Nat.add_right_comm]

def vR:List AV→XH→Option (AV×XH):=fun xs h=>match xs with
 | [.str s,.str ⟨⟨[c]⟩⟩]=>if s.size≤100000 then some (.fs ((kX c s.data.toList).map fun l=>[.str ⟨⟨l⟩⟩]),h) else none
 | _=>none
theorem aJi:gM D 83 vR:=by
 intro B Y r h H xs ys v h' sh hr hx
 unfold vR at hx
 split at hx
 ·rename_i s c
  split at hx
  ·rename_i hn
   cases hx
   obtain⟨a,as1,rfl,h1,h2⟩:=hr.inv
   obtain⟨b,as2,rfl,h3,h4⟩:=h2.inv
   rw[cL h1,cL h3,h4.nil_inv]
   have hv:∀ x∈(kX c s.data.toList).map (fun l=>[AV.str ⟨⟨l⟩⟩]),∀ z∈x,Gd z:=fun x hx z hz=>by
    obtain⟨l,_,rfl⟩:=List.mem_map.1 hx
    simp only[List.mem_singleton]at hz
    subst hz;exact .str _
   refine FnW.shelfG (fun vs w=>call83 vs w) (fun F w vs gi hl ha=>?_) ⟨r,DL.Sub.refl r,sh,(Gd.fs _ hv).rn⟩
   obtain⟨hF3,m,hm⟩:=gi.2.1 3 (by simp[yX])
   rw[ha.strStr]
   refine(Tryz.strings_Split s ⟨#[c]⟩ m w (by omega) hm (by simp[ByteArray.size])).mono ?_
   rintro e w' ⟨rfl,rfl⟩
   have hsp:((Lib.splitB ⟨#[c]⟩ 0 (Lib.countB s ⟨#[c]⟩) s).map (·.data.toList))=kX c s.data.toList:=by
    rw[Lib.splitB_data];exact wR c s.data.toList
   have hlen:(Lib.splitB ⟨#[c]⟩ 0 (Lib.countB s ⟨#[c]⟩) s).length=Lib.countB s ⟨#[c]⟩+1:=Lib.splitB_all _ (by simp[ByteArray.size]) 0 _ _ rfl
   obtain⟨L,hL⟩:∃ L,L=Lib.splitB ⟨#[c]⟩ 0 (Lib.countB s ⟨#[c]⟩) s:=⟨_,rfl⟩
   rw[←hL]at hsp hlen ⊢
   have hrows:(kX c s.data.toList).map (fun l=>[AV.str ⟨⟨l⟩⟩])=L.map fun x=>[AV.str x]:=by
    rw[←hsp,List.map_map]
    rfl
   rw[hrows]
   refine⟨_,fun b=>F b∨b=w.heap.size,rfl,(Below.refl _ w).alloc (Nat.le_refl _) _,fun b hb=>.inl hb,fun b hb=>hb.elim .inl fun e=>.inr (by omega),fun b hb=>?_,?_⟩
   ·rcases hb with hb|rfl
    ·have:=hl b hb;simp;omega
    ·simp
   ·have hcell:∀ (j:Nat) (x:ByteArray),L[j]?=some x→(w.alloc (.cells (L.map Value.string).toArray 9)).cell? ⟨w.heap.size,j,none⟩=some (.string x):=fun j x hj=>by
     have hh:(w.alloc (.cells (L.map Value.string).toArray 9)).heap[w.heap.size]?=some (.cells (L.map Value.string).toArray 9 (0,0)):=by
      show (w.heap.push _)[w.heap.size]?=_
      simp
     unfold World.cell?
     dsimp only
     rw[hh]
     simp[hj]
    have hlen':(L.map fun x=>[AV.str x]).length=Lib.countB s ⟨#[c]⟩+1:=by rw[List.length_map,hlen]
    rw[←hlen']
    refine .fs _ w.heap.size 0 1 _ (fun i _=>.string (L.getD i ByteArray.empty)) (by omega) (.inr rfl) (fun x hx=>?_) (fun i x j z hi hj=>?_) (fun _ _=>rfl) (fun i x j z hi hj=>?_)
    ·obtain⟨y,_,rfl⟩:=List.mem_map.1 hx;rfl
    ·rw[List.getElem?_map,Option.map_eq_some_iff]at hi
     obtain⟨y,hy,rfl⟩:=hi
     cases j with
     | zero =>
       rw[List.getD_eq_getElem?_getD,hy]
       simpa using hcell i y hy
     | succ j=>simp at hj
    ·rw[List.getElem?_map,Option.map_eq_some_iff]at hi
     obtain⟨y,hy,rfl⟩:=hi
     cases j with
     | zero =>
       simp only[List.getElem?_cons_zero,oSI]at hj
       subst hj
       rw[List.getD_eq_getElem?_getD,hy]
       exact .str _
     | succ j=>simp at hj
  ·cases hx
 ·cases hx

theorem aLo {F:Nat→Prop} {w:World} (gi:GI F w):Lib.TabIs prog w "internal/strconv.uint64pow10" IntKind.u64 Lib.pow10Tab:=by
 obtain⟨_,e,fr,h2⟩:=gi.2.2.1 (0,(List.range 20).map fun i=>Value.int .u64 ((10^i:Nat):Int)) (by simp[yY])
 have hg:prog.globalNamed "internal/strconv.uint64pow10" = some 0:=by kernel_rfl
 unfold Lib.TabIs World.var?
 rw[hg]
 simp only[Option.bind_some]
 dsimp only at h2
 rw[h2]
 simp[Lib.pow10Tab,Function.comp_def]

def yC:List AV→XH→Option (AV×XH):=fun xs h=>match xs with
 | [.int .i64 n]=>if -9223372036854775808≤n∧n≤9223372036854775807 then some (.str ⟨⟨Lib.itoa n⟩⟩,h) else none
 | _=>none
theorem aMb {k:IntKind} {n:Int} {as':List AV} (hr:RnL D Y r [.int k n] as'):as'=[.int k n]:=by
 obtain⟨b,as2,rfl,h3,h4⟩:=hr.inv
 rw[bY h3,h4.nil_inv]
theorem aJn:gM D 57 yC:=by
 intro B Y r h H xs ys v h' sh hr hx
 unfold yC at hx
 split at hx
 ·rename_i n
  split at hx
  ·rename_i hn
   cases hx
   rw[aMb hr]
   refine FnW.shelfG (fun vs w=>call57 vs w) (fun F w vs gi hl ha=>?_) ⟨r,DL.Sub.refl r,sh,.str _⟩
   obtain⟨b,bs,rfl,h3,h4⟩:=ha.cons1
   cases h3;rw[h4.nil1]
   refine(Tryz.strconv_Itoa n hn.1 hn.2 w (aLo gi)).mono ?_
   rintro e w' ⟨rfl,k,os,rfl⟩
   have hbel:Below w.heap.size w («Sort».grow (w.drewN k) os):=by
    have h0:(w.drewN k).heap=w.heap:=rfl
    refine⟨rfl,rfl,rfl,?_,fun j hj=>?_⟩
    ·simp[«Sort».grow,h0]
    ·simp only[«Sort».grow,h0]
     exact Array.getElem?_append_left hj
   exact⟨_,F,rfl,hbel,fun _ h=>h,fun _ h=>.inl h,fun b hb=>Nat.lt_of_lt_of_le (hl b hb) hbel.size,.str _⟩
  ·cases hx
 ·cases hx
set_option maxHeartbeats 2000000 in
set_option maxRecDepth 100000 in
theorem aRy (b g cap:Nat) (p:Value) (cur:Array Value) (fr fz:Nat×Nat) (l:List UInt8) (w:World) (hbk:w.heap[b]?=some (.cells #[p,.slice (some ⟨g,0,none⟩) l.length cap] 126 fr)) (hg:w.heap[g]?=some (.cells cur 5 fz))
 (h0:l≠[]) (hnc:l.length≤cap) (hcs:l.length≤cur.size) (h63:l.length≤9223372036854775807) (hcell:∀ (j:Nat) (x:UInt8),l[j]?=some x→cur[j]?=some (.int .u8 x.toNat)) :
 Calls prog 71 #[.pointer (some ⟨b,0,none⟩)] w fun e w'=>e = .returned (.string ⟨l.toArray⟩)∧w'=w.drew.freeze ⟨g,0,none⟩ l.length:=by
 have hl0:l.length≠0:=by simpa using h0
 have c1:w.drew.cell? ⟨b,1,none⟩=some (.slice (some ⟨g,0,none⟩) l.length cap):=by
  have:w.drew.heap[b]?=some (.cells #[p,.slice (some ⟨g,0,none⟩) l.length cap] 126 fr):=hbk
  rw[Lib.cell_of_heap this];rfl
 have hSD:(Builtin.unsafeSliceData_ #[59] 183 #[.slice (some ⟨g,0,none⟩) l.length cap]).run prog w.drew = .ok (.pointer (some ⟨g,0,none⟩)) w.drew :=
  Lib.run_unsafeSliceData_row _ _ _ _ _ _ (by omega)
 have hUS:(Builtin.unsafeString_ #[183,3] 9 #[.pointer (some ⟨g,0,none⟩),.int .i64 l.length]).run prog w.drew = .ok (.string ⟨l.toArray⟩) (w.drew.freeze ⟨g,0,none⟩ l.length):=by
  refine Lib.run_unsafeString_row w.drew 183 3 9 5 underlying183 (by kernel_rfl) g cur.size (by have hg':w.drew.heap[g]?=some (.cells cur 5 fz):=hg;simp[World.shape?,hg']) l h0 hcs h63 ?_
  intro j x hx
  have hg':w.drew.heap[g]?=some (.cells cur 5 fz):=hg
  have:=hcell j x hx
  have e:(⟨g,0,none⟩:Addr).add j=⟨g,j,none⟩:=by
   by_cases hj:j=0
   ·subst hj;simp[Addr.add]
   ·simp[Addr.add,hj]
  rw[e]
  unfold World.cell?
  dsimp only
  rw[hg']
  simpa using this
 have mixed:prog.follows .mixedOrders=true:=rfl
 have u126:=run_underlying underlying126
 have u124:=run_underlying underlying124
 have u59:=run_underlying underlying59
 have u183:=run_underlying underlying183
 have u3:=run_underlying underlying3
 have u9:=run_underlying underlying9
 have u5:=run_underlying underlying5
 go_enter func71,ntmps71
 go_wp2
 go_region_o
 all_goals (go_wp2;go_ret;exact⟨rfl,rfl⟩)

theorem aFx:∃ j,prog.info? 126=some j∧j.size=2:=Option.map_eq_some_iff.1 (by kernel_rfl:(prog.info? 126).map (·.size)=some 2)
theorem aMo:liesAt prog prog.depth 126 (2/prog.cellsOf 126) 0 126 1=true:=by kernel_rfl

set_option maxHeartbeats 2000000 in
set_option maxRecDepth 100000 in
theorem aAt (b:Nat) (w:World) (h0:w.cell? ⟨b,0,none⟩=some (.pointer none)) (hsh:w.shape? b=some (126,2)) (hfz:w.frozen? ⟨b,0,none⟩=false) :
 Calls prog 115 #[.pointer (some ⟨b,0,none⟩)] w fun e w'=>e = .returned (.tuple #[])∧w'=w.setCell ⟨b,0,none⟩ (.pointer (some ⟨b,0,none⟩)):=by
 obtain⟨j,hj,hjs⟩:=aFx
 have mixed:prog.follows .mixedOrders=true:=rfl
 have u126:=run_underlying underlying126
 have u124:=run_underlying underlying124
 have u215:=run_underlying underlying215
 have u9:=run_underlying underlying9
 have u4:=run_underlying underlying4
 go_enter func115,ntmps115
 go_wp2
 rw[Lib.run_to_unsafe w ⟨b,0,none⟩ underlying124 underlying215 hj (by rw[hjs];decide) hsh (Nat.zero_lt_succ 1)]
 simp only[Result.andThen]
 rw[Oper.upon_value]
 go_wp2
 rw[run_callFunc_extern func140 (by kernel_rfl) (by kernel_rfl) (by kernel_rfl) (e:=Extern.AbiNoEscape.same) (by kernel_rfl)]
 rw[Lib.run_noEscape]
 simp only[Result.andThen]
 rw[Oper.upon_value]
 go_wp2
 rw[Lib.run_from_unsafe w ⟨b,0,none⟩ underlying215 underlying124 hj hsh aMo]
 simp only[Result.andThen]
 rw[Oper.upon_value]
 go_wp2
 go_end0
 exact⟨rfl,rfl⟩

set_option maxHeartbeats 2000000 in
set_option maxRecDepth 100000 in
theorem aCv (b:Nat) (w:World) (h0:w.cell? ⟨b,0,none⟩=some (.pointer (some ⟨b,0,none⟩))) :
 Calls prog 115 #[.pointer (some ⟨b,0,none⟩)] w fun e w'=>e = .returned (.tuple #[])∧w'=w:=by
 obtain⟨j,hj,hjs⟩:=aFx
 have mixed:prog.follows .mixedOrders=true:=rfl
 have u126:=run_underlying underlying126
 have u124:=run_underlying underlying124
 have u215:=run_underlying underlying215
 have u9:=run_underlying underlying9
 have u4:=run_underlying underlying4
 go_enter func115,ntmps115
 go_wp2
 rw[Lib.run_neq_ptr_same w _ underlying124 hj]
 go_wp2
 go_end0
 exact⟨rfl,rfl⟩

section
variable {D:Nat→Option XFn} {Y:Nat→Option YI} {r:Nat→Option Nat} {h:XH} {H:Hp} {B:Base}

def aEC:List AV→XH→Option (AV×XH):=fun xs h=>match xs with
 | [.bp b]=>match hat h b with
   | some (.blk _ (.cells true (.nilpt::l)))=>some (.tup [],h.set b (some (.blk false (.cells true (.pt b 0::l)))))
   | some (.blk _ (.cells true (.pt b' 0::_)))=>if b'=b then some (.tup [],h) else none
   | _=>none
 | _=>none
theorem aCp {b:Nat} {g:Bool} {x:ABlk} (h0:hat h b=some (.blk g x)):aE h b=some x:=by unfold aE;rw[h0]
theorem aDT {b:Nat} {w:World} {c:Array Value} {e:TypeId} {fr:Nat×Nat} {v:Value} (hb:w.heap[b]?=some (.cells c e fr)) (j:Nat) (hv:c[j]?=some v):w.cell? ⟨b,j,none⟩=some v:=by
 unfold World.cell?
 dsimp only
 rw[hb]
 simpa using hv

theorem aEz:gM D 115 aEC:=by
 intro B Y r h H xs ys v h' sh hr hx
 unfold aEC at hx
 split at hx
 ·rename_i b
  obtain⟨y,as1,rfl,h1,h2⟩:=hr.inv
  obtain⟨c,rfl,hrb⟩:=aIO h1
  rw[h2.nil_inv]
  split at hx
  ·rename_i g l hb
   cases hx
   obtain⟨g',cs',_,k2,k3,_⟩:=sh.cells hrb (aCp hb)
   obtain⟨z,l',rfl,k4,k5⟩:=k3.inv
   rw[xM k4]at k2
   refine⟨fun vs w=>call115 vs w,fun F w vs hB st ha=>?_⟩
   obtain⟨v1,vs1,rfl,a1,a2⟩:=ha.cons1
   rw[a2.nil1]
   cases a1 with
   | bp _ carr fr hcb hsz =>
   obtain⟨o,ho,hrb'⟩:=st.blk c _ k2
   rw[hcb]at ho
   simp only[oSI]at ho
   subst ho
   cases hrb' with
   | cells _ _ _ _ _ hfr hl hone hcells =>
   have hlt:c<w.heap.size:=(Array.getElem?_eq_some_iff.1 hcb).1
   obtain⟨v0,hv0⟩:∃ v0,carr[0]?=some v0:=⟨carr[0]'(by omega),Array.getElem?_eq_getElem _⟩
   have hn:=hcells 0 _ v0 rfl hv0
   cases hn
   refine callsIn_wide.2 ((aAt c w (aDT hcb 0 hv0) (by simp[World.shape?,hcb,hsz,aMP]) (by
    have:=hfr 0 (by omega)
    unfold World.frozen?
    dsimp only
    rw[hcb]
    exact this)).mono ?_)
   rintro e w' ⟨rfl,rfl⟩
   have hheap:(w.setCell ⟨c,0,none⟩ (.pointer (some ⟨c,0,none⟩))).heap=w.heap.setIfInBounds c (.cells (carr.setIfInBounds 0 (.pointer (some ⟨c,0,none⟩))) aMP fr):=by
    apply Array.ext_getElem?
    intro j
    rw[Array.getElem?_setIfInBounds]
    simp only[World.setCell,Array.getElem?_modify]
    by_cases hj:c=j
    ·subst hj
     rw[if_pos rfl,if_pos rfl,hcb]
     simp[hlt]
    ·rw[if_neg hj,if_neg hj]
   obtain⟨e1,e2⟩:=gG (w':=w.setCell ⟨c,0,none⟩ (.pointer (some ⟨c,0,none⟩))) (y:=.cells true (.pt c 0::l')) st k2 rfl hcb hheap ⟨rfl,rfl,rfl⟩ (fun c1 e1 fr1 hh=>by cases hh;exact⟨_,_,_,rfl,by simp⟩) (fun F1 w1 hu=>by
    refine .cells true _ _ _ fr (fun i hi=>hfr i (by simpa using hi)) (by simpa using hl) (fun i v hv=>?_) (fun i a v ha hv=>?_)
    ·rw[Array.getElem?_setIfInBounds]at hv
     split at hv
     ·split at hv
      ·cases hv;rfl
      ·cases hv
     ·exact hone i v hv
    ·rw[Array.getElem?_setIfInBounds]at hv
     split at hv
     ·rename_i hi0
      subst hi0
      split at hv
      ·cases hv
       simp only[List.getElem?_cons_zero,oSI]at ha
       subst ha
       exact .pt _ _
      ·cases hv
     ·rename_i hi0
      obtain⟨m,rfl⟩:∃ m,i=m+1:=⟨i-1,by omega⟩
      exact(hcells (m+1) a v (by simpa using ha) hv).up hu)
   refine⟨.tuple #[],.tup [],F,_,rfl,e1,e2,.tup _ _ rfl (by simp),r,DL.Sub.refl r,sh.turn hb hrb (.cells c false true _ _ (RnL.cons (.pt _ _ _ hrb) k5) (by simp)),.tup _ _ rfl (by simp)⟩
  ·rename_i g b' l hb
   split at hx
   ·rename_i hbb
    cases hx
    subst hbb
    obtain⟨g',cs',_,k2,k3,_⟩:=sh.cells hrb (aCp hb)
    obtain⟨z,l',rfl,k4,k5⟩:=k3.inv
    obtain⟨c',rfl,hr'⟩:=kD k4
    rw[hrb]at hr'
    cases hr'
    refine⟨fun vs w=>call115 vs w,fun F w vs hB st ha=>?_⟩
    obtain⟨v1,vs1,rfl,a1,a2⟩:=ha.cons1
    rw[a2.nil1]
    cases a1 with
    | bp _ carr fr hcb hsz =>
    obtain⟨o,ho,hrb'⟩:=st.blk c _ k2
    rw[hcb]at ho
    simp only[oSI]at ho
    subst ho
    cases hrb' with
    | cells _ _ _ _ _ hfr hl hone hcells =>
    obtain⟨v0,hv0⟩:∃ v0,carr[0]?=some v0:=⟨carr[0]'(by omega),Array.getElem?_eq_getElem _⟩
    have hn:=hcells 0 _ v0 rfl hv0
    cases hn
    refine callsIn_wide.2 ((aCv c w (aDT hcb 0 hv0)).mono ?_)
    rintro e w' ⟨rfl,rfl⟩
    exact⟨.tuple #[],.tup [],F,H,rfl,Ext.refl _ _ _,st,.tup _ _ rfl (by simp),r,DL.Sub.refl r,sh,.tup _ _ rfl (by simp)⟩
   ·cases hx
  ·cases hx
 ·cases hx

def aBu:List AV→Option (List UInt8)
 | []=>some []
 | .int .u8 n::r=>if 0≤n∧n<256 then (aBu r).map (UInt8.ofNat n.toNat :: ·) else none
 | _=>none
theorem aDX:∀ {bs:List AV} {l:List UInt8},aBu bs=some l→l.length=bs.length∧∀ (j:Nat) (x:UInt8),l[j]?=some x→bs[j]?=some (.int .u8 x.toNat)
 | [],l,h=>by simp only[aBu,oSI]at h;subst h;simp
 | v::bs,l,h=>by
   unfold aBu at h
   split at h
   ·rename_i h0;cases h0
   ·rename_i n r h0
    cases h0
    split at h
    ·rename_i hn
     cases hl:aBu bs with
     | none=>rw[hl]at h;cases h
     | some l' =>
       rw[hl]at h
       simp only[Option.map_some,oSI]at h
       subst h
       obtain⟨h1,h2⟩:=aDX hl
       refine⟨by simp[h1],fun j x hj=>?_⟩
       cases j with
       | zero =>
         simp only[List.getElem?_cons_zero,oSI]at hj
         subst hj
         have:((UInt8.ofNat n.toNat).toNat:Int)=n:=by
          rw[UInt8.toNat_ofNat']
          have:n.toNat%2^8=n.toNat:=Nat.mod_eq_of_lt (by omega)
          rw[this];omega
         rw[this];rfl
       | succ j=>exact h2 j x (by simpa using hj)
    ·cases h
   ·cases h

def aJs:List AV→XH→Option (AV×XH):=fun xs h=>match xs with
 | [.bp b]=>match hat h b with
   | some (.blk _ (.cells _ [_,.sb g n]))=>match hat h g with
     | some (.blk _ (.cells true bs))=>match aBu (bs.take n)with
       | some (x::l)=>if n≤bs.length∧g≠b∧n≤1000000 then some (.str ⟨⟨x::l⟩⟩,h.set g none) else none
       | _=>none
     | _=>none
   | _=>none
 | _=>none

theorem oX {w:World} {g n:Nat} {c:Array Value} {e:TypeId} {fr:Nat×Nat} (hg:w.heap[g]?=some (.cells c e fr)):∃ fr',(w.drew.freeze ⟨g,0,none⟩ n).heap[g]?=some (.cells c e fr')∧(∀ j,j≠g→(w.drew.freeze ⟨g,0,none⟩ n).heap[j]?=w.heap[j]?) ∧
 (w.drew.freeze ⟨g,0,none⟩ n).heap.size=w.heap.size∧SameIO w (w.drew.freeze ⟨g,0,none⟩ n):=by
 unfold World.freeze
 split
 ·exact⟨fr,hg,fun _ _=>rfl,rfl,⟨rfl,rfl,rfl⟩⟩
 ·have h0:w.drew.heap=w.heap:=rfl
  refine⟨if fr.1==fr.2 then (0,0+n) else (min fr.1 0,max fr.2 (0+n)),?_,fun j hj=>?_,by simp[h0],⟨rfl,rfl,rfl⟩⟩
  ·simp only[h0,Array.getElem?_modify,if_true,hg,Option.map_some]
  ·simp only[h0,Array.getElem?_modify]
   rw[if_neg (Ne.symm hj)]

theorem aJm:gM D 71 aJs:=by
 intro B Y r h H xs ys v h' sh hr hx
 unfold aJs at hx
 split at hx
 ·rename_i b
  obtain⟨y,as1,rfl,h1,h2⟩:=hr.inv
  obtain⟨c,rfl,hrb⟩:=aIO h1
  rw[h2.nil_inv]
  split at hx
  ·rename_i fl wr a0 g n hb
   split at hx
   ·rename_i fl2 bs hg
    split at hx
    ·rename_i x l hbl
     split at hx
     ·rename_i hc
      cases hx
      obtain⟨_,cs',_,k2,k3,_⟩:=sh.cells hrb (aCp hb)
      obtain⟨z0,l0,rfl,k4,k5⟩:=k3.inv
      obtain⟨z1,l1,rfl,k6,k7⟩:=k5.inv
      rw[k7.nil_inv]at k2
      obtain⟨gc,rfl,hrg⟩:=aIM k6
      obtain⟨_,bs',_,m2,m3,_⟩:=sh.cells hrg (aCp hg)
      obtain⟨hbl1,hbl2⟩:=aDX hbl
      have hlen:(x::l).length=n:=by rw[hbl1,List.length_take];omega
      have hne:gc≠c:=fun e=>hc.2.1 (sh.inj g b c _ _ hg hb (e▸hrg) hrb)
      refine⟨fun vs w=>call71 vs w,fun F w vs hB st ha=>?_⟩
      obtain⟨v1,vs1,rfl,a1,a2⟩:=ha.cons1
      rw[a2.nil1]
      cases a1 with
      | bp _ carr fr hcb hsz =>
      obtain⟨o,ho,hrb'⟩:=st.blk c _ k2
      rw[hcb]at ho
      simp only[oSI]at ho
      subst ho
      cases hrb' with
      | cells _ _ _ _ _ hfr hl hone hcells =>
      obtain⟨v0,hv0⟩:∃ v0,carr[0]?=some v0:=⟨carr[0]'(by omega),Array.getElem?_eq_getElem _⟩
      obtain⟨v1,hv1⟩:∃ v1,carr[1]?=some v1:=⟨carr[1]'(by omega),Array.getElem?_eq_getElem _⟩
      have hs:=hcells 1 _ v1 rfl hv1
      cases hs with
      | sb _ _ cap gcur gfr hgb hcap hle =>
      have hcarr:carr = #[v0,.slice (some ⟨gc,0,none⟩) n cap]:=by
       apply Array.ext_getElem?
       intro j
       match j with
       | 0=>rw[hv0];rfl
       | 1=>rw[hv1];rfl
       | j+2=>rw[Array.getElem?_eq_none (by omega),Array.getElem?_eq_none (by simp)]
      rw[hcarr]at hcb
      obtain⟨o2,ho2,hrg'⟩:=st.blk gc _ m2
      rw[hgb]at ho2
      simp only[oSI]at ho2
      subst ho2
      cases hrg' with
      | cells _ _ _ _ _ hfr2 hl2 hone2 hcells2 =>
      have hl2':bs.length=bs'.length:=m3.1
      rw[←hlen]at hcb
      refine callsIn_wide.2 ((aRy c gc cap v0 gcur fr gfr (x::l) w hcb hgb (by simp) (by omega) (by omega) (by omega) (fun j u hj=>?_)).mono ?_)
      ·have hb1:=hbl2 j u hj
       rw[List.getElem?_take]at hb1
       split at hb1
       ·obtain⟨u',hu1,hu2⟩:=m3.get hb1
        have hlt:j<bs'.length:=(List.getElem?_eq_some_iff.1 hu1).1
        obtain⟨q,hq⟩:∃ q,gcur[j]?=some q:=⟨gcur[j]'(by omega),Array.getElem?_eq_getElem _⟩
        have h9:=hcells2 j u' q hu1 hq
        rw[bY hu2]at h9
        cases h9
        exact hq
       ·cases hb1
      ·rintro e w' ⟨rfl,rfl⟩
       obtain⟨fr',f1,f2,f3,f4⟩:=oX (n:=(x::l).length) hgb
       have hE:Ext F w H F (w.drew.freeze ⟨gc,0,none⟩ (x::l).length) (iT H gc):=by
        refine⟨fun _ h=>h,fun _ h=>.inl h,fun j hj=>?_,fun j hj=>?_,by rw[f3];exact Nat.le_refl _,fun j hj hw=>?_,fun j c1 e1 fr1 hj=>?_,f4⟩
        ·unfold iT at hj
         split at hj
         ·cases hj
         ·exact .inl hj
        ·left
         unfold nO at hj ⊢
         unfold iT at hj
         by_cases hjg:j=gc
         ·simp[hjg]at hj
         ·simpa [hjg]using hj
        ·refine f2 j fun e=>?_
         subst e
         unfold nO at hw
         rw[m2]at hw
         simp[ABlk.wr]at hw
        ·by_cases hjg:j=gc
         ·subst hjg
          rw[hgb]at hj
          cases hj
          exact⟨_,_,_,f1,rfl⟩
         ·exact⟨c1,e1,fr1,by rw[f2 j hjg];exact hj,rfl⟩
       have hU:=hE.up st
       refine⟨.string ⟨(x::l).toArray⟩,.str ⟨⟨x::l⟩⟩,F,iT H gc,rfl,hE,⟨fun j hj=>by rw[f3];exact st.lt j hj,fun j y hj=>?_,fun j y hj=>?_⟩,.str _,r,DL.Sub.refl r,⟨fun b1 c1 hb1=>by simpa using sh.dom b1 c1 hb1,fun b1 b2 c1 x1 x2 q1 q2 q3 q4=>?_,fun b1 x1 q1=>?_,sh.gh.elim fun G hG=>⟨_,hG.drop hg hrg⟩⟩,.str _⟩
       ·unfold iT at hj
        split at hj
        ·cases hj
        ·exact st.dis j y hj
       ·unfold iT at hj
        split at hj
        ·cases hj
        ·rename_i hjg
         obtain⟨o,o1,o2⟩:=st.blk j y hj
         exact⟨o,by rw[f2 j hjg];exact o1,o2.up hU⟩
       ·have live:∀ b z,hat (h.set g none) b=some z→hat h b=some z:=fun b z hz=>by
         rw[cY]at hz
         split at hz
         ·cases hz
         ·exact hz
        exact sh.inj b1 b2 c1 x1 x2 (live _ _ q1) (live _ _ q2) q3 q4
       ·rw[cY]at q1
        split at q1
        ·cases q1
        ·rename_i hcd
         obtain⟨c2,y2,w1,w2,w3⟩:=sh.blk b1 x1 q1
         refine⟨c2,y2,w1,?_,w3⟩
         unfold iT
         rw[if_neg]
         ·exact w2
         ·intro e
          subst e
          exact hcd ⟨sh.inj b1 g _ x1 _ q1 hg w1 hrg,mZ hg⟩
     ·cases hx
    ·cases hx
   ·cases hx
  ·cases hx
 ·cases hx
end
section
variable {D:Nat→Option XFn} {Y:Nat→Option YI} {r:Nat→Option Nat} {h:XH} {H:Hp} {B:Base}
theorem qK {s t:ByteArray} {as':List AV} (hr:RnL D Y r [.str s,.str t] as'):as'=[.str s,.str t]:=by
 obtain⟨a,as1,rfl,h1,h2⟩:=hr.inv
 obtain⟨b,as2,rfl,h3,h4⟩:=h2.inv
 rw[cL h1,cL h3,h4.nil_inv]

def xZ:List AV→XH→Option (AV×XH):=fun xs h=>match xs with
 | [.str s,.str p]=>if s.size≤1000000 then some (.bool (Lib.hasSuffix s.data.toList p.data.toList),h) else none
 | _=>none
theorem aJp:gM D 37 xZ:=by
 intro B Y r h H xs ys v h' sh hr hx
 unfold xZ at hx
 split at hx
 ·rename_i s p
  split at hx
  ·rename_i hn
   cases hx
   rw[qK hr]
   refine FnW.shelf (r:=fun _=>.bool (Lib.hasSuffix s.data.toList p.data.toList)) (fun vs w=>call37 vs w) (fun F w vs=>.bool _) (fun F w vs hl ha=>?_) ⟨r,DL.Sub.refl r,sh,.bool _⟩
   rw[ha.strStr]
   exact(Tryz.strings_HasSuffix s p w (by omega)).mono fun e w' ⟨he,hw⟩=>⟨he,hw▸Below.refl _ _⟩
  ·cases hx
 ·cases hx

def yB:List AV→XH→Option (AV×XH):=fun xs h=>match xs with
 | [.str s,.str p]=>some (.tup [.str ⟨⟨Lib.trimPrefix s.data.toList p.data.toList⟩⟩,.bool (Lib.hasPrefix s.data.toList p.data.toList)],h)
 | _=>none
theorem aJl:gM D 72 yB:=by
 intro B Y r h H xs ys v h' sh hr hx
 unfold yB at hx
 split at hx
 ·rename_i s p
  cases hx
  rw[qK hr]
  have two:∀ (F:Nat→Prop) (w:World),Rv F w (.tup [.str ⟨⟨Lib.trimPrefix s.data.toList p.data.toList⟩⟩,.bool (Lib.hasPrefix s.data.toList p.data.toList)]) (.tuple #[.string ⟨(Lib.trimPrefix s.data.toList p.data.toList).toArray⟩,.bool (Lib.hasPrefix s.data.toList p.data.toList)]):=fun F w =>
   .tup _ _ rfl fun i x y hx hy=>by
    match i with
    | 0=>simp at hx hy;subst hx hy;exact .str _
    | 1=>simp at hx hy;subst hx hy;exact .bool _
    | k+2=>simp at hx
  refine FnW.shelf (r:=fun _=>.tuple #[.string ⟨(Lib.trimPrefix s.data.toList p.data.toList).toArray⟩,.bool (Lib.hasPrefix s.data.toList p.data.toList)]) (fun vs w=>call72 vs w) (fun F w vs=>two F w) (fun F w vs hl ha=>?_) ⟨r,DL.Sub.refl r,sh,(Gd.tup _ (fun c hc=>by
   simp only[List.mem_cons,List.not_mem_nil,or_false]at hc
   rcases hc with rfl|rfl
   ·exact .str _
   ·exact .bool _)).rn⟩
  rw[ha.strStr]
  exact(Tryz.strings_CutPrefix s p w).mono fun e w' ⟨he,hw⟩=>⟨he,hw▸Below.refl _ _⟩
 ·cases hx

def aEA:List AV→XH→Option (AV×XH):=fun xs h=>match xs with
 | [.str s,.str ⟨⟨[c]⟩⟩]=>if c.toNat<128∧s.size≤1000000 then some (.str ⟨⟨Lib.trimRightB s.data.toList c⟩⟩,h) else none
 | _=>none
theorem aJj:gM D 80 aEA:=by
 intro B Y r h H xs ys v h' sh hr hx
 unfold aEA at hx
 split at hx
 ·rename_i s c
  split at hx
  ·rename_i hn
   cases hx
   rw[qK hr]
   refine FnW.shelf (r:=fun _=>.string ⟨(Lib.trimRightB s.data.toList c).toArray⟩) (fun vs w=>call80 vs w) (fun F w vs=>.str _) (fun F w vs hl ha=>?_) ⟨r,DL.Sub.refl r,sh,.str _⟩
   rw[ha.strStr]
   exact(Tryz.strings_TrimRight_one s c hn.1 w (by omega)).mono fun e w' ⟨he,hw⟩=>⟨he,hw▸Below.refl _ _⟩
  ·cases hx
 ·cases hx

def aJt:List AV→XH→Option (AV×XH):=fun xs h=>match xs with
 | [.fs rows,.str x]=>match wM rows with
   | some l=>if l.length≤1000000 then some (.bool (Lib.containsS l x),h) else none
   | none=>none
 | _=>none
theorem aJo:gM D 47 aJt:=by
 intro B Y r h H xs ys v h' sh hr hx
 unfold aJt at hx
 split at hx
 ·rename_i rows x
  split at hx
  ·rename_i l hl
   split at hx
   ·rename_i hn
    cases hx
    obtain⟨a,as1,rfl,h1,h2⟩:=hr.inv
    obtain⟨b,as2,rfl,h3,h4⟩:=h2.inv
    rw[(rR h1).1,cL h3,h4.nil_inv]
    obtain⟨hlen,hget⟩:=sY hl
    refine FnW.shelf (r:=fun _=>.bool (Lib.containsS l x)) (fun vs w=>call47 vs w) (fun F w vs=>.bool _) (fun F w vs hlt ha=>?_) ⟨r,DL.Sub.refl r,sh,.bool _⟩
    obtain⟨v1,vs1,rfl,k1,k2⟩:=ha.cons1
    obtain⟨v2,vs2,rfl,k3,k4⟩:=k2.cons1
    rw[k4.nil1]
    cases k3
    have none:∀ (a:Option Addr) (c:Nat),rows=[]→Calls Tryz.prog 47 #[.slice a 0 c,.string x] w fun e w'=>e = .returned (.bool (Lib.containsS l x))∧Below w.heap.size w w':=fun a c h0=>by
     subst h0
     have:l=[]:=List.eq_nil_of_length_eq_zero (by simpa using hlen)
     subst this
     exact(Tryz.slices_Contains_string_empty a c x w).mono fun e w' ⟨he,hw⟩=>⟨by rw[he];rfl,hw▸Below.refl _ _⟩
    cases k1 with
    | fs0 a cap=>exact none a cap rfl
    | fs rows blk off s cap g hcap hF hs hc ho hv =>
      by_cases h0:rows=[]
      ·have:=none (some ⟨blk,off,Option.none⟩) cap h0
       subst h0
       exact this
      ·have hs1:s=1:=by
        obtain⟨row,rest,rfl⟩:=List.exists_cons_of_ne_nil h0
        have hl0:l.length=rest.length+1:=by simpa using hlen
        obtain⟨y,hy0⟩:∃ y,l[0]?=some y:=⟨_,List.getElem?_eq_getElem (by omega)⟩
        have:=hget 0 y hy0
        simp only[List.getElem?_cons_zero,oSI]at this
        rw[←hs row (by simp),this];rfl
       subst hs1
       have hcl:=Tryz.slices_Contains_string blk off l.length cap l x w (Nat.le_refl _) (by omega) (fun j hj=>by
        obtain⟨y,hy⟩:∃ y,l[j]?=some y:=⟨_,List.getElem?_eq_getElem hj⟩
        have h5:=hget j y hy
        have h6:=hc j _ 0 _ h5 rfl
        have h7:=hv j _ 0 _ h5 rfl
        rw[List.getD_eq_getElem?_getD,hy]
        generalize g j 0=z at h6 h7
        cases h7
        simpa using h6)
       rw[List.take_length]at hcl
       rw[←hlen]
       exact hcl.mono fun e w' ⟨he,hw⟩=>⟨he,hw▸Below.refl _ _⟩
   ·cases hx
  ·cases hx
 ·cases hx
end
def p75 (r:Nat):Bool:=decide (r<32)||decide (126<r)

set_option maxHeartbeats 2000000 in
set_option maxRecDepth 100000 in
theorem aWT (x:Nat) (hx:x≤1114111) (W:World):FnGives prog 75 #[] #[encR x] (.bool (p75 x)) W:=by
 unfold FnGives
 have u21:=run_underlying underlying21
 have u4:=run_underlying underlying4
 show Calls prog 75 (#[encR x] ++ #[]) W _
 by_cases h1:x<32
 ·have e:p75 x=true:=by simp[p75,h1]
  rw[e]
  have h1':(x:Int)<32:=by omega
  go_enter func75,ntmps75
  go_wp2
  all_goals (go_ret;exact⟨rfl,0,rfl⟩)
 ·by_cases h2:126<x
  ·have e:p75 x=true:=by simp[p75,h2]
   rw[e]
   have h1':¬(x:Int)<32:=by omega
   have h2':(126:Int)<x:=by omega
   go_enter func75,ntmps75
   go_wp2
   all_goals (go_ret;exact⟨rfl,0,rfl⟩)
  ·have e:p75 x=false:=by simp[p75];omega
   rw[e]
   have h1':¬(x:Int)<32:=by omega
   have h2':¬(126:Int)<x:=by omega
   go_enter func75,ntmps75
   go_wp2
   all_goals (go_ret;exact⟨rfl,0,rfl⟩)

def aAd:List UInt8→Bool
 | []=>false
 | b::r=>decide (b.toNat<32)||(decide (126<b.toNat)||aAd r)
theorem aHo (s:ByteArray) (pos:Nat) (h:128≤(s.get! pos).toNat):126<(Utf8.decode s pos).1:=by
 have h0:¬(s.get! (pos+0)).toNat<128:=by
  show ¬(s.get! pos).toNat<128
  omega
 unfold Utf8.decode
 dsimp only
 rw[if_neg h0]
 split
 ·split
  ·rename_i hc;exact Nat.lt_of_lt_of_le (by decide) hc
  ·decide
 ·split
  ·split
   ·rename_i hc
    simp only[Bool.and_eq_true,decide_eq_true_eq]at hc
    omega
   ·decide
  ·split
   ·split
    ·rename_i hc
     simp only[Bool.and_eq_true,decide_eq_true_eq]at hc
     omega
    ·decide
   ·decide
theorem aHn (s:ByteArray) (pos:Nat) (h:(s.get! pos).toNat<128):Utf8.decode s pos=((s.get! pos).toNat,1):=by
 have h0:(s.get! (pos+0)).toNat<128:=h
 unfold Utf8.decode
 dsimp only
 rw[if_pos h0]
 rfl
theorem aKa {s:ByteArray} {pos:Nat} {b:UInt8} {l:List UInt8} (h:s.data.toList.drop pos=b::l):s.get! pos=b∧pos<s.size∧s.data.toList.drop (pos+1)=l:=by
 have hlt:pos<s.data.toList.length:=by
  rcases Nat.lt_or_ge pos s.data.toList.length with h1|h1
  ·exact h1
  ·rw[List.drop_eq_nil_of_le h1]at h;cases h
 have hsz:s.size=s.data.toList.length:=by rw[Array.length_toList];rfl
 rw[List.drop_eq_getElem_cons hlt]at h
 simp only[List.cons.injEq]at h
 refine⟨?_,by omega,h.2⟩
 rw[←h.1]
 have:pos<s.data.size:=by simpa using hlt
 show s.data[pos]! = _
 rw[getElem!_pos s.data pos this]
 simp
theorem aGa (s:ByteArray):∀ (l:List UInt8) (f pos:Nat),s.data.toList.drop pos=l→l.length≤f→decide (0≤Lib.idxFuncFrom p75 true s f pos)=aAd l
 | [],f,pos,h,hf=>by
   have hsz:s.size=s.data.toList.length:=by rw[Array.length_toList];rfl
   have:¬pos<s.size:=fun hc=>by
    have:=List.length_drop (l:=s.data.toList) (i:=pos)
    rw[h]at this
    simp at this
    omega
   rw[Lib.idxFuncFrom_end p75 true s f pos this]
   rfl
 | b::l,0,pos,h,hf=>by simp at hf
 | b::l,f+1,pos,h,hf=>by
   obtain⟨h1,h2,h3⟩:=aKa h
   unfold Lib.idxFuncFrom
   rw[if_pos h2]
   by_cases hb:b.toNat<128
   ·rw[aHn s pos (by rw[h1];exact hb),h1]
    dsimp only
    by_cases hp:p75 b.toNat=true
    ·rw[if_pos hp]
     have:aAd (b::l)=true:=by
      unfold aAd
      unfold p75 at hp
      simp only[Bool.or_eq_true]at hp ⊢
      rcases hp with hp|hp
      ·exact .inl hp
      ·exact .inr (.inl hp)
     rw[this]
     simp
    ·rw[if_neg hp,aGa s l f (pos+1) h3 (by simpa using hf)]
     unfold p75 at hp
     simp only[Bool.or_eq_true,decide_eq_true_eq,not_or]at hp
     have e1:decide (b.toNat<32)=false:=decide_eq_false hp.1
     have e2:decide (126<b.toNat)=false:=decide_eq_false hp.2
     rw[aAd,e1,e2]
     simp
   ·have hd:=aHo s pos (by rw[h1];omega)
    have hp:p75 (Utf8.decode s pos).1=true:=by simp[p75,hd]
    rw[if_pos hp]
    have:aAd (b::l)=true:=by
     unfold aAd
     have:decide (126<b.toNat)=true:=decide_eq_true (by omega)
     rw[this]
     simp
    rw[this]
    simp

section
variable {D:Nat→Option XFn} {Y:Nat→Option YI} {r:Nat→Option Nat} {h:XH} {H:Hp} {B:Base}
def aJr:List AV→XH→Option (AV×XH):=fun xs h=>match xs with
 | [.str s,.fn (.func 75) [] []]=>some (.bool (aAd s.data.toList),h)
 | _=>none
theorem aJk:gM D 74 aJr:=by
 intro B Y r h H xs ys v h' sh hr hx
 unfold aJr at hx
 split at hx
 ·rename_i s
  cases hx
  obtain⟨a,as1,rfl,h1,h2⟩:=hr.inv
  obtain⟨b,as2,rfl,h3,h4⟩:=h2.inv
  rw[cL h1,h4.nil_inv]
  have hb:b = .fn (.func 75) [] []:=by
   cases h3 with
   | fn _ _ ys _ vs _ hl1 _ hl2 _ =>
     rw[List.eq_nil_of_length_eq_zero (l:=ys) (by simpa using hl1.symm),List.eq_nil_of_length_eq_zero (l:=vs) (by simpa using hl2.symm)]
  rw[hb]
  refine FnW.shelf (r:=fun _=>.bool (aAd s.data.toList)) (fun vs w=>call74 vs w) (fun F w vs=>.bool _) (fun F w vs hl ha=>?_) ⟨r,DL.Sub.refl r,sh,.bool _⟩
  obtain⟨v1,vs1,rfl,k1,k2⟩:=ha.cons1
  obtain⟨v2,vs2,rfl,k3,k4⟩:=k2.cons1
  rw[k4.nil1]
  cases k1
  cases k3 with
  | fn _ _ _ fv cv hl1 hl2 _ _ =>
    have e1:fv = #[]:=by
     rcases fv with ⟨_|⟨a,l⟩⟩
     ·rfl
     ·simp at hl1
    have e2:cv = #[]:=by
     rcases cv with ⟨_|⟨a,l⟩⟩
     ·rfl
     ·simp at hl2
    rw[e1,e2]
    have hc:=Tryz.strings_ContainsFunc_runes 75 #[] (fun vs w=>call75 vs w) p75 s w (fun W x hx _=>aWT x hx W)
    have he:decide (0≤Lib.idxFunc p75 true s)=aAd s.data.toList:=aGa s s.data.toList s.size 0 rfl (by rw[Array.length_toList];exact Nat.le_refl _)
    rw[he]at hc
    exact hc
 ·cases hx
end
end Go.Proofs.YtmapgnepfgnphaaGreatDoor
namespace Go.Proofs.YtmapgnepfgnphaaGreatDoor
open Go Go.DL Go.Proofs.Tryz
set_option maxRecDepth 10000

noncomputable def ops56:Array Oper:=match f56.body with
 | some (.seq (.region _ ops _) _)=>ops
 | _ => #[]
noncomputable def rest56:Code:=match f56.body with
 | some (.seq (.region _ _ _) c)=>c
 | _=>.skip
theorem aPA:f56.body=some (.seq (.region 0 ops56 false) rest56):=rfl
theorem aOK:∃ o,ops56[0]?=some o∧o.dst=some 4∧o.guard=none∧o.op = .call { callee:=.builtin .recover,args := #[],argTypes := #[] }:=⟨_,rfl,rfl,rfl,rfl⟩
theorem aOJ:∃ o,ops56[1]?=some o∧o.dst=some 5∧o.guard=none∧o.op = .typeAssert (.tmp 4) 20 110 true:=⟨_,rfl,rfl,rfl,rfl⟩
def kY:List DOper:=[⟨0,some 3,.mv (.t 5),none⟩,⟨0,some 6,.ext (.t 3) 0,none⟩,⟨0,some 7,.ext (.t 3) 1,none⟩,⟨0,some 1,.alloc [.int .i64 0],none⟩,⟨0,none,.store 1 (.t 1) (.t 6) [],none⟩,⟨0,some 2,.mv (.t 7),none⟩]
def tP:List DOper:=[⟨0,some 8,.mv (.t 2),none⟩]
def sH:List DOper:=[⟨0,some 9,.fld 0 (.t 1),none⟩,⟨0,some 10,.load false 1 (.t 9),none⟩,⟨0,some 11,.callf false (.c (.fn (.func 57) [] [])) [.t 10] [],none⟩,
 ⟨0,some 12,.bin .add (.c (.str ⟨#[110,111,32]⟩)) (.t 11),none⟩,⟨0,none,.store 1 (.t 0) (.t 12) [],none⟩]
noncomputable def ops56m:Array Oper:=match f56.body with
 | some (.seq _ (.seq (.region _ ops _) _))=>ops
 | _ => #[]
noncomputable def ops56l:Array Oper:=match f56.body with
 | some (.seq _ (.seq _ (.cond _ (.region _ ops _) _)))=>ops
 | _ => #[]
theorem aGQ:rest56 = .seq (.region 1 ops56m false) (.cond (.tmp 8) (.region 2 ops56l false) .skip):=rfl
theorem aMc:((ops56.toList.drop 2).mapM (uW prog ops56))=some kY:=by kernel_rfl
theorem aPs:pG prog 13 ops56m false=some tP:=by kernel_rfl
theorem aMK:pG prog 13 ops56l false=some sH:=by kernel_rfl
theorem aOp:ops56.size=8:=rfl
theorem aKL:∃ i,prog.info? 110=some i∧i.zero=some (.agg #[.int .i64 0]):=⟨_,rfl,rfl⟩
theorem aCI:∃ fs,prog.underlying 110=some (.struct fs):=⟨_,rfl⟩
theorem aRJ:f56.results = #[]:=rfl
theorem aRU:f56.ntmps=13:=rfl

noncomputable def code21:Code:=match f21.body with
 | some (.seq _ (.seq _ c))=>c
 | _=>.skip
noncomputable def r21_0:Array Oper:=match f21.body with
 | some (.seq (.region _ ops _) _)=>ops
 | _ => #[]
noncomputable def r21_1:Array Oper:=match f21.body with
 | some (.seq _ (.seq (.region _ ops _) _))=>ops
 | _ => #[]
theorem aKy:f21.body=some (.seq (.region 0 r21_0 false) (.seq (.region 1 r21_1 false) code21)):=rfl
theorem aNG:pG prog 41 r21_0 false=some [⟨0,some 4,.alloc [.str ⟨#[]⟩],none⟩]:=by kernel_rfl
theorem aOR:∃ o,r21_1[0]?=some o∧uW prog r21_1 o=some ⟨0,some 7,.mkf (.func 56) [] [.t 4],none⟩:=⟨_,rfl,by kernel_rfl⟩
theorem aTl:∃ o,r21_1[1]?=some o∧o.dst=none∧o.guard=none∧o.op = .defer { callee:=.value (.tmp 7),args := #[],argTypes := #[] }:=⟨_,rfl,rfl,rfl,rfl⟩
theorem aQF:r21_1.size=2:=rfl
theorem aNH:f21.ntmps=41:=rfl
theorem aNl:f21.results.toList.mapM (xS prog)=some [(4,some (false,1))]:=by kernel_rfl

section
variable {D:Nat→Option XFn} {B:Base} {Y:Nat→Option YI} {r:Nat→Option Nat} {h:XH} {H:Hp} {F:Nat→Prop} {w:World}

theorem aCr:∀ (j:Nat) (d:DOper),kY[j]?=some d→Reads prog ops56 (2+j) d:=by
 intro j d hj
 obtain⟨h1,h2⟩:=mA aMc
 obtain⟨o,h3,h4⟩:=h2 j d hj
 refine eS (o:=o) ?_ h4
 rw[List.getElem?_drop,Array.getElem?_toList]at h3
 exact h3
theorem aHd:∀ d∈kY,aDP 13 d:=by
 intro d hd
 simp only[kY,List.mem_cons,List.not_mem_nil,or_false]at hd
 rcases hd with rfl|rfl|rfl|rfl|rfl|rfl<;>exact⟨by intro k hk;simp at hk<;>omega,rfl⟩

theorem aNZ {run:bT} {runY:cO} (hf:FnS prog B D Y run) (hy:YS prog B D Y runY) (hm:prog.follows .mixedOrders=true) (hB:B.Up F w) (st:St F w H) (sh:SH D Y r h H) {c o b:Nat} (hrc:r c=some b)
 {i:aAu} (hi1:i.hops=kY++tP) (hi2:i.hlast=sH) (hi3:i.is=8) {v v':AV} {t:Bool} (hv:Rn D Y r v v') {h3:XH} (hx:oV i run runY (.pt c o) v t h=some h3)
 {x vv:Value} (hta:(Instr.typeAssert x 20 110 true).run prog w = .ok (.tuple #[vv,.bool t]) w) (hvv:Rv F w v' vv) {cs:List Frame} {Q:Exit→Act→List Frame→World→Prop} {a:Act} (ha:a.tmps.size=13) (hdf:a.defers=[])
 (ha4:a.eval (.tmp 4)=x) (ha0:a.tmps.getD 0 undef = .pointer (some ⟨b,o,none⟩)) (gi:GI F w)
 (hQ:∀ a' F' w' H' r',a'.defers=[]→Ext F w H F' w' H'→St F' w' H'→Sub r r'→SH D Y r' h3 H'→Q .normal a' cs w') :
 wpOpsIn Fence.wide 0 prog ops56 (fun e a w=>Exit.thenS (rest56.wpSIn Fence.wide 0 prog Q) Q e a cs w) (List.range' 1 7) a w:=by
 obtain⟨o1,g1,g2,g3,g4⟩:=aOJ
 rw[List.range'_succ,wpOpsIn_cons]
 unfold wpOpIn
 simp only[g1]
 have hw:Region.wanted o1 (yielded ops56 a.tmps)=true:=by unfold Region.wanted;rw[g3]
 rw[if_pos hw]
 refine⟨fun _ _=>trivial,?_⟩
 have hs:(o1.semAt Fence.wide.round a.eval).run prog w = .ok (.value (.tuple #[vv,.bool t])) w:=by
  rw[Oper.semAt_eq _ _ _ (by rw[g4];simp)]
  simp[execOp,g4,ha4,hta]
 rw[hs,Oper.uponIn_value,g2]
 have hsr:SR D Y r (yT (.pt c o) v t) h (yT (.pt b o) v' t) H:=⟨sh,fun j=>by
  unfold yT
  split
  ·exact .pt _ _ _ hrc
  ·split
   ·exact .tup _ _ rfl fun i x y hx hy=>by
     match i with
     | 0=>simp at hx hy;subst hx hy;exact hv
     | 1=>simp at hx hy;subst hx hy;exact .bool _
     | k+2=>simp at hx
   ·exact .any _⟩
 have hre:RE F w (yT (.pt b o) v' t) (a.put (some 5) (.tuple #[vv,.bool t])):=⟨fun k=>by
  unfold yT
  have hsz5:5<a.tmps.size:=by omega
  split
  ·rename_i hk;subst hk
   simp only[Act.put,Array.getD_eq_getD_getElem?,Array.getElem?_setIfInBounds]at ha0 ⊢
   simp only[show ¬(5=0) by omega,if_false]
   rw[ha0];exact .pt _ _
  ·split
   ·rename_i hk;subst hk
    simp only[Act.put,Array.getD_eq_getD_getElem?,Array.getElem?_setIfInBounds,if_true,hsz5,Option.getD_some]
    exact .tup _ _ rfl fun i x y hx hy=>by
     match i with
     | 0=>simp at hx hy;subst hx hy;exact hvv
     | 1=>simp at hx hy;subst hx hy;exact .bool _
     | k+2=>simp at hx
   ·exact .any _,gi⟩
 unfold oV at hx
 split at hx
 ·rename_i e1 h1 hx1
  rw[hi1]at hx1
  have R:=aAQ (eH (P:=prog) (B:=B) hf hy (kY++tP) r _ h _ H e1 h1 (fun env' H'=>∃ r',Sub r r'∧SR D Y r' e1 h1 env' H') rfl hsr hx1 (fun r' env' H' hs sr'=>⟨r',hs,sr'⟩))
  refine xT (r:=none) (B:=B) (N:=13) kY 2 aCr aHd F w H _ _ (by simpa [Act.put]using ha) hB st hre R ?_
  intro a3 F3 w3 env3 H3 s1 s2 s3 s4 s5 s6
  show rest56.wpSIn Fence.wide 0 prog Q a3 cs w3
  rw[aGQ]
  have hB3:=hB.step st s3
  refine wpSIn_seq (wpSIn_of_wpIn rfl (gO (B:=B) (r:=none) (F:=F3) (H:=H3) (env:=env3) (N:=13) (draw:=false) hm aPs s1 hB3 s4 s5 s6 ?_))
  rintro a4 F4 w4 env4 H4 q1 q2 q3 q4 q5 ⟨r4,q6,q7⟩
  show (Code.cond (.tmp 8) (.region 2 ops56l false) .skip).wpSIn Fence.wide 0 prog Q a4 cs w4
  have hd4:a4.defers=[]:=by rw[q2,s2];exact hdf
  have E4:=s3.trans q3
  have h8:=q7.re i.is
  rw[hi3]at h8 hx
  split at hx
  ·rename_i h8t
   rw[h8t]at h8
   have hev:a4.eval (.tmp 8) = .bool true:=by
    have:=q5.rv 8
    rw[dL h8]at this
    show a4.tmps.getD 8 undef=_
    generalize a4.tmps.getD 8 undef=z at this
    cases this;rfl
   refine wpSIn_cond (t:=true) hev ?_
   simp only[Option.map_eq_some_iff]at hx
   obtain⟨⟨e5,h5⟩,hx5,rfl⟩:=hx
   rw[hi2]at hx5
   refine wpSIn_of_wpIn rfl (gO (B:=B) (r:=none) (F:=F4) (H:=H4) (env:=env4) (N:=13) (draw:=false) hm aMK q1 (hB3.step s4 q3) q4 q5
    (eH (P:=prog) (B:=B) hf hy sH r4 _ h1 _ H4 e5 h5 (fun env' H'=>∃ r',Sub r r'∧SR D Y r' e5 h5 env' H') rfl q7 hx5 (fun r' env' H' hs sr'=>⟨r',q6.trans hs,sr'⟩)) ?_)
   rintro a5 F5 w5 env5 H5 p1 p2 p3 p4 p5 ⟨r5,p6,p7⟩
   exact hQ a5 F5 w5 H5 r5 (by rw[p2];exact hd4) (E4.trans p3) p4 p6 p7.sh
  ·rename_i h8t
   rw[h8t]at h8
   simp only[oSI]at hx
   subst hx
   have hev:a4.eval (.tmp 8) = .bool false:=by
    have:=q5.rv 8
    rw[dL h8]at this
    show a4.tmps.getD 8 undef=_
    generalize a4.tmps.getD 8 undef=z at this
    cases this;rfl
   refine wpSIn_cond (t:=false) hev ?_
   exact wpSIn_of_wpIn rfl (wpIn_skip (hQ a4 F4 w4 H4 r4 hd4 E4 q4 q6 q7.sh))
  ·simp at hx
 ·simp at hx

theorem aDY (vv:Value):(Instr.typeAssert (.iface 110 vv) 20 110 true).run prog w = .ok (.tuple #[vv,.bool true]) w:=by
 obtain⟨fs,hfs⟩:=aCI
 simp[Instr.typeAssert,run_underlying hfs]
theorem aFi:(Instr.typeAssert .nilIface 20 110 true).run prog w = .ok (.tuple #[.agg #[.int .i64 0],.bool false]) w:=by
 obtain⟨fs,hfs⟩:=aCI
 obtain⟨i,hi,hz⟩:=aKL
 simp[Instr.typeAssert,run_underlying hfs,zeroValue,typeInfo,hi,hz]

theorem aJY {run:bT} {runY:cO} (hf:FnS prog B D Y run) (hy:YS prog B D Y runY) (hm:prog.follows .mixedOrders=true) (hB:B.Up F w) (st:St F w H) (sh:SH D Y r h H) {c o b:Nat} (hrc:r c=some b)
 {i:aAu} (hi1:i.hops=kY++tP) (hi2:i.hlast=sH) (hi3:i.is=8) {v v':AV} {t:Bool} (hv:Rn D Y r v v') {h3:XH} (hx:oV i run runY (.pt c o) v t h=some h3) {u:FrameMode} {R:Ending→FrameMode→World→Prop} {cval:Value}
 (hu:(t=true∧u = .panicking (pnc cval)∧Rv F w (.ifc 110 v') cval)∨(t=false∧u = .returning∧v' = .agg [.int .i64 0]))
 (hR:∀ F' w' H' r' u',settle u' = .returning→Ext F w H F' w' H'→St F' w' H'→Sub r r'→SH D Y r' h3 H'→R (.returned (.tuple #[])) u' w') :
 CallsDIn Fence.wide 0 prog 56 #[.pointer (some ⟨b,o,none⟩)] u w R:=by
 refine callsDIn_of_wpSIn func56 aPA trivial fun c₀ cs hc0=>?_
 rw[aRU]
 obtain⟨o0,g1,g2,g3,g4⟩:=aOK
 refine wpSIn_seq (aAc g1 g3 (fun _ _=>trivial) (by simp[execOp,resolve,g4,invoke,builtin]) rfl ?_)
 have fin:∀ (x vv:Value) (cs':List Frame) (u':FrameMode),cs'={ c₀ with mode:=u' }::cs→settle u' = .returning→(Instr.typeAssert x 20 110 true).run prog w = .ok (.tuple #[vv,.bool t]) w→Rv F w v' vv →
  wpOpsIn Fence.wide 0 prog ops56 (fun e a w=>Exit.thenS (rest56.wpSIn Fence.wide 0 prog (bodyPostS prog f56 c₀ cs R)) (bodyPostS prog f56 c₀ cs R) e a cs' w) (List.range' 1 (ops56.size-1))
   (Act.put { tmps := #[.pointer (some ⟨b,o,none⟩)]++Array.replicate (13 - #[Value.pointer (some ⟨b,o,none⟩)].size) undef,defers:=[] } o0.dst x) w:=by
  intro x vv cs' u' hcs hset hta hvv
  rw[g2,aOp]
  refine aNZ hf hy hm hB st sh hrc hi1 hi2 hi3 hv hx hta hvv (by simp[Act.put]) rfl (by simp[Act.put,Act.eval]) (by simp[Act.put]) (B.gi.up hB) ?_
  intro a' F' w' H' r' k1 k2 k3 k4 k5
  refine⟨k1,u',hcs,.tuple #[],?_,hR F' w' H' r' u' hset k2 k3 k4 k5⟩
  simp[results,aRJ]
 rcases hu with ⟨rfl,rfl,hc⟩|⟨rfl,rfl,rfl⟩
 ·cases hc with
  | ifc _ _ vv hvv =>
  have hrec:recoverD (c₀::cs)=some (.iface 110 vv,{ c₀ with mode:=.panicking [{ v:=.iface 110 vv,recovered:=true }] }::cs):=by
   simp[recoverD,hc0,pnc]
  rw[hrec]
  exact fin _ vv _ _ rfl rfl (aDY vv) hvv
 ·have hrec:recoverD (c₀::cs)=none:=by simp[recoverD,hc0]
  rw[hrec]
  exact fin _ (.agg #[.int .i64 0]) _ .returning (by rw[←hc0]) rfl aFi (.agg _ _ rfl (fun i v hv=>by
   match i with
   | 0=>simp at hv;subst hv;rfl
   | k+1=>simp at hv) (fun i x y hx hy=>by
   match i with
   | 0=>simp at hx hy;subst hx hy;exact .int _ _
   | k+1=>simp at hx))

def b21:XCode:=(.seq (.reg [(0,false)] false [⟨0,(some 8),(.mv (.t 0)),none⟩,⟨0,(some 9),(.callf false (.c (.fn (.func 59) [] [])) [(.t 8)] []),none⟩,⟨0,(some 10),
 (.not (.t 9)),none⟩,⟨0,(some 11),(.callf false (.c (.fn (.func 58) [] [])) [(.t 10),(.c (.int .i64 9))] []),none⟩]) (.seq (.reg [(1,false)] false
 [⟨0,(some 12),(.mv (.t 1)),none⟩,⟨0,(some 13),(.callf false (.c (.fn (.func 60) [] [])) [(.t 12)] []),none⟩,⟨0,(some 5),(.alloc [(.str ⟨#[]⟩),
 .nilsl,.nilsl]),none⟩,⟨0,none,(.store 3 (.t 5) (.t 13) []),none⟩]) (.seq (.reg [(0,false),(5,true)] false [⟨0,(some 14),(.mv (.t 0)),none⟩,⟨0,
 (some 15),(.load true 3 (.t 5)),none⟩,⟨0,(some 16),(.callf false (.c (.fn (.func 61) [] [])) [(.t 14),(.t 15)] []),none⟩,⟨0,(some 6),(.mv (.t
 16)),none⟩]) (.seq (.seq (.reg [] false [⟨0,(some 17),(.mv (.t 6)),none⟩,⟨0,(some 18),(.eqn 2 false (.t 17) (.c .nilfn)),none⟩]) (.cond (.t 18)
 (.seq (.reg [(0,false),(5,true)] false [⟨0,(some 19),(.mv (.t 0)),none⟩,⟨0,(some 20),(.load true 3 (.t 5)),none⟩,⟨0,(some 21),(.callf false (.c
 (.fn (.func 62) [] [])) [(.t 19),(.t 20)] []),none⟩,⟨0,none,(.store 1 (.t 4) (.t 21) []),none⟩]) .ret) .skip)) (.seq (.reg [] false [⟨0,(some 22),
 (.mv (.t 0)),none⟩,⟨0,(some 23),(.nilck (.t 22)),none⟩,⟨0,(some 24),(.fld 6 (.t 23)),none⟩,⟨0,(some 25),(.load false 1 (.t 24)),none⟩,⟨0,
 (some 26),(.len false (.t 25)),none⟩,⟨0,(some 27),(.bin .lss (.t 26) (.c (.int .i64 300))),none⟩,⟨0,(some 28),(.callf false (.c (.fn (.func 58) []
 [])) [(.t 27),(.c (.int .i64 15))] []),none⟩]) (.seq (.reg [] false [⟨0,(some 29),(.mv (.t 6)),none⟩,⟨0,(some 30),(.callf false (.t 29) [] []),
 none⟩]) (.seq (.reg [(1,false)] false [⟨0,(some 31),(.mv (.t 0)),none⟩,⟨0,(some 32),(.mv (.t 0)),none⟩,⟨0,(some 33),(.nilck (.t 32)),none⟩,⟨0,
 (some 34),(.fld 6 (.t 33)),none⟩,⟨0,(some 35),(.load false 1 (.t 34)),none⟩,⟨0,(some 36),(.mv (.t 1)),none⟩,⟨0,(some 37),(.bslice 1 1 [(.str
 ⟨#[]⟩)] [(0,(1,(.t 36)))]),none⟩,⟨0,(some 38),(.app 1 16 (.t 35) (.t 37)),none⟩,⟨0,(some 39),(.nilck (.t 31)),none⟩,⟨0,(some 40),(.fld 6 (.t
 39)),none⟩,⟨0,none,(.store 1 (.t 40) (.t 38) []),none⟩]) (.seq (.reg [] false [⟨0,none,(.store 1 (.t 4) (.c (.str ⟨#[111,107]⟩)) []),none⟩])
 .ret))))))))
def saySay:aAu:=⟨41,[(4,some (false,1))],[⟨0,some 4,.alloc [.str ⟨#[]⟩],none⟩],4,7,b21,110,.agg [.int .i64 0],kY++tP,8,sH⟩
theorem pX:cH prog 41 code21=some b21.erase:=by kernel_rfl
theorem aMh:lB b21=true:=by kernel_rfl
theorem aMj:oO b21=true:=by kernel_rfl

theorem aMC {i:aAu} (sh:SH D Y r h H) {r1:Nat→Option Nat} {e1 env1:aB} {h1:XH} {H1:Hp} (ha:Agree h.length r r1) (sr:SR D Y r1 e1 h1 env1 H1) {v:AV} {h':XH} (hx:wW i h.length e1 h1=some (v,h')) :
 ∃ v1,eL i.res env1 H1=some v1∧∃ v' H'',Shift (upd anyE 0 v1) H1 (upd anyE 0 v') H''∧cS D Y r v h' v' H'':=by
 unfold wW at hx
 simp only[Option.map_eq_some_iff]at hx
 obtain⟨v0,hv0,hfin⟩:=hx
 obtain⟨v0',k1,k2⟩:=vP sr hv0
 refine⟨v0',k1,?_⟩
 have sr2:SR D Y r1 (upd anyE 0 v0) h1 (upd anyE 0 v0') H1:=⟨sr.sh,fun j=>by
  simp only[upd]
  split
  ·exact k2
  ·exact .any _⟩
 obtain⟨env2,H2,s1,s2⟩:=nA (fV h1 2 (vK v0)) _ _ _ _ sr2
 have hz:=(s2.re 0).nz
 obtain⟨r2,m1,m2,m3⟩:=pV s2.sh hz (k:=h.length)
 refine⟨nP (env2 0),H2,s1.trans ?_,r2,fun b c hb=>m1 b c (sh.dom b c hb) (ha b c (sh.dom b c hb) hb),?_,?_⟩
 ·intro F w a st re
  refine⟨F,Ext.refl _ _ _,st,fun j=>?_,re.gi⟩
  simp only[upd]
  split
  ·rename_i hj;subst hj;exact(re.rv 0).nz
  ·exact .any _
 ·unfold gL at hfin
  simp only[Bool.false_eq_true,if_false,Prod.mk.injEq]at hfin
  rw[←hfin.2];exact m2
 ·unfold gL at hfin
  simp only[Bool.false_eq_true,if_false,Prod.mk.injEq]at hfin
  rw[←hfin.1];exact m3

theorem aOq {d21:XFn} (hD:D 21=some d21) (hN:d21.N=41) (hm:prog.follows .mixedOrders=true):aKI prog D saySay 21:=by
 intro run runY runP n hall hallP B Y hY r h H xs as' v h' sh hA hx
 obtain⟨hf,hy⟩:=hall B Y hY
 unfold aOr at hx
 split at hx
 ·rename_i hlen
  split at hx
  ·rename_i e1 h1 hx1
   split at hx
   ·rename_i c o he1
    split at hx
    ·rename_i hc
     have hA1:=hA.nz
     refine FnW.nz (FnW.shift ⟨fun vs w=>call21 vs w,fun F w vs hB st hAr=>?_⟩)
     have hsz:(vs++Array.replicate (f21.ntmps-vs.size) undef).size=41:=by
      have h1:=hAr.1
      have h2:=hA1.1
      rw[eV,List.length_map]at h2
      have:xs.length≤41:=hlen
      rw[aNH];simp;omega
     have hre:=sT (N:=41) (nt:=f21.ntmps-vs.size) hB hAr
     have RS0:=eH (P:=prog) (B:=B) hf hy saySay.pre r _ h _ H e1 h1 (fun env' H'=>∃ r',DL.Sub r r'∧SR D Y r' e1 h1 env' H') rfl ⟨sh,fX hA1⟩ hx1 (fun r' env' H' hs sr'=>⟨r',hs,sr'⟩)
     refine callsIn_of_wp_marks func21 aKy trivial (wpIn_seq (gO (B:=B) (r:=none) (N:=41) (draw:=false) hm aNG hsz hB st hre RS0 ?_))
     rintro a1 F1 w1 env1 H1 p1 p2 p3 p4 p5 ⟨r1,p6,p7⟩
     show (Code.seq (.region 1 r21_1 false) code21).wpIn Fence.wide 0 prog _ a1 w1
     have hB1:=hB.step st p3
     have h4:=p7.re 4
     have he1':e1 4 = .pt c o:=he1
     rw[he1']at h4
     obtain⟨b,hrb,henv4⟩:∃ b,r1 c=some b∧env1 4 = .pt b o:=by
      generalize env1 4=z at h4
      cases h4 with
      | pt _ b _ hb=>exact⟨b,hb,rfl⟩
     refine wpIn_seq (wpIn_region ?_)
     rw[aQF,show List.range 2=[0,1] from rfl,wpOpsIn_cons]
     obtain⟨o0,g1,g2⟩:=aOR
     obtain⟨o1,k1,k2,k3,k4⟩:=aTl
     refine wU (r:=none) (B:=B) (N:=41) (K:=fun env' H'=>env'=aM env1 (some 7) (.fn (.func 56) [] [.pt b o])∧H'=H1) (eS g1 g2) rfl (fun k hk=>by simp at hk;omega) p1 hB1 p4 p5 ?_ ?_
     ·rw[aDq,iV rfl]
      simp only[aA,List.map_nil,List.map_cons,aG,henv4,optW_some,dY]
      exact⟨by trivial,by trivial⟩
     rintro a2 F2 w2 env2 H2 s1 s2 s3 s4 s5 ⟨rfl,rfl⟩
     rw[wpOpsIn_cons]
     unfold wpOpIn
     simp only[k1]
     have hw:Region.wanted o1 (yielded r21_1 a2.tmps)=true:=by unfold Region.wanted;rw[k3]
     rw[if_pos hw]
     have h7:a2.eval (.tmp 7) = .func (.func 56) #[] #[.pointer (some ⟨b,o,none⟩)]:=by
      have:=s5.rv 7
      simp only[aM,upd,if_true]at this
      show a2.tmps.getD 7 undef=_
      generalize a2.tmps.getD 7 undef=z at this
      cases this with
      | fn _ _ _ fv cv hl1 hl2 q1 q2 =>
        have e1:fv = #[]:=by
         rcases fv with ⟨_|⟨a,l⟩⟩
         ·rfl
         ·simp at hl1
        have e2:cv = #[.pointer (some ⟨b,o,none⟩)]:=by
         rcases cv with ⟨_|⟨a,_|⟨a',l⟩⟩⟩
         ·simp at hl2
         ·have:=q2 0 _ a rfl rfl
          cases this;rfl
         ·simp at hl2
        rw[e1,e2]
     refine⟨fun _ _=>trivial,?_⟩
     have hsem:(o1.semAt Fence.wide.round a2.eval).run prog w2 = .ok (.defer { target:=.fn (.func 56) #[.pointer (some ⟨b,o,none⟩)],args := #[] }) w2:=by
      have:Fence.wide.round=none:=rfl
      rw[this,Oper.semAt_none]
      simp[execOp,resolve,k4,h7,Deferred.ofValue]
     rw[hsem,Oper.uponIn_defer,k2]
     have hdf:a2.defers=[]:=by rw[s2,p2]
     obtain⟨T,hT⟩:∃ T:List Deferred,T=[{ target:=.fn (.func 56) #[.pointer (some ⟨b,o,none⟩)],args := #[] }]:=⟨_,rfl⟩
     have hact:Act.put { a2 with defers:={ target:=.fn (.func 56) #[.pointer (some ⟨b,o,none⟩)],args := #[] }::a2.defers } none undef={ tmps:=a2.tmps,defers:=T }:=by
      rw[hdf,hT];rfl
     rw[hact]
     show code21.wpIn Fence.wide 0 prog _ { tmps:=a2.tmps,defers:=T } w2
     have hB2:=hB1.step p4 s3
     have E2:=p3.trans s3
     have sr2:SR D Y r1 (upd e1 7 .any) h1 (aM env1 (some 7) (.fn (.func 56) [] [.pt b o])) H2:=⟨p7.sh,fun j=>by
      simp only[upd,aM]
      split
      ·exact .any _
      ·exact p7.re j⟩
     have ag1:Agree h.length r r1:=p6.agree _
     have out:∀ (F':Nat→Prop) (w':World) (H':Hp) (env':aB) (tmps:Array Value) (ds:List Deferred) (r3:Nat→Option Nat) (e2:aB) (h2 h3:XH) (u:FrameMode) (v0 v0':AV) (t:Bool) (cval:Value),u ≠ .run→Ext F w H F' w' H'→St F' w' H'→RE F' w' env' { tmps:=tmps,defers:=[] } →
      Mk w2.heap.size T F' H' w' ds→Agree h1.length r1 r3→SR D Y r3 e2 h2 env' H'→Rn D Y r3 v0 v0'→oV saySay run runY (.pt c o) v0 t h2=some h3→wW saySay h.length e2 h3=some (v,h') →
      ((t=true∧u = .panicking (pnc cval)∧Rv F' w' (.ifc 110 v0') cval)∨(t=false∧u = .returning∧v0' = .agg [.int .i64 0])) →
      LeavesInM Fence.wide 0 prog f21 tmps (nQ F w H fun v1 H1=>∃ v' H'',Shift (upd anyE 0 v1) H1 (upd anyE 0 v') H''∧cS D Y r v h' v' H'') ds u w':=by
      intro F' w' H' env' tmps ds r3 e2 h2 h3 u v0 v0' t cval hu he st' re' mk ag sr3 hv0 hh hret hcase
      obtain⟨ms,q1,q2,q3⟩:=mk.ex
      rw[q1]
      refine qG (env:=env') (S:=fun w'=>(t=true∧u = .panicking (pnc cval)∧Rv F' w' (.ifc 110 v0') cval)∨(t=false∧u = .returning∧v0' = .agg [.int .i64 0])) (fun w w' hu hs=>?_) hu E2.le (fun w'' hs'' he' st'' re''=>?_) ms w' hcase he st' re' q2 q3
      ·rcases hs with ⟨a1,a2,a3⟩|hs
       ·exact .inl ⟨a1,a2,a3.up hu⟩
       ·exact .inr hs
      rw[hT]
      refine⟨hu,.inr ⟨fun hd=>by simp[Fence.wide]at hd,_,_,56,#[.pointer (some ⟨b,o,none⟩)],rfl,?_,fun _ _=>trivial,?_⟩⟩
      ·have:=call56 #[Value.pointer (some ⟨b,o,none⟩)] w''
       first|exact this|simpa [invoke]using this
      ·refine aJY hf hy hm (hB.step st he') st'' sr3.sh (ag c b hc hrb) rfl rfl rfl hv0 hh hs'' ?_
       intro F4 w4 H4 r4 u' hset t2 t3 t4 t5
       show LeavesInM Fence.wide 0 prog f21 tmps _ [] (settle u') w4
       rw[hset]
       have re4:RE F4 w4 env' { tmps:=tmps,defers:=[] }:=re''.up (t2.up st'')
       have sr4:SR D Y r4 e2 h3 env' H4:=⟨t5,fun j=>(sr3.re j).mono t4⟩
       have ag4:Agree h.length r r4:=fun b1 c1 hb1 hr1=>t4 _ _ (ag b1 c1 (p7.sh.dom b1 c1 (p6 b1 c1 hr1)) (p6 b1 c1 hr1))
       obtain⟨v1,x1,x2⟩:=aMC sh ag4 sr4 hret
       obtain⟨cv,y1,y2⟩:=oI t3 re4 aNl x1
       exact⟨cv,y1,cv,v1,F4,H4,rfl,he'.trans t2,t3,y2,x2⟩
     split at hx
     ·simp at hx
     ·rename_i x e2 h2 hne hex
      simp only[Option.bind_eq_some_iff]at hx
      obtain⟨h3,hh,hret⟩:=hx
      have hWD:=dU hD hm hall h1.length n none none b21 B Y r1 _ h1 _ H2 x e2 h2 (fun x' env3 H3=>x'=x∧∃ r3,Agree h1.length r1 r3∧SR D Y r3 e2 h2 env3 H3) hY aMh (aL aMj) rfl sr2 hex (fun r' env' H' ha sr'=>⟨rfl,r',ha,sr'⟩)
      have hW:=hWD code21 (by rw[hN];exact pX) F2 w2 { tmps:=a2.tmps,defers:=T } w2.heap.size T hB2 (Nat.le_refl _) (by rw[hN];exact s1) s4 s5 Mk.nil
      refine wpIn_mono hW ?_
      rintro e a' w' ⟨x',env',F',H',z1,z2,z3,z4,z5,z6,rfl,r3,z7,z8⟩
      have fin:=fun(hu:True)=>out F' w' H' env' a'.tmps a'.defers r3 e2 h2 h3 .returning _ _ false undef (by simp) (E2.trans z3) z4 z5 z6 z7 z8 ((oN saySay.zero rfl)) hh hret (.inr ⟨rfl,rfl,rfl⟩)
      cases e with
      | normal=>exact fin trivial
      | ret=>exact fin trivial
      | exit id=>simp only at z1;subst z1;exact(hne id rfl).elim
      | goto l=>exact z1.elim
      | panic c=>exact z1.elim
      | outgrown=>exact z1.elim
     ·rename_i hex
      split at hx
      ·rename_i ty v0 e2 h2 hexP
       split at hx
       ·rename_i hty
        simp only[Option.bind_eq_some_iff]at hx
        obtain⟨h3,hh,hret⟩:=hx
        have hWD:=uT hD hm hall hallP h1.length n none none b21 B Y r1 _ h1 _ H2 (.ifc ty v0) e2 h2 (fun v' env3 H3=>∃ r3,Agree h1.length r1 r3∧SR D Y r3 e2 h2 env3 H3∧Rn D Y r3 (.ifc ty v0) v') hY aMh (aL aMj) rfl sr2 hexP (fun r' v' env' H' ha sr' hv'=>⟨r',ha,sr',hv'⟩)
        have hW:=hWD code21 (by rw[hN];exact pX) F2 w2 { tmps:=a2.tmps,defers:=T } w2.heap.size T hB2 (Nat.le_refl _) (by rw[hN];exact s1) s4 s5 Mk.nil
        refine wpIn_mono hW ?_
        rintro e a' w' ⟨cv,vv,env',F',H',rfl,z3,z4,z5,z9,z6,r3,z7,z8,ZE⟩
        have hty':ty=110:=hty
        subst hty'
        cases ZE with
        | ifc _ _ v0' hv0' =>
        exact out F' w' H' env' a'.tmps a'.defers r3 e2 h2 h3 (.panicking (pnc cv)) v0 v0' true cv (by simp) (E2.trans z3) z4 z5 z6 z7 z8 hv0' hh hret (.inl ⟨rfl,rfl,z9⟩)
       ·simp at hx
      ·simp at hx
    ·simp at hx
   ·simp at hx
  ·simp at hx
 ·simp at hx
end
noncomputable def m58a:Array Oper:=match f58.body with
 | some (.seq (.region _ ops _) _)=>ops
 | _ => #[]
noncomputable def m58b:Array Oper:=match f58.body with
 | some (.seq _ (.cond _ (.region _ ops _) _))=>ops
 | _ => #[]
theorem aPz:f58.body=some (.seq (.region 0 m58a false) (.cond (.tmp 5) (.region 1 m58b false) .skip)):=rfl
def aOX:List DOper:=[⟨0,some 4,.mv (.t 0),none⟩,⟨0,some 5,.not (.t 4),none⟩]
def l58b:List DOper:=[⟨0,some 6,.mv (.t 1),none⟩,⟨0,some 7,.build [.int .i64 0] [(0,(1,.t 6))],none⟩,⟨0,some 8,.mkifc 110 (.t 7),none⟩]
theorem aPv:pG prog 9 m58a false=some aOX:=by kernel_rfl
theorem aPu:((m58b.toList.take 3).mapM (uW prog m58b))=some l58b:=by kernel_rfl
theorem p58:∃ o,m58b[3]?=some o∧o.guard=none∧o.op = .panic (.tmp 8):=⟨_,rfl,rfl,rfl⟩
theorem s58:m58b.size=4:=rfl
theorem n58:f58.ntmps=9:=rfl

section
variable {D:Nat→Option XFn} {B:Base} {Y:Nat→Option YI} {r:Nat→Option Nat} {h:XH} {H:Hp}
def aFS:bT:=fun _ _ _=>none
def aCf:cO:=fun _ _ _=>none
theorem aDs:FnS prog B D Y aFS:=fun _ _ _ _ _ _ _ _ _ _ hx=>by simp[aFS]at hx
theorem aBa:YS prog B D Y aCf:=fun _ _ _ _ _ _ _ _ _ _ _ _ hx=>by simp[aCf]at hx

theorem aTB (k:IntKind) (n:Int):∃ e1,cZ aFS aCf aOX (aW [.bool false,.int k n]) h=some (e1,h)∧e1 5 = .bool true∧e1 1 = .int k n:=⟨_,rfl,rfl,rfl⟩
theorem aTA {e:aB} {k:IntKind} {n:Int} (he:e 1 = .int k n):∃ e1,cZ aFS aCf l58b e h=some (e1,h)∧e1 8 = .ifc 110 (.agg [.int k n]):=by
 refine⟨aM (aM (aM e (some 6) (.int k n)) (some 7) (.agg [.int k n])) (some 8) (.ifc 110 (.agg [.int k n])),?_,rfl⟩
 have h0:aG e (.t 1) = .int k n:=he
 simp only[l58b,cZ,gd,bI,aA,h0,Option.bind_some]
 rfl

theorem aRQ (hm:prog.follows .mixedOrders=true) (k:IntKind) (n:Int) {as':List AV} (sh:SH D Y r h H) (hA:RnL D Y r [.bool false,.int k n] as'):FnP B prog 58 as' H (cS D Y r (.ifc 110 (.agg [.int k n])) h):=by
 have hl:as'.length=2:=by have:=hA.1;simpa using this.symm
 refine⟨fun vs w=>call58 vs w,fun F w vs hB st hAr=>?_⟩
 have hsz:(vs++Array.replicate (f58.ntmps-vs.size) undef).size=9:=by
  have h1:=hAr.1
  rw[n58];simp;omega
 have hre:=sT (N:=9) (nt:=f58.ntmps-vs.size) hB hAr
 obtain⟨e1,hx1,he5,he1⟩:=aTB (h:=h) k n
 have RS0:=eH (P:=prog) (B:=B) aDs aBa aOX r _ h _ H e1 h (fun env' H'=>∃ r',DL.Sub r r'∧SR D Y r' e1 h env' H') rfl ⟨sh,fX hA⟩ hx1 (fun r' env' H' hs sr'=>⟨r',hs,sr'⟩)
 refine callsIn_of_wp_marks func58 aPz trivial (wpIn_seq (gO (B:=B) (r:=none) (N:=9) (draw:=false) hm aPv hsz hB st hre RS0 ?_))
 rintro a1 F1 w1 env1 H1 p1 p2 p3 p4 p5 ⟨r1,p6,p7⟩
 show (Code.cond (.tmp 5) (.region 1 m58b false) .skip).wpIn Fence.wide 0 prog _ a1 w1
 have hev:a1.eval (.tmp 5) = .bool true:=by
  have h5:=p7.re 5
  rw[he5]at h5
  have:=p5.rv 5
  rw[dL h5]at this
  show a1.tmps.getD 5 undef=_
  generalize a1.tmps.getD 5 undef=z at this
  cases this;rfl
 refine wpIn_cond (t:=true) hev (OpsW.region ?_)
 rw[s58,show List.range 4=List.range' 0 l58b.length++[3] from rfl]
 obtain⟨e2,hx2,he8⟩:=aTA (h:=h) he1
 have wC:=eH (P:=prog) (B:=B) aDs aBa l58b r1 _ h _ H1 e2 h (fun env' H'=>∃ r',DL.Sub r r'∧SR D Y r' e2 h env' H') rfl p7 hx2 (fun r' env' H' hs sr'=>⟨r',p6.trans hs,sr'⟩)
 refine kI (r:=none) (B:=B) (N:=9) l58b 0 (fun j d hj=>?_) (fun d hd=>?_) F1 w1 H1 env1 a1 p1 (hB.step st p3) p4 p5 wC ?_
 ·obtain⟨h1,h2⟩:=mA aPu
  obtain⟨o,h3,h4⟩:=h2 j d hj
  rw[Nat.zero_add]
  refine eS (o:=o) ?_ h4
  rw[List.getElem?_take]at h3
  split at h3
  ·rwa [Array.getElem?_toList]at h3
  ·cases h3
 ·simp only[l58b,List.mem_cons,List.not_mem_nil,or_false]at hd
  rcases hd with rfl|rfl|rfl<;>exact⟨by intro k hk;simp at hk<;>omega,rfl,.inr rfl⟩
 rintro a2 F2 w2 env2 H2 q1 q2 q3 q4 q5 ⟨r2,q6,q7⟩
 refine OpsW.of ?_
 obtain⟨o,g1,g2,g3⟩:=p58
 rw[wpOpsIn_cons]
 unfold wpOpIn
 simp only[g1]
 have hw:Region.wanted o (yielded m58b a2.tmps)=true:=by unfold Region.wanted;rw[g2]
 rw[if_pos hw]
 refine⟨fun _ _=>trivial,?_⟩
 have h8:=q7.re 8
 rw[he8]at h8
 have hrv:=q5.rv 8
 cases hz:env2 8<;>rw[hz]at h8<;>cases h8
 rename_i v8 h8
 rw[hz]at hrv
 obtain⟨cv,hcv⟩:∃ cv,a2.tmps.getD 8 undef=cv:=⟨_,rfl⟩
 rw[hcv]at hrv
 have hev8:a2.eval (.tmp 8)=cv:=hcv
 have hrv0:=hrv
 cases hrv with
 | ifc _ _ vv hvv =>
 have hsem:(o.semAt (FW none).round a2.eval).run prog w2 = .halt (.panic (.iface 110 vv)) w2:=by
  rw[Oper.semAt_eq _ _ _ (by rw[g3];simp)]
  simp[execOp,g3,hev8,Instr.panic,goPanic]
 rw[hsem,Oper.uponIn_panic]
 show LeavesInM Fence.wide 0 prog f58 a2.tmps _ a2.defers (.panicking _) w2
 have hd2:a2.defers=[]:=by rw[q2,p2]
 rw[hd2]
 exact⟨.iface 110 vv,_,F2,H2,rfl,p3.trans q3,q4,hrv0,r2,q6,q7.sh,.ifc _ _ _ h8⟩
end
end Go.Proofs.YtmapgnepfgnphaaGreatDoor
namespace Go.Proofs.YtmapgnepfgnphaaGreatDoor
open Go Go.DL Go.Proofs.Tryz

def lR (f:List AV→XH→Option (AV×XH)):XFn:=⟨10,[],false,false,.skip,none,some f⟩
def aOG (n:Nat):XFn:=⟨n,[],false,false,.skip,none,some fun _ _=>none⟩
def aH (K:Nat):Option XFn:=match K with
 | 37=>some (lR xZ)
 | 47=>some (lR aJt)
 | 57=>some (lR yC)
 | 71=>some (lR aJs)
 | 72=>some (lR yB)
 | 74=>some (lR aJr)
 | 80=>some (lR aEA)
 | 83=>some (lR vR)
 | 99=>some (lR aEB)
 | 115=>some (lR aEC)
 | 143=>some (lR yA)
 | 21=>some (aOG 41)
 | K=>aJe K

theorem aJg {D:Nat→Option XFn} {K:Nat}:gM D K (fun _ _=>none):=fun _ _ _ _ _ _ _ _ _ _ _ hx=>by cases hx
theorem XOk.over {D D':Nat→Option XFn} (ok:XOk prog D) (h:∀ K d,D' K=some d→(D K=some d∧d.prm=none)∨∃ n f,d=⟨n,[],false,false,.skip,none,some f⟩∧gM D' K f):XOk prog D' where
 mixed:=ok.mixed
 is K d hd hp:=by
  rcases h K d hd with ⟨h1,_⟩|⟨n,f,rfl,_⟩
  ·exact ok.is K d h1 hp
  ·cases hp
 prm K d f hd hp B Y _ r hh H xs ys v h' sh hr hx:=by
  rcases h K d hd with ⟨_,h2⟩|⟨n,f',rfl,h2⟩
  ·rw[h2]at hp;cases hp
  ·cases hp
   exact h2 B Y r hh H xs ys v h' sh hr hx
 ok K d hd:=by
  rcases h K d hd with ⟨h1,_⟩|⟨n,f,rfl,_⟩
  ·exact ok.ok K d h1
  ·rfl
 sites K d hd:=by
  rcases h K d hd with ⟨h1,_⟩|⟨n,f,rfl,_⟩
  ·exact ok.sites K d h1
  ·trivial

theorem aDm:XOk prog aH:=by
 refine XOk.over progX_ok fun K d hd=>?_
 unfold aH at hd
 split at hd
 ·cases hd;exact .inr ⟨_,_,rfl,aJp⟩
 ·cases hd;exact .inr ⟨_,_,rfl,aJo⟩
 ·cases hd;exact .inr ⟨_,_,rfl,aJn⟩
 ·cases hd;exact .inr ⟨_,_,rfl,aJm⟩
 ·cases hd;exact .inr ⟨_,_,rfl,aJl⟩
 ·cases hd;exact .inr ⟨_,_,rfl,aJk⟩
 ·cases hd;exact .inr ⟨_,_,rfl,aJj⟩
 ·cases hd;exact .inr ⟨_,_,rfl,aJi⟩
 ·cases hd;exact .inr ⟨_,_,rfl,aJh⟩
 ·cases hd;exact .inr ⟨_,_,rfl,aEz⟩
 ·cases hd;exact .inr ⟨_,_,rfl,aEy⟩
 ·cases hd;exact .inr ⟨_,_,rfl,aJg⟩
 ·exact .inl ⟨hd,aMg hd⟩

def specZ:iR:=⟨fun K xs=>match K,xs with
 | 58,[.bool false,.int k e]=>some (.ifc 110 (.agg [.int k e]))
 | _,_=>none,fun K=>if K=21 then some saySay else none,fun _ _ _=>none⟩
theorem aCN {D:Nat→Option XFn}:aPH prog D specZ:=by
 intro K xs v hx B Y r h H ys sh hA
 unfold specZ at hx
 dsimp only at hx
 split at hx
 ·cases hx
  exact aRQ progX_ok.mixed _ _ sh hA
 ·cases hx
theorem aAH {D:Nat→Option XFn} (hD:D 21=some (aOG 41)):∀ K i,specZ.say K=some i→aKI prog D i K:=by
 intro K i hi
 unfold specZ at hi
 dsimp only at hi
 split at hi
 ·rename_i hK
  cases hi
  subst hK
  exact aOq hD rfl progX_ok.mixed
 ·cases hi
end Go.Proofs.YtmapgnepfgnphaaGreatDoor
namespace Go.Proofs.YtmapgnepfgnphaaGreatDoor
open Go Go.DL
theorem rf0:aT aH specZ 400 rw0.K rw0.as rw0.h=some (rw0.v,rw0.h'):=by kernel_rfl
theorem rf1:aT aH specZ 400 rw1.K rw1.as rw1.h=some (rw1.v,rw1.h'):=by kernel_rfl
theorem rf2:aT aH specZ 400 rw2.K rw2.as rw2.h=some (rw2.v,rw2.h'):=by kernel_rfl
theorem rf3:aT aH specZ 400 rw3.K rw3.as rw3.h=some (rw3.v,rw3.h'):=by kernel_rfl
theorem rf6:aT aH specZ 400 rw6.K rw6.as rw6.h=some (rw6.v,rw6.h'):=by kernel_rfl
theorem rf7:aT aH specZ 400 rw7.K rw7.as rw7.h=some (rw7.v,rw7.h'):=by kernel_rfl
theorem rf8:aT aH specZ 400 rw8.K rw8.as rw8.h=some (rw8.v,rw8.h'):=by kernel_rfl
theorem rf9:aT aH specZ 400 rw9.K rw9.as rw9.h=some (rw9.v,rw9.h'):=by kernel_rfl
theorem aVF:aT aH specZ 400 rw10.K rw10.as rw10.h=some (rw10.v,rw10.h'):=by kernel_rfl
theorem aVD:aT aH specZ 400 rw12.K rw12.as rw12.h=some (rw12.v,rw12.h'):=by kernel_rfl
theorem aVC:aT aH specZ 400 rw13.K rw13.as rw13.h=some (rw13.v,rw13.h'):=by kernel_rfl
theorem aVA:aT aH specZ 400 rw15.K rw15.as rw15.h=some (rw15.v,rw15.h'):=by kernel_rfl
theorem aVz:aT aH specZ 400 rw16.K rw16.as rw16.h=some (rw16.v,rw16.h'):=by kernel_rfl
theorem aVy:aT aH specZ 400 rw17.K rw17.as rw17.h=some (rw17.v,rw17.h'):=by kernel_rfl
theorem aVx:aT aH specZ 400 rw18.K rw18.as rw18.h=some (rw18.v,rw18.h'):=by kernel_rfl
theorem aVw:aT aH specZ 400 rw19.K rw19.as rw19.h=some (rw19.v,rw19.h'):=by kernel_rfl
theorem aVv:aT aH specZ 400 rw20.K rw20.as rw20.h=some (rw20.v,rw20.h'):=by kernel_rfl
theorem aVu:aT aH specZ 400 rw21.K rw21.as rw21.h=some (rw21.v,rw21.h'):=by kernel_rfl
theorem aVt:aT aH specZ 400 rw22.K rw22.as rw22.h=some (rw22.v,rw22.h'):=by kernel_rfl
theorem aVs:aT aH specZ 400 rw23.K rw23.as rw23.h=some (rw23.v,rw23.h'):=by kernel_rfl
theorem aVr:aT aH specZ 400 rw24.K rw24.as rw24.h=some (rw24.v,rw24.h'):=by kernel_rfl
theorem aVq:aT aH specZ 400 rw25.K rw25.as rw25.h=some (rw25.v,rw25.h'):=by kernel_rfl
theorem aVp:aT aH specZ 400 rw26.K rw26.as rw26.h=some (rw26.v,rw26.h'):=by kernel_rfl
theorem aVo:aT aH specZ 400 rw27.K rw27.as rw27.h=some (rw27.v,rw27.h'):=by kernel_rfl
theorem aVn:aT aH specZ 400 rw28.K rw28.as rw28.h=some (rw28.v,rw28.h'):=by kernel_rfl
theorem aVm:aT aH specZ 400 rw29.K rw29.as rw29.h=some (rw29.v,rw29.h'):=by kernel_rfl
theorem aVl:aT aH specZ 400 rw30.K rw30.as rw30.h=some (rw30.v,rw30.h'):=by kernel_rfl
theorem aVk:aT aH specZ 400 rw31.K rw31.as rw31.h=some (rw31.v,rw31.h'):=by kernel_rfl
theorem aVj:aT aH specZ 400 rw32.K rw32.as rw32.h=some (rw32.v,rw32.h'):=by kernel_rfl
theorem aVi:aT aH specZ 400 rw33.K rw33.as rw33.h=some (rw33.v,rw33.h'):=by kernel_rfl
theorem aVh:aT aH specZ 400 rw34.K rw34.as rw34.h=some (rw34.v,rw34.h'):=by kernel_rfl
theorem aVg:aT aH specZ 400 rw35.K rw35.as rw35.h=some (rw35.v,rw35.h'):=by kernel_rfl
theorem aVf:aT aH specZ 400 rw36.K rw36.as rw36.h=some (rw36.v,rw36.h'):=by kernel_rfl
theorem aVe:aT aH specZ 400 rw37.K rw37.as rw37.h=some (rw37.v,rw37.h'):=by kernel_rfl
theorem aVd:aT aH specZ 400 rw38.K rw38.as rw38.h=some (rw38.v,rw38.h'):=by kernel_rfl
theorem aVc:aT aH specZ 400 rw39.K rw39.as rw39.h=some (rw39.v,rw39.h'):=by kernel_rfl
theorem aVb:aT aH specZ 400 rw40.K rw40.as rw40.h=some (rw40.v,rw40.h'):=by kernel_rfl
theorem aVa:aT aH specZ 400 rw41.K rw41.as rw41.h=some (rw41.v,rw41.h'):=by kernel_rfl
theorem aUZ:aT aH specZ 400 rw42.K rw42.as rw42.h=some (rw42.v,rw42.h'):=by kernel_rfl
theorem aUY:aT aH specZ 400 rw43.K rw43.as rw43.h=some (rw43.v,rw43.h'):=by kernel_rfl
theorem aUX:aT aH specZ 400 rw44.K rw44.as rw44.h=some (rw44.v,rw44.h'):=by kernel_rfl
theorem aUW:aT aH specZ 400 rw45.K rw45.as rw45.h=some (rw45.v,rw45.h'):=by kernel_rfl
theorem aUV:aT aH specZ 400 rw46.K rw46.as rw46.h=some (rw46.v,rw46.h'):=by kernel_rfl
theorem aUU:aT aH specZ 400 rw47.K rw47.as rw47.h=some (rw47.v,rw47.h'):=by kernel_rfl
theorem aUS:aT aH specZ 400 rw49.K rw49.as rw49.h=some (rw49.v,rw49.h'):=by kernel_rfl
theorem aUR:aT aH specZ 400 rw50.K rw50.as rw50.h=some (rw50.v,rw50.h'):=by kernel_rfl
theorem aUQ:aT aH specZ 400 rw51.K rw51.as rw51.h=some (rw51.v,rw51.h'):=by kernel_rfl
theorem aUP:aT aH specZ 400 rw52.K rw52.as rw52.h=some (rw52.v,rw52.h'):=by kernel_rfl
theorem aUO:aT aH specZ 400 rw53.K rw53.as rw53.h=some (rw53.v,rw53.h'):=by kernel_rfl
theorem aUN:aT aH specZ 400 rw54.K rw54.as rw54.h=some (rw54.v,rw54.h'):=by kernel_rfl
theorem aUM:aT aH specZ 400 rw55.K rw55.as rw55.h=some (rw55.v,rw55.h'):=by kernel_rfl
theorem aUK:aT aH specZ 400 rw57.K rw57.as rw57.h=some (rw57.v,rw57.h'):=by kernel_rfl
theorem aUJ:aT aH specZ 400 rw58.K rw58.as rw58.h=some (rw58.v,rw58.h'):=by kernel_rfl
theorem aUI:aT aH specZ 400 rw59.K rw59.as rw59.h=some (rw59.v,rw59.h'):=by kernel_rfl
theorem aUH:aT aH specZ 400 rw60.K rw60.as rw60.h=some (rw60.v,rw60.h'):=by kernel_rfl
theorem aUG:aT aH specZ 400 rw61.K rw61.as rw61.h=some (rw61.v,rw61.h'):=by kernel_rfl
theorem aUF:aT aH specZ 400 rw62.K rw62.as rw62.h=some (rw62.v,rw62.h'):=by kernel_rfl
theorem aUE:aT aH specZ 400 rw63.K rw63.as rw63.h=some (rw63.v,rw63.h'):=by kernel_rfl
theorem aUB:aT aH specZ 400 rw66.K rw66.as rw66.h=some (rw66.v,rw66.h'):=by kernel_rfl
theorem aUA:aT aH specZ 400 rw68.K rw68.as rw68.h=some (rw68.v,rw68.h'):=by kernel_rfl
theorem aUz:aT aH specZ 400 rw69.K rw69.as rw69.h=some (rw69.v,rw69.h'):=by kernel_rfl
theorem aUy:aT aH specZ 400 rw70.K rw70.as rw70.h=some (rw70.v,rw70.h'):=by kernel_rfl
theorem aUx:aT aH specZ 400 rw71.K rw71.as rw71.h=some (rw71.v,rw71.h'):=by kernel_rfl
theorem aUw:aT aH specZ 400 rw72.K rw72.as rw72.h=some (rw72.v,rw72.h'):=by kernel_rfl
theorem aUv:aT aH specZ 400 rw73.K rw73.as rw73.h=some (rw73.v,rw73.h'):=by kernel_rfl
theorem aUu:aT aH specZ 400 rw74.K rw74.as rw74.h=some (rw74.v,rw74.h'):=by kernel_rfl
theorem aUs:aT aH specZ 400 rw76.K rw76.as rw76.h=some (rw76.v,rw76.h'):=by kernel_rfl
theorem aUr:aT aH specZ 400 rw77.K rw77.as rw77.h=some (rw77.v,rw77.h'):=by kernel_rfl
theorem aUq:aT aH specZ 400 rw78.K rw78.as rw78.h=some (rw78.v,rw78.h'):=by kernel_rfl
theorem aUp:aT aH specZ 400 rw79.K rw79.as rw79.h=some (rw79.v,rw79.h'):=by kernel_rfl
theorem aUo:aT aH specZ 400 rw80.K rw80.as rw80.h=some (rw80.v,rw80.h'):=by kernel_rfl
theorem aUn:aT aH specZ 400 rw81.K rw81.as rw81.h=some (rw81.v,rw81.h'):=by kernel_rfl
theorem aUm:aT aH specZ 400 rw82.K rw82.as rw82.h=some (rw82.v,rw82.h'):=by kernel_rfl
theorem aUj:aT aH specZ 400 rw85.K rw85.as rw85.h=some (rw85.v,rw85.h'):=by kernel_rfl
def aCL:List cX:=[rw0,rw1,rw2,rw3,rw6,rw7,rw8,rw9,rw10,rw12,rw13,rw15,rw16,rw17,rw18,rw19,rw20,rw21,rw22,rw23,rw24,rw25,rw26,rw27,rw28,rw29,rw30,rw31,rw32,rw33,rw34,rw35,rw36,rw37,rw38,rw39,rw40,rw41,rw42,rw43,rw44,rw45,rw46,rw47,rw49,rw50,rw51,rw52,rw53,rw54,rw55,rw57,rw58,rw59,rw60,rw61,rw62,rw63,rw66,rw68,rw69,rw70,rw71,rw72,rw73,rw74,rw76,rw77,rw78,rw79,rw80,rw81,rw82,rw85]
theorem aLs:∀ q∈aCL,∃ n,aT aH specZ n q.K q.as q.h=some (q.v,q.h'):=by
 intro q hq
 simp only[aCL,List.mem_cons,List.not_mem_nil,or_false]at hq
 rcases hq with rfl|rfl|rfl|rfl|rfl|rfl|rfl|rfl|rfl|rfl|rfl|rfl|rfl|rfl|rfl|rfl|rfl|rfl|rfl|rfl|rfl|rfl|rfl|rfl|rfl|rfl|rfl|rfl|rfl|rfl|rfl|rfl|rfl|rfl|rfl|rfl|rfl|rfl|rfl|rfl|rfl|rfl|rfl|rfl|rfl|rfl|rfl|rfl|rfl|rfl|rfl|rfl|rfl|rfl|rfl|rfl|rfl|rfl|rfl|rfl|rfl|rfl|rfl|rfl|rfl|rfl|rfl|rfl|rfl|rfl|rfl|rfl|rfl|rfl
 ·exact⟨400,rf0⟩
 ·exact⟨400,rf1⟩
 ·exact⟨400,rf2⟩
 ·exact⟨400,rf3⟩
 ·exact⟨400,rf6⟩
 ·exact⟨400,rf7⟩
 ·exact⟨400,rf8⟩
 ·exact⟨400,rf9⟩
 ·exact⟨400,aVF⟩
 ·exact⟨400,aVD⟩
 ·exact⟨400,aVC⟩
 ·exact⟨400,aVA⟩
 ·exact⟨400,aVz⟩
 ·exact⟨400,aVy⟩
 ·exact⟨400,aVx⟩
 ·exact⟨400,aVw⟩
 ·exact⟨400,aVv⟩
 ·exact⟨400,aVu⟩
 ·exact⟨400,aVt⟩
 ·exact⟨400,aVs⟩
 ·exact⟨400,aVr⟩
 ·exact⟨400,aVq⟩
 ·exact⟨400,aVp⟩
 ·exact⟨400,aVo⟩
 ·exact⟨400,aVn⟩
 ·exact⟨400,aVm⟩
 ·exact⟨400,aVl⟩
 ·exact⟨400,aVk⟩
 ·exact⟨400,aVj⟩
 ·exact⟨400,aVi⟩
 ·exact⟨400,aVh⟩
 ·exact⟨400,aVg⟩
 ·exact⟨400,aVf⟩
 ·exact⟨400,aVe⟩
 ·exact⟨400,aVd⟩
 ·exact⟨400,aVc⟩
 ·exact⟨400,aVb⟩
 ·exact⟨400,aVa⟩
 ·exact⟨400,aUZ⟩
 ·exact⟨400,aUY⟩
 ·exact⟨400,aUX⟩
 ·exact⟨400,aUW⟩
 ·exact⟨400,aUV⟩
 ·exact⟨400,aUU⟩
 ·exact⟨400,aUS⟩
 ·exact⟨400,aUR⟩
 ·exact⟨400,aUQ⟩
 ·exact⟨400,aUP⟩
 ·exact⟨400,aUO⟩
 ·exact⟨400,aUN⟩
 ·exact⟨400,aUM⟩
 ·exact⟨400,aUK⟩
 ·exact⟨400,aUJ⟩
 ·exact⟨400,aUI⟩
 ·exact⟨400,aUH⟩
 ·exact⟨400,aUG⟩
 ·exact⟨400,aUF⟩
 ·exact⟨400,aUE⟩
 ·exact⟨400,aUB⟩
 ·exact⟨400,aUA⟩
 ·exact⟨400,aUz⟩
 ·exact⟨400,aUy⟩
 ·exact⟨400,aUx⟩
 ·exact⟨400,aUw⟩
 ·exact⟨400,aUv⟩
 ·exact⟨400,aUu⟩
 ·exact⟨400,aUs⟩
 ·exact⟨400,aUr⟩
 ·exact⟨400,aUq⟩
 ·exact⟨400,aUp⟩
 ·exact⟨400,aUo⟩
 ·exact⟨400,aUn⟩
 ·exact⟨400,aUm⟩
 ·exact⟨400,aUj⟩
def uJ:iR:={ specZ with orc:=aAq aCL }
theorem rf4:aT aH uJ 400 rw4.K rw4.as rw4.h=some (rw4.v,rw4.h'):=by kernel_rfl
theorem aVE:aT aH uJ 400 rw11.K rw11.as rw11.h=some (rw11.v,rw11.h'):=by kernel_rfl
theorem aVB:aT aH uJ 400 rw14.K rw14.as rw14.h=some (rw14.v,rw14.h'):=by kernel_rfl
theorem aUL:aT aH uJ 400 rw56.K rw56.as rw56.h=some (rw56.v,rw56.h'):=by kernel_rfl
theorem aUD:aT aH uJ 400 rw64.K rw64.as rw64.h=some (rw64.v,rw64.h'):=by kernel_rfl
theorem aUt:aT aH uJ 400 rw75.K rw75.as rw75.h=some (rw75.v,rw75.h'):=by kernel_rfl
theorem aUl:aT aH uJ 400 rw83.K rw83.as rw83.h=some (rw83.v,rw83.h'):=by kernel_rfl
def aGC:List cX:=[rw4,rw11,rw14,rw56,rw64,rw75,rw83]
theorem aLr:∀ q∈aGC,∃ n,aT aH uJ n q.K q.as q.h=some (q.v,q.h'):=by
 intro q hq
 simp only[aGC,List.mem_cons,List.not_mem_nil,or_false]at hq
 rcases hq with rfl|rfl|rfl|rfl|rfl|rfl|rfl
 ·exact⟨400,rf4⟩
 ·exact⟨400,aVE⟩
 ·exact⟨400,aVB⟩
 ·exact⟨400,aUL⟩
 ·exact⟨400,aUD⟩
 ·exact⟨400,aUt⟩
 ·exact⟨400,aUl⟩
def aAI:iR:={ specZ with orc:=aAq (aGC++aCL) }
theorem rf5:aT aH aAI 400 rw5.K rw5.as rw5.h=some (rw5.v,rw5.h'):=by kernel_rfl
theorem aUT:aT aH aAI 400 rw48.K rw48.as rw48.h=some (rw48.v,rw48.h'):=by kernel_rfl
theorem aUC:aT aH aAI 400 rw65.K rw65.as rw65.h=some (rw65.v,rw65.h'):=by kernel_rfl
theorem aUk:aT aH aAI 400 rw84.K rw84.as rw84.h=some (rw84.v,rw84.h'):=by kernel_rfl
theorem aUi:aT aH aAI 400 rw86.K rw86.as rw86.h=some (rw86.v,rw86.h'):=by kernel_rfl
def aLq:List cX:=[rw5,rw48,rw65,rw84,rw86]
theorem aLp:∀ q∈aLq,∃ n,aT aH aAI n q.K q.as q.h=some (q.v,q.h'):=by
 intro q hq
 simp only[aLq,List.mem_cons,List.not_mem_nil,or_false]at hq
 rcases hq with rfl|rfl|rfl|rfl|rfl
 ·exact⟨400,rf5⟩
 ·exact⟨400,aUT⟩
 ·exact⟨400,aUC⟩
 ·exact⟨400,aUk⟩
 ·exact⟨400,aUi⟩
def aRz:iR:={ specZ with orc:=aAq (aLq++(aGC++aCL)) }
end Go.Proofs.YtmapgnepfgnphaaGreatDoor
namespace Go.Proofs.YtmapgnepfgnphaaGreatDoor
open Go Go.DL Go.Proofs.Tryz

def zZ (q:cX):Prop:=∀ (B:Base) (Y:Nat→Option YI),YOk prog B aH Y→∀ (r:Nat→Option Nat) (H:Hp) (ys:List AV),SH aH Y r q.h H→RnL aH Y r q.as ys→FnW B prog q.K ys H (cS aH Y r q.v q.h')
theorem aGU {S:iR} {T:List cX} (h:∀ q∈T,zZ q) (hS:S.orc=aAq T):aNL prog aH S:=by
 intro K xs hh q hq B Y hY r H ys sh hA
 rw[hS]at hq
 obtain⟨u,hu,rfl,rfl,rfl,rfl⟩:=aDp hq
 exact h u hu B Y hY r H ys sh hA
def aKH (S:iR):Prop:=∀ (n:Nat) (B:Base) (Y:Nat→Option YI),YOk prog B aH Y→FnS prog B aH Y (aT aH S n)
theorem rO {S:iR} (hz:aKH S) {q:cX} (h:∃ n,aT aH S n q.K q.as q.h=some (q.v,q.h')):zZ q:=by
 obtain⟨n,hn⟩:=h
 exact fun B Y hY r H ys sh hA=>hz n B Y hY r q.h H q.K q.as ys q.v q.h' sh hA hn
theorem wT {T:List cX} (h:∀ q∈T,zZ q):aKH { specZ with orc:=aAq T }:=fun n B Y hY =>
 ((xI (S:={ specZ with orc:=aAq T }) aDm (aCN (D:=aH)) (aAH (D:=aH) rfl) (aGU h rfl) n).1 B Y hY).1
theorem aLH:aKH specZ:=fun n B Y hY =>
 ((xI (S:=specZ) aDm (aCN (D:=aH)) (aAH (D:=aH) rfl) (fun K xs hh q hq=>by cases hq) n).1 B Y hY).1
theorem aNk:∀ q∈aCL,zZ q:=fun q hq=>rO aLH (aLs q hq)
theorem aNj:∀ q∈aGC++aCL,zZ q:=fun q hq=>(List.mem_append.1 hq).elim (fun hq=>rO (wT aNk) (aLr q hq)) (aNk q)
theorem aRH:∀ q∈aLq++(aGC++aCL),zZ q:=fun q hq=>(List.mem_append.1 hq).elim (fun hq=>rO (wT aNj) (aLp q hq)) (aNj q)
theorem aGy:aT aH aRz 400 13 [] []=some (.bool true,[]):=by kernel_rfl
theorem aHN:zZ ⟨13,[],[],.bool true,[]⟩:=rO (wT aRH) ⟨400,aGy⟩
end Go.Proofs.YtmapgnepfgnphaaGreatDoor
namespace Go.Proofs.YtmapgnepfgnphaaGreatDoor
open Go Go.DL Go.RowKit Go.Proofs.Tryz
variable {D:Nat→Option XFn} {Y:Nat→Option YI} {r:Nat→Option Nat} {h:XH} {H:Hp} {B:Base}
def zX (s:ByteArray):AV:=match Lib.atoiAll s.data.toList with
 | .ok v=>.tup [.int .i64 v,.nilifc]
 | Lib.NumEnd.syntax=>.tup [.int .i64 0,.ifc 232 .any]
 | .range=>.tup [.int .i64 (Lib.atoiSat s.data.toList),.ifc 232 .any]
def aCc:List AV→XH→Option (AV×XH):=fun xs h=>match xs with
 | [.str s]=>if s.size≤100000 then some (zX s,h) else none
 | _=>none
theorem aBx {F:Nat→Prop} {w:World} {a b:AV} {x y:Value} (h1:Rv F w a x) (h2:Rv F w b y):Rv F w (.tup [a,b]) (.tuple #[x,y]):=by
 refine .tup _ _ rfl fun i c v hc hv=>?_
 match i,hc,hv with
 | 0,hc,hv =>
   simp at hc hv
   rw[←hc,←hv];exact h1
 | 1,hc,hv =>
   simp at hc hv
   rw[←hc,←hv];exact h2
 | i+2,hc,_=>simp at hc
theorem aBy {a b x y:AV} (h1:Rn D Y r a x) (h2:Rn D Y r b y):Rn D Y r (.tup [a,b]) (.tup [x,y]):=by
 refine .tup _ _ rfl fun i c v hc hv=>?_
 match i,hc,hv with
 | 0,hc,hv =>
   simp at hc hv
   rw[←hc,←hv];exact h1
 | 1,hc,hv =>
   simp at hc hv
   rw[←hc,←hv];exact h2
 | i+2,hc,_=>simp at hc
theorem aNE:gM D 86 aCc:=by
 intro B Y r h H xs ys v h' sh hr hx
 unfold aCc at hx
 split at hx
 ·rename_i s
  split at hx
  ·rename_i hn
   cases hx
   obtain⟨a,as1,rfl,h1,h2⟩:=hr.inv
   rw[cL h1,h2.nil_inv]
   have hrn:Rn D Y r (zX s) (zX s):=by
    unfold zX
    split
    ·exact aBy (.int _ _) .nilifc
    ·exact aBy (.int _ _) (.ifc _ _ _ (.any _))
    ·exact aBy (.int _ _) (.ifc _ _ _ (.any _))
   refine FnW.shelfG (fun vs w=>call86 vs w) (fun F w vs gi hl ha=>?_) ⟨r,DL.Sub.refl r,sh,hrn⟩
   obtain⟨b,bs,rfl,h3,h4⟩:=ha.cons1
   cases h3;rw[h4.nil1]
   obtain⟨_,ev1,hv1,he1⟩:=gi.2.2.2 1 (by simp[vW])
   obtain⟨_,ev2,hv2,he2⟩:=gi.2.2.2 2 (by simp[vW])
   unfold zX
   cases hA:Lib.atoiAll s.data.toList with
   | ok v =>
     refine(Tryz.strconv_Atoi_ok s (by omega) v hA w).mono ?_
     rintro e w' ⟨rfl,hw⟩
     have hbel:Below w.heap.size w w':=by
      rcases hw with rfl|⟨t,rfl⟩
      ·exact Below.refl _ _
      ·exact Lib.bytesWorld_below _ _ _
     exact⟨_,F,rfl,hbel,fun _ h=>h,fun _ h=>.inl h,fun b hb=>Nat.lt_of_lt_of_le (hl b hb) hbel.size,aBx (.int _ _) .nilifc⟩
   | range =>
     refine(Tryz.strconv_Atoi_range s (by omega) hA ev2 w hv2 he2).mono ?_
     rintro e w' ⟨N,rfl,_,_,hbel⟩
     exact⟨_,F,rfl,hbel,fun _ h=>h,fun _ h=>.inl h,fun b hb=>Nat.lt_of_lt_of_le (hl b hb) hbel.size,aBx (.int _ _) (.ifc _ _ _ (.any _))⟩
   | _ =>
     refine(Tryz.strconv_Atoi_syntax s (by omega) hA ev1 w hv1 he1).mono ?_
     rintro e w' ⟨N,rfl,_,_,hbel⟩
     exact⟨_,F,rfl,hbel,fun _ h=>h,fun _ h=>.inl h,fun b hb=>Nat.lt_of_lt_of_le (hl b hb) hbel.size,aBx (.int _ _) (.ifc _ _ _ (.any _))⟩
  ·cases hx
 ·cases hx
end Go.Proofs.YtmapgnepfgnphaaGreatDoor
namespace Go.Proofs.YtmapgnepfgnphaaGreatDoor
open Go Go.DL Go.Proofs.Tryz

def vQ:List AV→XH→Option (AV×XH):=fun xs h=>match xs with
 | []=>some (.bool true,h)
 | _=>none
theorem aNF {D:Nat→Option XFn}:gM D 13 vQ:=by
 intro B Y r h H xs ys v h' sh hr hx
 unfold vQ at hx
 split at hx
 ·cases hx
  rw[hr.nil_inv]
  have h0:=aHN B (fun _=>none) (fun l i h=>by simp at h) (fun _=>none) noH [] SH.none (RnL.self fun a ha=>by cases ha)
  have h1:CallV B prog (.fn (.func 13) [] []) [] (fun c=>if (fun _:Nat=>False) c then H c else none) (cS aH (fun _=>none) (fun _=>none) (.bool true) []):=by
   have e:(fun c=>if (fun _:Nat=>False) c then H c else none)=noH:=by funext c;exact if_neg (fun h=>h)
   rw[e];exact h0
  refine CallV.mono (CallV.frameS (H:=H) (fun _=>False) h1) ?_
  rintro v' H'' ⟨H',⟨r',k1,k2,k3⟩,e1,e2⟩
  obtain⟨rfl,_⟩:=k3.same (Gd.bool true).gr
  obtain⟨G,hG⟩:=sh.gh
  refine⟨r,DL.Sub.refl r,⟨sh.dom,sh.inj,fun b x hb=>?_,_,hG.via id (fun b st p hb=>⟨hb,rfl⟩) (fun b x hb=>.inl ⟨x,hb,rfl,fun st p e=>e⟩) (fun _ _ _ _ _ _ _ hne=>hne) fun b st p n y _ _ hy=>(e2 n (fun h=>h) y hy).1⟩,(Gd.bool true).rn⟩
  obtain⟨c,y,a1,a2,a3⟩:=sh.blk b x hb
  exact⟨c,y,a1,(e2 c (fun h=>h) y a2).1,a3⟩
 ·cases hx
def aD (K:Nat):Option XFn:=match K with
 | 13=>some (lR vQ)
 | 86=>some (lR aCc)
 | K=>aH K
theorem aDn:XOk prog aD:=by
 refine XOk.over progX_ok fun K d hd=>?_
 unfold aD at hd
 split at hd
 ·cases hd;exact .inr ⟨_,_,rfl,aNF⟩
 ·cases hd;exact .inr ⟨_,_,rfl,aNE⟩
 ·unfold aH at hd
  split at hd
  ·cases hd;exact .inr ⟨_,_,rfl,aJp⟩
  ·cases hd;exact .inr ⟨_,_,rfl,aJo⟩
  ·cases hd;exact .inr ⟨_,_,rfl,aJn⟩
  ·cases hd;exact .inr ⟨_,_,rfl,aJm⟩
  ·cases hd;exact .inr ⟨_,_,rfl,aJl⟩
  ·cases hd;exact .inr ⟨_,_,rfl,aJk⟩
  ·cases hd;exact .inr ⟨_,_,rfl,aJj⟩
  ·cases hd;exact .inr ⟨_,_,rfl,aJi⟩
  ·cases hd;exact .inr ⟨_,_,rfl,aJh⟩
  ·cases hd;exact .inr ⟨_,_,rfl,aEz⟩
  ·cases hd;exact .inr ⟨_,_,rfl,aEy⟩
  ·cases hd;exact .inr ⟨_,_,rfl,aJg⟩
  ·exact .inl ⟨hd,aMg hd⟩
theorem qX (K:Nat) (d:XFn) (hD:aD K=some d) {vs:List AV} {h:XH} (hl:vs.length≤d.N:=by exact Nat.le_of_ble_eq_true rfl) (hdf:d.dfr=none:=by rfl) (hpr:d.prm=none:=by rfl) (hg:eZ K=false:=by rfl):runW aD K vs h=lN none d.res d.ownR h.length (execW aD K h.length none d.body (aW (if d.ownA then vs else nJ vs)) h):=vN hD hl h hdf hpr hg
theorem qY (K:Nat) (d:XFn) (hD:aD K=some d) {vs:List AV} {h:XH} (hl:vs.length≤d.N:=by exact Nat.le_of_ble_eq_true rfl) (hdf:d.dfr=none:=by rfl) (hg:eZ K=true:=by rfl) (hpr:d.prm=none:=by rfl):runW aD K vs h=aAm d.res (execW aD K h.length none d.body (aW (if d.ownA then vs else nJ vs)) h):=aIG hD hl h hdf hg hpr
end Go.Proofs.YtmapgnepfgnphaaGreatDoor
namespace Go.Proofs.YtmapgnepfgnphaaGreatDoor
open Go Go.DL

def aVL (s:List Nat):List Nat:=s.take 40++List.replicate (40-s.length) 32
def bN (s:ByteArray):List Nat:=s.data.toList.map UInt8.toNat
end Go.Proofs.YtmapgnepfgnphaaGreatDoor
namespace Go.Proofs.YtmapgnepfgnphaaGreatDoor
open Go Go.DL
set_option maxRecDepth 100000
set_option maxHeartbeats 4000000
theorem ptf (p:Prop):p=True∨p=False:=by
 by_cases h:p
 ·exact .inl (eq_true h)
 ·exact .inr (eq_false h)
theorem aNf {n i:Nat} (h:i<n) (hn:n≤9223372036854775807):IntKind.i64.wrap ((i:Int)+1)=(i:Int)+1:=aS (by omega) (by omega)
theorem p57 {xs:List AV} {h:XH}:runW aD 57 xs h=yC xs h:=lJ rfl rfl xs h
def nf (i:Nat):List Nat:=List.replicate i 32++List.replicate (40-i) 0
def tmZ (a b:Int):Int:=Int.tmod a b
def nT (a b:Int):Int:=Int.tdiv a b
def aIT (z:Bool) (k:IntKind) (v:Int):Option AV:=if z then none else some (.int k v)
theorem tK (k:IntKind) (v:Int):aIT false k v=some (.int k v):=rfl
theorem mD {k:IntKind} {a b:Int}:eF .rem k a k b=aIT (decide (b=0)) k (tmZ a b):=by
 by_cases h:b=0<;>simp[eF,aIT,h,tmZ]
theorem mE {k:IntKind} {a b:Int}:eF .quo k a k b=aIT (decide (b=0)) k (k.wrap (nT a b)):=by
 by_cases h:b=0<;>simp[eF,aIT,h,nT]
theorem aBB (a b:Nat):tmZ (a:Int) (b:Int)=((a%b:Nat):Int):=by rw[tmZ,Int.tmod_eq_emod_of_nonneg (by omega)];exact(Int.natCast_emod a b).symm

theorem jQ {a b:ByteArray} (h:a.size+b.size≤1000000):cF BinOp.add a b=some (.str (a++b)):=by
 have e:IntKind.i64.max=9223372036854775807:=by decide
 simp only[cF]
 rw[if_neg (by rw[e];omega)]
theorem oE (l:List UInt8):(⟨⟨l⟩⟩:ByteArray).size=l.length:=rfl
theorem aKt {run:bT} {g:Nat} {vs:List AV} {v:AV} {hl h:XH} (hn:iK vs=[]) (hr:∀ s,kC s vs=vs) (hrun:run g vs []=some (v,hl)) (hg:gdA v=true):iP run (.fn (.func g) [] []) vs h=some v:=by
 unfold iP
 dsimp only
 have hp:dG ([]++vs++[]) h=[]:=by
  unfold dG
  rw[List.nil_append,List.append_nil,hn]
  rfl
 rw[hp,List.nil_append,List.append_nil,hr]
 show (match run g vs []with|some (v,hl)=>if gdA v&&aBg [] hl then some v else none|none=>none)=some v
 rw[hrun]
 dsimp only
 rw[hg]
 cases hl<;>rfl
section
variable {t:Nat} {f o:List Nat}
end

def txB (s:ByteArray):ByteArray:=aCt s 4 44
def rdF (s:ByteArray):List Nat:=aVL (bN (txB s))
theorem aIl (a b:ByteArray):cF BinOp.eql a b=some (.bool (a.toList==b.toList)):=rfl
def aBH (s:ByteArray):List AV:=s.data.toList.map fun b=>.int .u8 (b.toNat:Int)
theorem aIj (s:ByteArray):s.data.toList.map (fun b=>AV.int .u8 (b.toNat:Int))=aBH s:=rfl
theorem aIk (s:ByteArray):(aBH s).length=s.size:=by
 unfold aBH;rw[List.length_map,Array.length_toList];rfl
theorem aLC (s:ByteArray):iN (aBH s)=true:=dN fun v hv=>by
 obtain⟨n,_,rfl⟩:=List.mem_map.1 hv;rfl
theorem aOS {α:Type} {g:α→AV} (hg:∀ a,gI (g a)=[]) (l:List α):iK (l.map g)=[]:=by
 induction l with
 | nil=>rfl
 | cons a l ih=>show gI _++iK (l.map g)=[];rw[ih,hg];rfl
theorem aFw (s:ByteArray):iK (aBH s)=[]:=aOS (fun _=>rfl) _
theorem q35 {vs:List AV} {h:XH} (hl:vs.length≤15):runW aD 35 vs h=lN none x35.res x35.ownR h.length (execW aD 35 h.length none x35.body (aW (if x35.ownA then vs else nJ vs)) h):=vN rfl hl h rfl
theorem w35 (lo n hi:Int):runW aD 35 [I lo,I n,I hi] []=some (.bool (decide (lo≤n)&&decide (n≤hi)),[]):=by
 rw[q35 (by simp)];unfold x35;dsimp only
 rcases ptf (lo≤n)with h1|h1
 ·have d1:decide (lo≤n)=true:=by simp[h1]
  (exact RS2 h1 d1)
 ·have d1:decide (lo≤n)=false:=by simp[h1]
  (exact RS2 h1 d1)
theorem aNg (s:ByteArray):s.toList=s.data.toList:=ByteArray.toList_eq s
theorem aNY (a b:Nat):nT (a:Int) (b:Int)=((a/b:Nat):Int):=by
 rw[nT,Int.tdiv_eq_ediv_of_nonneg (by omega)];exact(Int.natCast_ediv a b).symm
def rwS (s:ByteArray) (i:Nat):ByteArray:=aCt s (i*45) ((i+1)*45)
def FnS (s:ByteArray):Nat→List Nat
 | 0=>[]
 | i+1=>FnS s i++rdF (rwS s i)
def setC (C:List Nat) (k:Nat) (f:List Nat):List Nat:=C.take (k*40)++(f++C.drop (k*40+40))
def tB (p i:Nat):AV:=if i=0 then .sl 0 0 40 p else .sl 1 0 40 p
theorem wN (a b:ByteArray):cF BinOp.neq a b=some (.bool (!decide (a=b))):=by
 show some (AV.bool (!(a.toList==b.toList)))=_
 rw[aNg,aNg]
 congr 3
 cases a with
 | mk x =>
   cases b with
   | mk y =>
     cases x with
     | mk x =>
       cases y with
       | mk y =>
         show (x==y)=decide ((⟨⟨x⟩⟩:ByteArray)=⟨⟨y⟩⟩)
         by_cases h:x=y
         ·subst h;simp
         ·have:¬((⟨⟨x⟩⟩:ByteArray)=⟨⟨y⟩⟩):=fun hh=>h (by injection hh with h1;injection h1)
          simp[h]
theorem aPB (s:ByteArray):(bN s).length=s.size:=by
 unfold bN;rw[List.length_map,Array.length_toList];rfl
end Go.Proofs.YtmapgnepfgnphaaGreatDoor
namespace Go.Proofs.YtmapgnepfgnphaaGreatDoor
open Go Go.DL
section
variable {ls:List ByteArray} {n:Nat} {s:ByteArray}
end
section
variable {ls:List ByteArray} {n:Nat}
end
end Go.Proofs.YtmapgnepfgnphaaGreatDoor
namespace Go.Proofs.YtmapgnepfgnphaaGreatDoor
open Go Go.DL
set_option maxRecDepth 100000
set_option maxHeartbeats 4000000
theorem vJ (a b:ByteArray):cF BinOp.eql a b=some (.bool (decide (a=b))):=by
 have:=wN a b
 rw[show cF BinOp.neq a b=some (AV.bool (!(a.toList==b.toList))) from rfl]at this
 rw[aIl]
 simp only[oSI,AV.bool.injEq,Bool.not_inj_iff]at this
 rw[this]
end Go.Proofs.YtmapgnepfgnphaaGreatDoor
namespace Go.Proofs.YtmapgnepfgnphaaGreatDoor
open Go Go.DL Go.ChangeShapes Go.WideShapes Go.ChangeAt Go.RowKit
set_option maxRecDepth 100000
theorem xR {H:Type} {enc:TypeId×Value→H} {a:Assume} {C:Checked} {os:Os} {f:FuncId} {fn:Func} {s:ChangeSpec} {X:World→Array Value→Prop}
 (hX:∀ (w w':World) (args:Array Value),w.heap=w'.heap→X w args→X w' args)
 (own:ownKnob C.prog.godebug=none) (started:os.Started) (noInit:C.prog.inits.idxOf? f=none) (hfn:C.prog.funcs[f]?=some fn)
 (witness:∃ (w:World) (tape:Tape) (i:Input),w.os=os∧(w.forCall tape i).Shaped C.prog∧i.vars=[]∧Input.okWide C.prog (w.forCall tape i) .any w.heap.size f i ∧
  ((s.pre enc C.prog fn [] false (w.forCall tape i).memory i.args∧X (w.forCall tape i).memory i.args)∧sizedMet enc C.prog fn (OpenSpec.ofChange s) false (w.forCall tape i).memory i.args)∧a.holds C.prog (lone (Frame.enter C.prog f i.args .normal) [] (w.forCall tape i)))
 (contract:∀ (W:World) (base:Nat) (args:Array Value) (ds gs:List (DataW H)) (before:List MemPlace),
  (∀ (j:Nat) t v,fn.params[j]?=some t→args[j]?=some v→Value.okWide C.prog W .any base t v) →
  DataW.Whole enc C.prog fn.params.toList s.vars false W args.toList ds gs before→X W args→W.ShapedOpen C.prog →
  Calls C.prog f args W fun e W'=>∃ v,e = .returned v∧s.post enc C.prog fn false true false false W args v W') :
 ReturnsInHanded a C os f .any (fun w args=>(s.pre enc C.prog fn [] false w args∧X w args)∧sizedMet enc C.prog fn (OpenSpec.ofChange s) false w args) (s.post enc C.prog fn false true false false):=by
 refine returnsInHanded_of_calls own started noInit witness ?_
 rintro w tape i _ hsh _ ⟨_,_,_,fn',hfn',_,_,_,_,hval⟩ ⟨⟨⟨ds,gs,before,hw,_⟩,hx⟩,_⟩ _
 cases hfn'.symm.trans hfn
 exact(contract _ _ _ ds gs before hval (DataW.Whole.of_heap (by rfl) hw) (hX _ _ _ (by rfl) hx) hsh).mono fun e W' ⟨v,he,hp⟩=>by
  subst he
  exact ChangeSpec.post_blind hp
abbrev a2T:List CT:=[.int .u8,.int .u8]
theorem aTh:Flat Tryz.prog 5 [.int .u8]:=.int Tryz.underlying5
theorem aPi:Flat Tryz.prog 58 a2T:=.array (n:=2) Tryz.underlying58 aTh (by kernel_rfl) (by kernel_rfl)
theorem aJP {k:IntKind} {a:AV} (h:Sh (.int k) a):∃ n,a = .int k n∧(Lit.int k n).wf=true:=by cases h;exact⟨_,rfl,by assumption⟩
theorem aFs {n:Int} (h:(Lit.int .u8 n).wf=true):∃ m:Nat,n=(m:Int)∧m<256:=by
 simp[Lit.wf,IntKind.bits,IntKind.signed,IntKind.min,IntKind.max]at h
 exact⟨n.toNat,by omega,by omega⟩
theorem aDa {α:Type} {f:α→List AV} {r:List CT} (key:∀ row:List AV,row.length=r.length→(∀ (i:Nat) (c:CT) (a:AV),r[i]?=some c→row[i]?=some a→Sh c a)→∃ x,row=f x):∀ {rows:List (List AV)},(∀ row∈rows,row.length=r.length) →
 (∀ row∈rows,∀ (i:Nat) (c:CT) (a:AV),r[i]?=some c→row[i]?=some a→Sh c a)→∃ l:List α,rows=l.map f
 | [],_,_=>⟨[],rfl⟩
 | a::rows,h1,h2=>by
   obtain⟨l,rfl⟩:=aDa key (rows:=rows) (fun row hr=>h1 row (by simp[hr])) (fun row hr=>h2 row (by simp[hr]))
   obtain⟨x,rfl⟩:=key a (h1 a (by simp)) (h2 a (by simp))
   exact⟨x::l,rfl⟩
theorem aRC {α:Type} {f:α→List AV} {r:List CT} (key:∀ row:List AV,row.length=r.length→(∀ (i:Nat) (c:CT) (a:AV),r[i]?=some c→row[i]?=some a→Sh c a)→∃ x,row=f x) {a:AV} (h:Sh (.sl r) a):∃ l:List α,a = .fs (l.map f)∧l.length≤maxLen:=by
 cases h with
 | sl _ rows h1 hn h2 =>
   obtain⟨l,rfl⟩:=aDa key h1 h2
   exact⟨l,rfl,by simpa using hn⟩
theorem aKD {F:Nat→Prop} {w:World}:Args F w [] #[]:=⟨rfl,fun i a' v' h1 h2=>by simp at h1⟩
theorem uC {F:Nat→Prop} {w:World} {a:AV} {v:Value} {xs:List AV} {vs:List Value} (h:Rv F w a v) (hs:Args F w xs vs.toArray):Args F w (a::xs) (v::vs).toArray:=by
 refine⟨by have:=hs.1;simp at this ⊢;exact this,fun i a' v' h1 h2=>?_⟩
 match i with
 | 0=>simp at h1 h2;rw[←h1,←h2];exact h
 | i+1 =>
   simp at h1 h2
   exact hs.2 i a' v' h1 (by simpa using h2)
end Go.Proofs.YtmapgnepfgnphaaGreatDoor
namespace Go.Proofs.YtmapgnepfgnphaaGreatDoor
open Go Go.DL
section
variable {ls:List ByteArray} {n:Nat}
end
end Go.Proofs.YtmapgnepfgnphaaGreatDoor
namespace Go.Proofs.YtmapgnepfgnphaaGreatDoor
open Go Go.DL
set_option maxRecDepth 100000
set_option maxHeartbeats 4000000
theorem aBn (p:Nat→Bool):∀ n,∃ m,m≤n∧(∀ i,i<m→p i=true)∧(m=n∨(m<n∧p m=false))
 | 0=>⟨0,Nat.le_refl _,fun i hi=>absurd hi (by omega),.inl rfl⟩
 | n+1=>by
   obtain⟨m,h1,h2,h3⟩:=aBn p n
   rcases h3 with rfl|⟨h3,h4⟩
   ·cases hp:p m with
    | true=>exact⟨m+1,Nat.le_refl _,fun i hi=>by
     by_cases him:i=m
     ·subst him;exact hp
     ·exact h2 i (by omega),.inl rfl⟩
    | false=>exact⟨m,by omega,h2,.inr ⟨by omega,hp⟩⟩
   ·exact⟨m,by omega,h2,.inr ⟨by omega,h4⟩⟩
theorem aTq {s:ByteArray} {i:Nat} (h:i<s.size):∃ x,(bN s)[i]?=some x∧x<256∧((s.data.toList.getD i 0).toNat:Int)=(x:Int):=by
 have hl:i<s.data.toList.length:=by rw[Array.length_toList];exact h
 have h0:s.data.toList[i]?=some (s.data.toList[i]'hl):=List.getElem?_eq_getElem hl
 refine⟨(s.data.toList[i]'hl).toNat,?_,UInt8.toNat_lt _,?_⟩
 ·unfold bN;rw[List.getElem?_map,h0];rfl
 ·rw[List.getD_eq_getElem?_getD,h0];rfl
def qP (i x:Nat):Bool:=(decide (97≤x)&&decide (x≤122))||(decide (i≠0)&&(decide (48≤x)&&decide (x≤57)))
def gE (s:ByteArray):Bool:=decide (1≤s.size)&&(decide (s.size≤10)&&(List.range s.size).all fun i=>qP i ((bN s).getD i 0))
theorem aRV {s:ByteArray} {m:Nat} (h1:m≤s.size) (h2:∀ i,i<m→qP i ((bN s).getD i 0)=true) (h3:m=s.size∨(m<s.size∧qP m ((bN s).getD m 0)=false)):((List.range s.size).all fun i=>qP i ((bN s).getD i 0))=decide (m=s.size):=by
 rcases h3 with h3|⟨h3,h4⟩
 ·rw[decide_eq_true h3,List.all_eq_true]
  intro i hi
  exact h2 i (by rw[h3];exact List.mem_range.1 hi)
 ·rw[decide_eq_false (by omega),List.all_eq_false]
  exact⟨m,List.mem_range.2 h3,by rw[h4];decide⟩
theorem aLD {s:ByteArray} {i x:Nat} (h:i<s.size) (hx:((s.data.toList.getD i 0).toNat:Int)=(x:Int)):(aBH s)[i]?=some (.int .u8 (x:Int)):=by
 unfold aBH
 have hl:i<s.data.toList.length:=by rw[Array.length_toList];exact h
 rw[List.getElem?_map,List.getElem?_eq_getElem hl]
 rw[List.getD_eq_getElem?_getD,List.getElem?_eq_getElem hl]at hx
 simp only[Option.map_some,Option.getD_some]at hx ⊢
 rw[hx]
theorem w85 {s:ByteArray} (hs:s.size≤1000000):runW aD 85 [.str s] []=some (.bool (gE s),[]):=by
 rw[qX 85 x85 rfl];unfold x85;dsimp only
 have bl:=aPB s
 obtain⟨m,m1,m2,m3⟩:=aBn (fun i=>qP i ((bN s).getD i 0)) s.size
 have hp:=aRV m1 m2 m3
 have e0:((s.size:Int)<(s.size:Int))=False:=eq_false (by omega)
 have at0:∀ i,i<s.size→∃ x,(bN s).getD i 0=x∧x<256∧(aBH s)[i]?=some (.int .u8 (x:Int)):=fun i hi=>by
  obtain⟨x,h1,h2,h3⟩:=aTq hi
  exact⟨x,by rw[List.getD_eq_getElem?_getD,h1];rfl,h2,aLD hi h3⟩
 have bad:m<s.size→qP m ((bN s).getD m 0)=false:=fun h=>m3.elim (fun e=>by omega) fun h=>h.2
 have lc:=aIk s
 have gr:=aLC s
 have raw:=aIj s
 have hv:gE s=(decide (1≤s.size)&&(decide (s.size≤10)&&decide (m=s.size))):=by unfold gE;rw[hp]
 rw[hv]
 sym =>
  simp[Za,Zb,Zf,Zh,Zl,Zm,Zo,Zv,ZS,ZU,Yw,Vc,VD,UQ,UZ,Td,Ti,TF,TG,Su,SA,SE,SF,SN,SO,Rk,Rl,raw]
  tactic =>
   unfold aNd
   rw[bH m (fun i=>[.str s,.sl 0 0 1 s.size,I (s.size:Nat),I (i:Nat)]) (fun _=>[some (.blk true (.cells true (aBH s)))])]
   ·by_cases hm:m=s.size
    ·rw[decide_eq_true hm,hm]
     by_cases z:s.size=0
     ·have d1:decide (1≤s.size)=false:=decide_eq_false (by omega)
      have z1:((0:Int)<(s.size:Int))=False:=eq_false (by omega)
      rw[d1]
      (exact RS4 e0 z1 lc gr)
     ·have d1:decide (1≤s.size)=true:=decide_eq_true (by omega)
      have z1:((0:Int)<(s.size:Int))=True:=eq_true (by omega)
      rw[d1]
      by_cases z2:s.size≤10
      ·have d2:decide (s.size≤10)=true:=decide_eq_true z2
       have z3:((s.size:Int)≤10)=True:=eq_true (by omega)
       rw[d2]
       (exact RS5 e0 z1 z3 lc gr)
      ·have d2:decide (s.size≤10)=false:=decide_eq_false z2
       have z3:((s.size:Int)≤10)=False:=eq_false (by omega)
       rw[d2]
       (exact RS5 e0 z1 z3 lc gr)
    ·rw[decide_eq_false hm,Bool.and_false,Bool.and_false]
     have hm':m<s.size:=by omega
     obtain⟨x,x1,x2,x3⟩:=at0 m hm'
     have hb:=bad hm'
     rw[x1]at hb
     have i1:((m:Int)<(s.size:Int))=True:=eq_true (by omega)
     have i2:(m<s.size)=True:=eq_true hm'
     by_cases cA:x<97
     ·skip
      by_cases cC:m=0
      ·skip
       have tA:((x:Int)<97)=True:=eq_true (by omega)
       have tC:((m:Int)=0)=True:=eq_true (by omega)
       (exact RS7 i1 i2 x3 lc gr tA tC)
      ·skip
       by_cases cD:x<48
       ·skip
        have tA:((x:Int)<97)=True:=eq_true (by omega)
        have tC:((m:Int)=0)=False:=eq_false (by omega)
        have tD:((x:Int)<48)=True:=eq_true (by omega)
        (exact RS8 i1 i2 x3 lc gr tA tC tD)
       ·skip
        by_cases cE:57<x
        ·skip
         have tA:((x:Int)<97)=True:=eq_true (by omega)
         have tC:((m:Int)=0)=False:=eq_false (by omega)
         have tD:((x:Int)<48)=False:=eq_false (by omega)
         have tE:((57:Int)<(x:Int))=True:=eq_true (by omega)
         (exact RS9 i1 i2 x3 lc gr tA tC tD tE)
        ·skip
         have tA:((x:Int)<97)=True:=eq_true (by omega)
         have tC:((m:Int)=0)=False:=eq_false (by omega)
         have tD:((x:Int)<48)=False:=eq_false (by omega)
         have tE:((57:Int)<(x:Int))=False:=eq_false (by omega)
         exfalso;revert hb;simp[qP]<;>(intros;omega)
     ·skip
      by_cases cB:122<x
      ·skip
       by_cases cC:m=0
       ·skip
        have tA:((x:Int)<97)=False:=eq_false (by omega)
        have tB:((122:Int)<(x:Int))=True:=eq_true (by omega)
        have tC:((m:Int)=0)=True:=eq_true (by omega)
        (exact RS8 i1 i2 x3 lc gr tA tB tC)
       ·skip
        by_cases cD:x<48
        ·skip
         exfalso;omega
        ·skip
         by_cases cE:57<x
         ·skip
          have tA:((x:Int)<97)=False:=eq_false (by omega)
          have tB:((122:Int)<(x:Int))=True:=eq_true (by omega)
          have tC:((m:Int)=0)=False:=eq_false (by omega)
          have tD:((x:Int)<48)=False:=eq_false (by omega)
          have tE:((57:Int)<(x:Int))=True:=eq_true (by omega)
          (exact aHw i1 i2 x3 lc gr tA tB tC tD tE)
         ·skip
          exfalso;omega
      ·skip
       have tA:((x:Int)<97)=False:=eq_false (by omega)
       have tB:((122:Int)<(x:Int))=False:=eq_false (by omega)
       exfalso;revert hb;simp[qP]<;>(intros;omega)
   ·have n0:=aFw s
    (exact RS4 raw lc gr n0)
   ·intro i hi
    have hi':i<s.size:=by omega
    obtain⟨x,x1,x2,x3⟩:=at0 i hi'
    have hb:=m2 i hi
    rw[x1]at hb
    have i1:((i:Int)<(s.size:Int))=True:=eq_true (by omega)
    have i2:(i<s.size)=True:=eq_true hi'
    have a2:=aNf (n:=s.size) (i:=i) (by omega) (by omega)
    have n0:=aFw s
    by_cases cA:x<97
    ·skip
     by_cases cC:i=0
     ·skip
      have tA:((x:Int)<97)=True:=eq_true (by omega)
      have tC:((i:Int)=0)=True:=eq_true (by omega)
      exfalso;revert hb;simp[qP]<;>(intros;omega)
     ·skip
      by_cases cD:x<48
      ·skip
       have tA:((x:Int)<97)=True:=eq_true (by omega)
       have tC:((i:Int)=0)=False:=eq_false (by omega)
       have tD:((x:Int)<48)=True:=eq_true (by omega)
       exfalso;revert hb;simp[qP]<;>(intros;omega)
      ·skip
       by_cases cE:57<x
       ·skip
        have tA:((x:Int)<97)=True:=eq_true (by omega)
        have tC:((i:Int)=0)=False:=eq_false (by omega)
        have tD:((x:Int)<48)=False:=eq_false (by omega)
        have tE:((57:Int)<(x:Int))=True:=eq_true (by omega)
        exfalso;revert hb;simp[qP]<;>(intros;omega)
       ·skip
        have tA:((x:Int)<97)=True:=eq_true (by omega)
        have tC:((i:Int)=0)=False:=eq_false (by omega)
        have tD:((x:Int)<48)=False:=eq_false (by omega)
        have tE:((57:Int)<(x:Int))=False:=eq_false (by omega)
        (exact aMW i1 i2 a2 x3 lc gr n0 tA tC tD tE rs0)
    ·skip
     by_cases cB:122<x
     ·skip
      by_cases cC:i=0
      ·skip
       have tA:((x:Int)<97)=False:=eq_false (by omega)
       have tB:((122:Int)<(x:Int))=True:=eq_true (by omega)
       have tC:((i:Int)=0)=True:=eq_true (by omega)
       exfalso;revert hb;simp[qP]<;>(intros;omega)
      ·skip
       by_cases cD:x<48
       ·skip
        exfalso;omega
       ·skip
        by_cases cE:57<x
        ·skip
         have tA:((x:Int)<97)=False:=eq_false (by omega)
         have tB:((122:Int)<(x:Int))=True:=eq_true (by omega)
         have tC:((i:Int)=0)=False:=eq_false (by omega)
         have tD:((x:Int)<48)=False:=eq_false (by omega)
         have tE:((57:Int)<(x:Int))=True:=eq_true (by omega)
         exfalso;revert hb;simp[qP]<;>(intros;omega)
        ·skip
         exfalso;omega
     ·skip
      have tA:((x:Int)<97)=False:=eq_false (by omega)
      have tB:((122:Int)<(x:Int))=False:=eq_false (by omega)
      (exact RS9 i1 i2 a2 x3 lc gr n0 tA tB)
   ·by_cases hm:m=s.size
    ·rw[hm]
     (exact wC e0)
    ·have hm':m<s.size:=by omega
     obtain⟨x,x1,x2,x3⟩:=at0 m hm'
     have hb:=bad hm'
     rw[x1]at hb
     have i1:((m:Int)<(s.size:Int))=True:=eq_true (by omega)
     have i2:(m<s.size)=True:=eq_true hm'
     by_cases cA:x<97
     ·skip
      by_cases cC:m=0
      ·skip
       have tA:((x:Int)<97)=True:=eq_true (by omega)
       have tC:((m:Int)=0)=True:=eq_true (by omega)
       (exact RS7 i1 i2 x3 lc gr tA tC)
      ·skip
       by_cases cD:x<48
       ·skip
        have tA:((x:Int)<97)=True:=eq_true (by omega)
        have tC:((m:Int)=0)=False:=eq_false (by omega)
        have tD:((x:Int)<48)=True:=eq_true (by omega)
        (exact RS8 i1 i2 x3 lc gr tA tC tD)
       ·skip
        by_cases cE:57<x
        ·skip
         have tA:((x:Int)<97)=True:=eq_true (by omega)
         have tC:((m:Int)=0)=False:=eq_false (by omega)
         have tD:((x:Int)<48)=False:=eq_false (by omega)
         have tE:((57:Int)<(x:Int))=True:=eq_true (by omega)
         (exact RS9 i1 i2 x3 lc gr tA tC tD tE)
        ·skip
         have tA:((x:Int)<97)=True:=eq_true (by omega)
         have tC:((m:Int)=0)=False:=eq_false (by omega)
         have tD:((x:Int)<48)=False:=eq_false (by omega)
         have tE:((57:Int)<(x:Int))=False:=eq_false (by omega)
         exfalso;revert hb;simp[qP]<;>(intros;omega)
     ·skip
      by_cases cB:122<x
      ·skip
       by_cases cC:m=0
       ·skip
        have tA:((x:Int)<97)=False:=eq_false (by omega)
        have tB:((122:Int)<(x:Int))=True:=eq_true (by omega)
        have tC:((m:Int)=0)=True:=eq_true (by omega)
        (exact RS8 i1 i2 x3 lc gr tA tB tC)
       ·skip
        by_cases cD:x<48
        ·skip
         exfalso;omega
        ·skip
         by_cases cE:57<x
         ·skip
          have tA:((x:Int)<97)=False:=eq_false (by omega)
          have tB:((122:Int)<(x:Int))=True:=eq_true (by omega)
          have tC:((m:Int)=0)=False:=eq_false (by omega)
          have tD:((x:Int)<48)=False:=eq_false (by omega)
          have tE:((57:Int)<(x:Int))=True:=eq_true (by omega)
          (exact aHw i1 i2 x3 lc gr tA tB tC tD tE)
         ·skip
          exfalso;omega
      ·skip
       have tA:((x:Int)<97)=False:=eq_false (by omega)
       have tB:((122:Int)<(x:Int))=False:=eq_false (by omega)
       exfalso;revert hb;simp[qP]<;>(intros;omega)
theorem w58 (n:Int):runW aD 58 [.bool true,I n] []=some (.tup [],[]):=by
 rw[qX 58 x58 rfl];unfold x58;dsimp only
 (exact RS0)
theorem c58 (n:Int) (h:XH):CalP Tryz.prog aD 58 [.bool false,I n] h (.ifc 110 (.agg [I n])) h:=fun B Y r H as' _ sh hA=>aRQ progX_ok.mixed .i64 n sh hA
def ent (ks:List ByteArray) (es:List Nat):List (AV×AV):=List.zipWith (fun k e=>(AV.str k,AV.pt e 0)) ks es
def fC:List ByteArray→ByteArray→Option Nat
 | [],_=>none
 | k::r,x=>if k=x then some 0 else (fC r x).map (· + 1)
theorem fG {x:ByteArray}:∀ {ks:List ByteArray} {i:Nat},fC ks x=some i→ks[i]?=some x
 | [],_,h=>by cases h
 | k::r,i,h=>by
   unfold fC at h
   split at h
   ·rename_i hk;cases h;rw[hk];rfl
   ·rw[Option.map_eq_some_iff]at h
    obtain⟨j,hj,rfl⟩:=h
    rw[List.getElem?_cons_succ];exact fG hj
theorem lZ {x:ByteArray}:∀ {ks:List ByteArray},fC ks x=none↔x∉ks
 | []=>by simp[fC]
 | k::r=>by
   unfold fC
   split
   ·rename_i hk;simp[hk]
   ·rename_i hk
    rw[Option.map_eq_none_iff,lZ,List.mem_cons,not_or]
    exact⟨fun h=>⟨fun e=>hk e.symm,h⟩,fun h=>h.2⟩
theorem aMl {x:ByteArray} {ks:List ByteArray} (h:x∈ks):∃ i,fC ks x=some i:=by
 cases hn:fC ks x with
 | none=>exact absurd h (lZ.1 hn)
 | some i=>exact⟨i,rfl⟩
theorem aGo (a b:ByteArray):(a==b)=decide (a=b):=by
 by_cases h:a=b
 ·rw[decide_eq_true h];exact(pZ a b).2 h
 ·rw[decide_eq_false h];exact Bool.eq_false_iff.2 fun e=>h ((pZ a b).1 e)
theorem pB {x:ByteArray}:∀ {ks:List ByteArray} {es:List Nat},ks.length=es.length→bZ true (.str x) (ent ks es)=some (((fC ks x).bind fun i=>es[i]?).map fun e=>.pt e 0)
 | [],[],_=>rfl
 | k::ks,e::es,h=>by
   have ih:=pB (x:=x) (ks:=ks) (es:=es) (by simpa using h)
   show (match gQ true (.str x) (.str k)with
    | some true=>some (some (AV.pt e 0))
    | some false=>bZ true (.str x) (ent ks es)
    | none=>none)=_
   have hk:gQ true (.str x) (.str k)=some (decide (x=k)):=congrArg some (aGo x k)
   rw[hk]
   unfold fC
   by_cases hx:x=k
   ·rw[decide_eq_true hx,if_pos hx.symm];rfl
   ·rw[decide_eq_false hx,if_neg (fun e=>hx e.symm),ih]
    cases fC ks x<;>rfl
theorem aCb {x:ByteArray} {v:AV}:∀ {ks:List ByteArray} {es:List Nat},ks.length=es.length→fC ks x=none→iJ true (.str x) v (ent ks es)=some (ent ks es++[(.str x,v)])
 | [],[],_,_=>rfl
 | k::ks,e::es,h,hn=>by
   have hx:¬x=k:=fun e=>(lZ.1 hn) (by simp[e])
   have hn2:fC ks x=none:=lZ.2 fun hm=>(lZ.1 hn) (by simp[hm])
   have ih:=aCb (x:=x) (v:=v) (ks:=ks) (es:=es) (by simpa using h) hn2
   show (match gQ true (.str x) (.str k)with
    | some true=>some ((AV.str k,v)::ent ks es)
    | some false=>(iJ true (.str x) v (ent ks es)).map ((AV.str k,AV.pt e 0) :: ·)
    | none=>none)=_
   have hk:gQ true (.str x) (.str k)=some (decide (x=k)):=congrArg some (aGo x k)
   rw[hk,decide_eq_false hx,ih];rfl
theorem zH {ks:List ByteArray} {es:List Nat} (h:ks.length=es.length) (x:ByteArray) (e:Nat):ent (ks++[x]) (es++[e])=ent ks es++[(.str x,.pt e 0)]:=by
 unfold ent
 rw[List.zipWith_append h];rfl
def jW (b n:Nat):AV:=if n=0 then .nilsl else .sl b 0 1 n

theorem w95 {h:XH} {o m e:Nat} {g g2:Bool} {a b:AV} {es:List (AV×AV)} {x:ByteArray} (ho:hat h o=some (.blk g (.cells true [a,.mp m,b]))) (hm:hat h m=some (.blk g2 (.map true es))) (hf:bZ true (.str x) es=some (some (.pt e 0))) :
 runW aD 95 [.pt o 0,.str x] h=some (.pt e 0,h):=by
 rw[qY 95 x95 rfl];unfold x95;dsimp only
 have c:=w58 5
 (exact RS4 ho hm hf c)
def aAo (h:XH) (o m:Nat) (t:AV) (x:ByteArray) (es:List (AV×AV)) (z:List AV):XH :=
 (h.set o (some (.blk false (.cells true [.sl (h.length+1) 0 1 1,.mp m,t])))).set m (some (.blk false (.map true (es++[(.str x,.pt (h.length+2) 0)]))))++[some (.blk true (.cells true [.str x])),some (.blk true (.cells true [.str x])),some (.blk true (.cells true z))]
def aAp (h:XH) (o m b:Nat) (t:AV) (x:ByteArray) (cs:List AV) (g3:Bool) (es:List (AV×AV)) (z:List AV):XH :=
 ((h.set b none).set o (some (.blk false (.cells true [.sl (h.length+1) 0 1 (cs.length+1),.mp m,t])))).set m (some (.blk false (.map true (es++[(.str x,.pt (h.length+2) 0)]))))++[some (.blk true (.cells true [.str x])),some (.blk g3 (.cells true (cs++[.str x]))),some (.blk true (.cells true z))]
theorem aTG {h:XH} {o m e:Nat} {g g2:Bool} {a b:AV} {es:List (AV×AV)} {x:ByteArray} (ho:hat h o=some (.blk g (.cells true [a,.mp m,b]))) (hm:hat h m=some (.blk g2 (.map true es))) (hf:bZ true (.str x) es=some (some (.pt e 0))) :
 runW aD 87 [.pt o 0,.str x] h=some (.bool false,h):=by
 rw[qY 87 x87 rfl];unfold x87;dsimp only
 (exact RS3 ho hm hf)
theorem aTF {h:XH} {o m:Nat} {g g2:Bool} {t:Int} {es:List (AV×AV)} {x:ByteArray} (ho:hat h o=some (.blk g (.cells true [.nilsl,.mp m,I t]))) (hm:hat h m=some (.blk g2 (.map true es))) (hf:bZ true (.str x) es=some none) (ht:((0:Int)=t)=False) :
 runW aD 87 [.pt o 0,.str x] h=some (.bool false,h):=by
 rw[qY 87 x87 rfl];unfold x87;dsimp only
 (exact RS4 ho hm hf ht)
theorem aQv {h:XH} {o m b n:Nat} {g g2:Bool} {t:Int} {es:List (AV×AV)} {x:ByteArray} {w:Bool} (ho:hat h o=some (.blk g (.cells true [.sl b 0 1 n,.mp m,I t]))) (hm:hat h m=some (.blk g2 (.map true es))) (hf:bZ true (.str x) es=some none) (ht:((n:Int)=t)=if w then True else False) :
 runW aD 87 [.pt o 0,.str x] h=some (.bool w,h):=by
 rw[qY 87 x87 rfl];unfold x87;dsimp only
 cases w<;>(exact RS4 ho hm hf ht)

theorem aTD {h:XH} {o m n:Nat} {g g2:Bool} {t:AV} {es:List (AV×AV)} {x:ByteArray} (hn:h.length=n) (on:(o<n)=True) (mn:(m<n)=True) (om:(o=m)=False) (mo:(m=o)=False)
 (ho:hat h o=some (.blk g (.cells true [.nilsl,.mp m,t]))) (hm:hat h m=some (.blk g2 (.map true es))) (hf:bZ true (.str x) es=some none) (hp:iJ true (.str x) (.pt (n+2) 0) es=some (es++[(.str x,.pt (n+2) 0)])) (hf2:bZ true (.str x) (es++[(.str x,.pt (n+2) 0)])=some (some (.pt (n+2) 0))) :
 runW aD 89 [.pt o 0,.str x] h=some (.tup [.pt (n+2) 0,.bool true],aAo h o m t x es [I 0]):=by
 rw[qY 89 x89 rfl];unfold x89 aAo;dsimp only
 (exact aHw ho hm hf hn on mn om mo hp hf2)
theorem aTE {h:XH} {o m n b z:Nat} {g g2 g3:Bool} {t:AV} {cs:List AV} {es:List (AV×AV)} {x:ByteArray} (hn:h.length=n) (on:(o<n)=True) (mn:(m<n)=True) (bn:(b<n)=True) (om:(o=m)=False) (mo:(m=o)=False) (ob:(o=b)=False) (bo:(b=o)=False) (bm:(b=m)=False) (mb:(m=b)=False)
 (ho:hat h o=some (.blk g (.cells true [.sl b 0 1 z,.mp m,t]))) (hb:hat h b=some (.blk g3 (.cells true cs))) (hz:cs.length=z) (hz1:((z+1)*16≤1099511627776)=True) (hz2:(z+1≤1099511627776)=True) (hm:hat h m=some (.blk g2 (.map true es))) (hf:bZ true (.str x) es=some none) (hp:iJ true (.str x) (.pt (n+2) 0) es=some (es++[(.str x,.pt (n+2) 0)])) (hf2:bZ true (.str x) (es++[(.str x,.pt (n+2) 0)])=some (some (.pt (n+2) 0))) :
 runW aD 89 [.pt o 0,.str x] h=some (.tup [.pt (n+2) 0,.bool true],aAp h o m b t x cs g3 es [I 0]):=by
 rw[qY 89 x89 rfl];unfold x89 aAp;dsimp only
 (exact aPG ho hm hf hn on mn om mo hp hf2 bn ob bo bm mb hb hz hz1 hz2 rs0)
theorem aQB {h:XH} {o m e:Nat} {g g2:Bool} {a b:AV} {es:List (AV×AV)} {x:ByteArray} (ho:hat h o=some (.blk g (.cells true [a,.mp m,b]))) (hm:hat h m=some (.blk g2 (.map true es))) (hf:bZ true (.str x) es=some (some (.pt e 0))) :
 runW aD 129 [.pt o 0,.str x] h=some (.tup [.pt e 0,.bool false],h):=by
 rw[qY 129 aCG rfl];unfold aCG;dsimp only
 (exact RS3 ho hm hf)
theorem aQz {h:XH} {o m n:Nat} {g g2:Bool} {t:AV} {es:List (AV×AV)} {x:ByteArray} (hn:h.length=n) (on:(o<n)=True) (mn:(m<n)=True) (om:(o=m)=False) (mo:(m=o)=False)
 (ho:hat h o=some (.blk g (.cells true [.nilsl,.mp m,t]))) (hm:hat h m=some (.blk g2 (.map true es))) (hf:bZ true (.str x) es=some none) (hp:iJ true (.str x) (.pt (n+2) 0) es=some (es++[(.str x,.pt (n+2) 0)])) (hf2:bZ true (.str x) (es++[(.str x,.pt (n+2) 0)])=some (some (.pt (n+2) 0))) :
 runW aD 129 [.pt o 0,.str x] h=some (.tup [.pt (n+2) 0,.bool true],aAo h o m t x es [I 0]):=by
 rw[qY 129 aCG rfl];unfold aCG aAo;dsimp only
 (exact aHw ho hm hf hn on mn om mo hp hf2)
theorem aQA {h:XH} {o m n b z:Nat} {g g2 g3:Bool} {t:AV} {cs:List AV} {es:List (AV×AV)} {x:ByteArray} (hn:h.length=n) (on:(o<n)=True) (mn:(m<n)=True) (bn:(b<n)=True) (om:(o=m)=False) (mo:(m=o)=False) (ob:(o=b)=False) (bo:(b=o)=False) (bm:(b=m)=False) (mb:(m=b)=False)
 (ho:hat h o=some (.blk g (.cells true [.sl b 0 1 z,.mp m,t]))) (hb:hat h b=some (.blk g3 (.cells true cs))) (hz:cs.length=z) (hz1:((z+1)*16≤1099511627776)=True) (hz2:(z+1≤1099511627776)=True) (hm:hat h m=some (.blk g2 (.map true es))) (hf:bZ true (.str x) es=some none) (hp:iJ true (.str x) (.pt (n+2) 0) es=some (es++[(.str x,.pt (n+2) 0)])) (hf2:bZ true (.str x) (es++[(.str x,.pt (n+2) 0)])=some (some (.pt (n+2) 0))) :
 runW aD 129 [.pt o 0,.str x] h=some (.tup [.pt (n+2) 0,.bool true],aAp h o m b t x cs g3 es [I 0]):=by
 rw[qY 129 aCG rfl];unfold aCG aAp;dsimp only
 (exact aPG ho hm hf hn on mn om mo hp hf2 bn ob bo bm mb hb hz hz1 hz2 rs0)
structure OL where
 o:Nat
 m:Nat
 b:Nat
 es:List Nat
def sBk (b:Nat) (cs:List AV):List (Nat×ABlk):=if cs.length=0 then [] else [(b,.cells true cs)]
def eB (es:List Nat) (vs:List (List AV)):List (Nat×ABlk):=List.zipWith (fun e v=>(e,ABlk.cells true v)) es vs
def qO (l:OL) (ks:List ByteArray) (vs:List (List AV)) (t:Int):List (Nat×ABlk) :=
 (l.o,.cells true [jW l.b ks.length,.mp l.m,I t])::(l.m,.map true (ent ks l.es))::(sBk l.b (ks.map .str)++eB l.es vs)
def Hd (h:XH) (l:List (Nat×ABlk)):Prop:=(∀ p∈l,aE h p.1=some p.2)∧(l.map (·.1)).Nodup
structure Od (h:XH) (l:OL) (ks:List ByteArray) (vs:List (List AV)) (t:Int):Prop where
 hd:Hd h (qO l ks vs t)
 ek:l.es.length=ks.length
 vk:vs.length=ks.length
structure Fr (J:List Nat) (h h':XH):Prop where
 keep:∀ b,b<h.length→b∉J→aE h' b=aE h b
 len:h.length≤h'.length
theorem Fr.refl (J:List Nat) (h:XH):Fr J h h:=⟨fun _ _ _=>rfl,Nat.le_refl _⟩
theorem Fr.trans {J:List Nat} {h h1 h2:XH} (a:Fr J h h1) (b:Fr J h1 h2):Fr J h h2:=⟨fun x hx hn=>(b.keep x (Nat.lt_of_lt_of_le hx a.len) hn).trans (a.keep x hx hn),Nat.le_trans a.len b.len⟩
theorem Fr.mono {J K:List Nat} {h h1:XH} (a:Fr J h h1) (s:∀ b,b∈J→b∈K):Fr K h h1:=⟨fun x hx hn=>a.keep x hx fun hm=>hn (s x hm),a.len⟩
theorem Fr.app (h k:XH):Fr [] h (h++k):=⟨fun b hb _=>by simp only[aE,bO];rw[if_pos hb],by simp⟩
theorem aC {h:XH} {b:Nat} {x:ABlk} (hb:aE h b=some x):∃ g,hat h b=some (.blk g x):=by
 unfold aE at hb
 split at hb
 ·rename_i g y hy;cases hb;exact⟨g,hy⟩
 ·cases hb
theorem aI {h:XH} {b:Nat} {x:ABlk} (hb:aE h b=some x):b<h.length:=by
 obtain⟨g,hg⟩:=aC hb
 exact Classical.byContradiction fun hn=>by
  unfold hat at hg
  rw[List.getD_eq_getElem?_getD,List.getElem?_eq_none (by omega)]at hg
  cases hg
theorem cR {h:XH} {b j:Nat} {g:Bool} {x:ABlk}:aE (h.set b (some (.blk g x))) j=if j=b then (if b<h.length then some x else aE h j) else aE h j:=by
 simp only[aE,Pd]
 by_cases e:j=b
 ·by_cases l:b<h.length
  ·simp[e,l]
  ·simp[e,l]
 ·simp[e]
theorem aBh {h:XH} {b j:Nat} (hj:j≠b):aE (h.set b none) j=aE h j:=by
 simp only[aE,Pd,if_neg hj]
theorem eQ {h k:XH} {j:Nat}:aE (h++k) j=if j<h.length then aE h j else aE k (j-h.length):=by
 simp only[aE,Pe]
 by_cases e:j<h.length
 ·simp[e]
 ·simp[e]
theorem aPo {es:List Nat}:∀ {vs:List (List AV)},es.length=vs.length→(eB es vs).map (·.1)=es:=by
 induction es with
 | nil=>intro vs h;cases vs with
   | nil=>rfl
   | cons v r=>cases h
 | cons e r ih=>intro vs h;cases vs with
   | nil=>cases h
   | cons v w=>exact congrArg (e :: ·) (ih (by simpa using h))
theorem aKo {es:List Nat} {vs:List (List AV)} {i e:Nat} {v:List AV} (he:es[i]?=some e) (hv:vs[i]?=some v):(e,ABlk.cells true v)∈eB es vs:=by
 refine List.mem_of_getElem? (i:=i) ?_
 unfold eB
 rw[List.getElem?_zipWith,he,hv]
theorem aMH {es:List Nat} {vs:List (List AV)} (h:es.length=vs.length) (e:Nat) (v:List AV):eB (es++[e]) (vs++[v])=eB es vs++[(e,.cells true v)]:=by
 unfold eB
 rw[List.zipWith_append h];rfl
theorem aEY {es:List Nat} {vs:List (List AV)} {p:Nat×ABlk} (h:p∈eB es vs):∃ (i:Nat) (e:Nat) (v:List AV),es[i]?=some e∧vs[i]?=some v∧p=(e,.cells true v):=by
 obtain⟨i,hi⟩:=List.getElem?_of_mem h
 unfold eB at hi
 rw[List.getElem?_zipWith]at hi
 split at hi
 ·rename_i e v he hv;cases hi;exact⟨i,e,v,he,hv,rfl⟩
 ·cases hi
def idx (l:OL) (n:Nat):List Nat:=l.o::l.m::((if n=0 then [] else [l.b])++l.es)
theorem lT {l:OL} {ks:List ByteArray} {vs:List (List AV)} {t:Int} (h:l.es.length=vs.length):(qO l ks vs t).map (·.1)=idx l ks.length:=by
 unfold qO idx sBk
 rw[List.map_cons,List.map_cons,List.map_append,aPo h,List.length_map]
 split<;>rfl
variable {h h':XH} {l:OL} {ks:List ByteArray} {vs:List (List AV)} {t:Int} {x:ByteArray} {i:Nat}
namespace Od
theorem ho (od:Od h l ks vs t):∃ g,hat h l.o=some (.blk g (.cells true [jW l.b ks.length,.mp l.m,I t])):=aC (od.hd.1 (l.o,_) (by simp[qO]))
theorem hm (od:Od h l ks vs t):∃ g,hat h l.m=some (.blk g (.map true (ent ks l.es))):=aC (od.hd.1 (l.m,_) (by simp[qO]))
theorem hb (od:Od h l ks vs t) (hk:0<ks.length):∃ g,hat h l.b=some (.blk g (.cells true (ks.map .str))):=aC (od.hd.1 (l.b,_) (by
 have:¬ks.length=0:=by omega
 simp[qO,sBk,this]))
theorem he (od:Od h l ks vs t) {e:Nat} {v:List AV} (he:l.es[i]?=some e) (hv:vs[i]?=some v):aE h e=some (.cells true v):=od.hd.1 (e,.cells true v) (by
 unfold qO
 exact List.mem_cons_of_mem _ (List.mem_cons_of_mem _ (List.mem_append_right _ (aKo he hv))))
theorem nd (od:Od h l ks vs t):(idx l ks.length).Nodup:=by
 rw[←lT (t:=t) (od.ek.trans od.vk.symm)];exact od.hd.2
theorem lt (od:Od h l ks vs t) {b:Nat} (hb:b∈idx l ks.length):b<h.length:=by
 rw[←lT (ks:=ks) (t:=t) (od.ek.trans od.vk.symm)]at hb
 obtain⟨p,hp,rfl⟩:=List.mem_map.1 hb
 exact aI (od.hd.1 p hp)
theorem lts (od:Od h l ks vs t):l.o<h.length∧l.m<h.length∧(0<ks.length→l.b<h.length)∧∀ e∈l.es,e<h.length :=
 ⟨od.lt (by simp[idx]),od.lt (by simp[idx]),fun hk=>od.lt (by
  have:¬ks.length=0:=by omega
  simp[idx,this]),fun e he=>od.lt (by simp[idx,he])⟩
theorem nes (od:Od h l ks vs t):l.o≠l.m∧(0<ks.length→l.o≠l.b∧l.m≠l.b∧l.b∉l.es)∧l.o∉l.es∧l.m∉l.es∧l.es.Nodup:=by
 have:=od.nd
 unfold idx at this
 rw[List.nodup_cons,List.nodup_cons,List.nodup_append]at this
 obtain⟨n1,n2,n3,n4,n5⟩:=this
 refine⟨fun e=>n1 (by simp[e]),fun hk=>?_,fun e=>n1 (by simp[e]),fun e=>n2 (by simp[e]),n4⟩
 have hz:¬ks.length=0:=by omega
 rw[if_neg hz]at n1 n2 n5
 exact⟨fun e=>n1 (by simp[e]),fun e=>n2 (by simp[e]),fun e=>n5 l.b (by simp) l.b e rfl⟩
theorem found (od:Od h l ks vs t) (hx:fC ks x=some i):∃ e v,l.es[i]?=some e∧vs[i]?=some v∧bZ true (.str x) (ent ks l.es)=some (some (.pt e 0))∧aE h e=some (.cells true v):=by
 have h1:=fG hx
 have h2:i<ks.length:=(List.getElem?_eq_some_iff.1 h1).1
 have h3:=pB (x:=x) od.ek.symm
 rw[hx]at h3
 have k1:=List.getElem?_eq_getElem (l:=l.es) (i:=i) (by rw[od.ek];exact h2)
 have k2:=List.getElem?_eq_getElem (l:=vs) (i:=i) (by rw[od.vk];exact h2)
 rw[Option.bind_some,k1]at h3
 exact⟨_,_,k1,k2,h3,od.he k1 k2⟩
theorem miss (od:Od h l ks vs t) (hx:fC ks x=none):bZ true (.str x) (ent ks l.es)=some none:=by
 have h3:=pB (x:=x) od.ek.symm
 rw[hx]at h3;exact h3
theorem fr (od:Od h l ks vs t) {J:List Nat} (f:Fr J h h') (hd:∀ b,b∈idx l ks.length→b∉J):Od h' l ks vs t:=by
 refine⟨⟨fun p hp=>?_,od.hd.2⟩,od.ek,od.vk⟩
 have h1:=od.hd.1 p hp
 have h2:p.1∈idx l ks.length:=by
  rw[←lT (ks:=ks) (t:=t) (od.ek.trans od.vk.symm)];exact List.mem_map_of_mem hp
 rw[f.keep p.1 (aI h1) (hd _ h2)];exact h1
theorem upd (od:Od h l ks vs t) {e:Nat} {v:List AV} {g:Bool} (he:l.es[i]?=some e):Od (h.set e (some (.blk g (.cells true v)))) l ks (vs.set i v) t∧Fr [e] h (h.set e (some (.blk g (.cells true v)))):=by
 have hi:i<l.es.length:=(List.getElem?_eq_some_iff.1 he).1
 have hm:e∈l.es:=List.mem_of_getElem? he
 obtain⟨n1,n2,n3,n4,n5⟩:=od.nes
 obtain⟨t1,t2,t3,t4⟩:=od.lts
 have el:=t4 e hm
 refine⟨⟨⟨fun p hp=>?_,?_⟩,od.ek,by rw[List.length_set];exact od.vk⟩,⟨fun b _ hb=>by rw[cR,if_neg (by simpa using hb)],by simp⟩⟩
 ·unfold qO at hp
  rw[List.mem_cons,List.mem_cons,List.mem_append]at hp
  have keep:∀ p,p∈qO l ks vs t→p.1≠e→aE (h.set e (some (.blk g (.cells true v)))) p.1=some p.2:=fun p hp hne=>by
   rw[cR,if_neg hne];exact od.hd.1 p hp
  rcases hp with rfl|rfl|hp|hp
  ·exact keep _ (by simp[qO]) fun q=>n3 (by rw[show l.o=e from q];exact hm)
  ·exact keep _ (by simp[qO]) fun q=>n4 (by rw[show l.m=e from q];exact hm)
  ·have hz:0<ks.length:=Nat.pos_of_ne_zero fun q=>by simp[sBk,q]at hp
   have hb:p=(l.b,.cells true (ks.map .str)):=by
    have hz2:¬ks.length=0:=by omega
    simpa [sBk,hz2]using hp
   subst hb
   exact keep _ (by simp[qO,hp]) fun q=>(n2 hz).2.2 (by rw[show l.b=e from q];exact hm)
  ·obtain⟨j,e2,v2,k1,k2,rfl⟩:=aEY hp
   by_cases hj:j=i
   ·subst hj
    rw[he]at k1;cases k1
    have hv:v2=v:=by
     rw[List.getElem?_set_self (by rw[od.vk,←od.ek];exact hi)]at k2;cases k2;rfl
    subst hv
    rw[cR,if_pos rfl,if_pos el]
   ·rw[List.getElem?_set_ne (fun q=>hj q.symm)]at k2
    refine keep _ (by unfold qO;exact List.mem_cons_of_mem _ (List.mem_cons_of_mem _ (List.mem_append_right _ (aKo k1 k2)))) fun q=>hj ?_
    have q1:e2=e:=q
    subst q1
    exact(List.getElem?_inj (by exact(List.getElem?_eq_some_iff.1 k1).1) n5).1 (k1.trans he.symm)
 ·have h1:=od.nd
  rw[lT (by rw[List.length_set];exact od.ek.trans od.vk.symm)];exact h1
end Od
end Go.Proofs.YtmapgnepfgnphaaGreatDoor
namespace Go.Proofs.YtmapgnepfgnphaaGreatDoor
open Go Go.DL
set_option maxRecDepth 100000
set_option maxHeartbeats 4000000
variable {h h':XH} {l:OL} {ks:List ByteArray} {vs:List (List AV)} {t:Int} {x:ByteArray} {i:Nat} {z:List AV}
theorem aBi {o m:Nat} {tv:AV} {es:List (AV×AV)} (ho:o<h.length) (hm:m<h.length) (om:o≠m) (j:Nat):aE (aAo h o m tv x es z) j =
 if j=m then some (.map true (es++[(.str x,.pt (h.length+2) 0)])) else if j=o then some (.cells true [.sl (h.length+1) 0 1 1,.mp m,tv]) else if j<h.length then aE h j else
 if j=h.length then some (.cells true [.str x]) else if j=h.length+1 then some (.cells true [.str x]) else if j=h.length+2 then some (.cells true z) else none:=by
 unfold aAo
 rw[eQ,cR,cR]
 simp only[List.length_set]
 by_cases jm:j=m
 ·subst jm;simp[hm]
 ·by_cases jo:j=o
  ·subst jo;simp[om,ho]
  ·by_cases jl:j<h.length
   ·simp[jm,jo,jl]
   ·simp only[jm,jo,jl,if_false]
    by_cases j0:j=h.length
    ·subst j0;simp[aE,hat]
    ·by_cases j1:j=h.length+1
     ·subst j1;simp[aE,hat]
     ·by_cases j2:j=h.length+2
      ·subst j2;simp[aE,hat]
      ·simp only[j0,j1,j2,if_false]
       unfold aE hat
       rw[List.getD_eq_getElem?_getD,List.getElem?_eq_none (by simp;omega)];rfl
theorem aBj {o m b:Nat} {tv:AV} {cs:List AV} {g3:Bool} {es:List (AV×AV)} (ho:o<h.length) (hm:m<h.length) (om:o≠m) (j:Nat) (jb:j≠b):aE (aAp h o m b tv x cs g3 es z) j =
 if j=m then some (.map true (es++[(.str x,.pt (h.length+2) 0)])) else if j=o then some (.cells true [.sl (h.length+1) 0 1 (cs.length+1),.mp m,tv]) else if j<h.length then aE h j else
 if j=h.length then some (.cells true [.str x]) else if j=h.length+1 then some (.cells true (cs++[.str x])) else if j=h.length+2 then some (.cells true z) else none:=by
 unfold aAp
 rw[eQ,cR,cR,aBh jb]
 simp only[List.length_set]
 by_cases jm:j=m
 ·subst jm;simp[hm]
 ·by_cases jo:j=o
  ·subst jo;simp[om,ho]
  ·by_cases jl:j<h.length
   ·simp[jm,jo,jl]
   ·simp only[jm,jo,jl,if_false]
    by_cases j0:j=h.length
    ·subst j0;simp[aE,hat]
    ·by_cases j1:j=h.length+1
     ·subst j1;simp[aE,hat]
     ·by_cases j2:j=h.length+2
      ·subst j2;simp[aE,hat]
      ·simp only[j0,j1,j2,if_false]
       unfold aE hat
       rw[List.getD_eq_getElem?_getD,List.getElem?_eq_none (by simp;omega)];rfl
theorem Od.putG (od:Od h l ks vs t) (hl:h'.length=h.length+3)
 (hp:∀ j,(0<ks.length→j≠l.b)→aE h' j=if j=l.m then some (.map true (ent ks l.es++[(.str x,.pt (h.length+2) 0)])) else if j=l.o then some (.cells true [.sl (h.length+1) 0 1 (ks.length+1),.mp l.m,I t]) else if j<h.length then aE h j else
 if j=h.length then some (.cells true [.str x]) else if j=h.length+1 then some (.cells true (ks.map .str++[.str x])) else if j=h.length+2 then some (.cells true z) else none) :
 Od h' ⟨l.o,l.m,h.length+1,l.es++[h.length+2]⟩ (ks++[x]) (vs++[z]) t∧Fr (idx l ks.length) h h':=by
 obtain⟨n1,n2,n3,n4,n5⟩:=od.nes
 obtain⟨t1,t2,t3,t4⟩:=od.lts
 have ev:=od.ek.trans od.vk.symm
 refine⟨⟨⟨fun p hp'=>?_,?_⟩,by simp[od.ek],by simp[od.vk]⟩,⟨fun b hb hn=>?_,by omega⟩⟩
 ·unfold qO at hp'
  rw[aMH ev,zH od.ek.symm]at hp'
  rw[List.mem_cons,List.mem_cons,List.mem_append,List.mem_append]at hp'
  rcases hp' with rfl|rfl|hp'|hp'|hp'
  ·have:jW (h.length+1) (ks++[x]).length = .sl (h.length+1) 0 1 (ks.length+1):=by simp[jW]
   rw[this,hp l.o (fun hk=>(n2 hk).1),if_neg n1,if_pos rfl]
  ·rw[hp l.m (fun hk=>(n2 hk).2.1),if_pos rfl]
  ·have hb:p=(h.length+1,.cells true (ks.map .str++[.str x])):=by simpa [sBk]using hp'
   subst hb
   rw[hp _ (fun hk=>by have:=t3 hk;show h.length+1≠l.b;omega)]
   rw[if_neg (by show h.length+1≠l.m;omega),if_neg (by show h.length+1≠l.o;omega),if_neg (by show ¬h.length+1<h.length;omega),if_neg (by show ¬h.length+1=h.length;omega),if_pos rfl]
  ·obtain⟨j,e2,v2,k1,k2,rfl⟩:=aEY hp'
   have me:=List.mem_of_getElem? k1
   have le:=t4 _ me
   rw[hp e2 (fun hk q=>(n2 hk).2.2 (by rw[←q];exact me)),if_neg (fun q:e2=l.m=>n4 (by rw[←q];exact me)),if_neg (fun q:e2=l.o=>n3 (by rw[←q];exact me)),if_pos le]
   exact od.he k1 k2
  ·rw[List.mem_singleton]at hp'
   subst hp'
   rw[hp _ (fun hk=>by have:=t3 hk;show h.length+2≠l.b;omega)]
   rw[if_neg (by show h.length+2≠l.m;omega),if_neg (by show h.length+2≠l.o;omega),if_neg (by show ¬h.length+2<h.length;omega),if_neg (by show ¬h.length+2=h.length;omega),if_neg (by show ¬h.length+2=h.length+1;omega),if_pos rfl]
 ·rw[lT (by simp[ev])]
  unfold idx
  simp only[List.length_append,List.length_singleton,Nat.add_eq_zero_iff,Nat.succ_ne_self,and_false,if_false,List.nodup_cons,List.nodup_append,List.mem_append,List.mem_singleton,List.mem_cons,not_or,List.not_mem_nil,not_false_eq_true,true_and,List.nodup_nil,and_true]
  refine⟨⟨n1,by omega,n3,by omega⟩,⟨by omega,n4,by omega⟩,⟨n5,fun a ha b hb=>?_⟩,fun a ha b hb=>?_⟩
  ·rcases hb with rfl|hb
   ·have:=t4 a ha;omega
   ·exact hb.elim
  ·rcases ha with rfl|ha
   ·rcases hb with hb|hb|hb
    ·have:=t4 b hb;omega
    ·omega
    ·exact hb.elim
   ·exact ha.elim
 ·have hb1:b≠l.o∧b≠l.m∧(0<ks.length→b≠l.b):=by
   unfold idx at hn
   refine⟨fun q=>hn (by simp[q]),fun q=>hn (by simp[q]),fun hk q=>hn ?_⟩
   have:¬ks.length=0:=by omega
   simp[q,this]
  rw[hp b hb1.2.2,if_neg hb1.2.1,if_neg hb1.1,if_pos hb]
theorem yH:∀ {ks:List ByteArray},fC ks x=none→fC (ks++[x]) x=some ks.length
 | [],_=>by simp[fC]
 | k::r,h=>by
   unfold fC at h
   split at h
   ·cases h
   ·rename_i hk
    rw[Option.map_eq_none_iff]at h
    show (if k=x then some 0 else (fC (r++[x]) x).map (· + 1))=_
    rw[if_neg hk,yH h];rfl
theorem aOW {α:Type} {l:List α} (h:¬0<l.length):l=[]:=List.eq_nil_of_length_eq_zero (by omega)
theorem tru {p:Prop} (h:p):p=True:=eq_true h
theorem fls {p:Prop} (h:¬p):p=False:=eq_false h
theorem Od.getf (od:Od h l ks vs t) (hx:fC ks x=some i):∃ e v,l.es[i]?=some e∧vs[i]?=some v∧aE h e=some (.cells true v)∧runW aD 95 [.pt l.o 0,.str x] h=some (.pt e 0,h):=by
 obtain⟨g1,ho⟩:=od.ho
 obtain⟨g2,hm⟩:=od.hm
 obtain⟨e,v,k1,k2,k3,k4⟩:=od.found hx
 exact⟨e,v,k1,k2,k4,w95 ho hm k3⟩
theorem Od.fullf (od:Od h l ks vs t) (ht:0<t):runW aD 87 [.pt l.o 0,.str x] h=some (.bool (decide (fC ks x=none)&&decide ((ks.length:Int)=t)),h):=by
 obtain⟨g1,ho⟩:=od.ho
 obtain⟨g2,hm⟩:=od.hm
 cases hx:fC ks x with
 | some i =>
   obtain⟨e,v,k1,k2,k3,k4⟩:=od.found hx
   rw[aTG ho hm k3];rfl
 | none =>
   by_cases hk:0<ks.length
   ·have hv:jW l.b ks.length = .sl l.b 0 1 ks.length:=by unfold jW;rw[if_neg (by omega)]
    rw[hv]at ho
    by_cases hw:(ks.length:Int)=t
    ·rw[aQv (w:=true) ho hm (od.miss hx) (by simp[hw])];simp[hw]
    ·rw[aQv (w:=false) ho hm (od.miss hx) (by simp[hw])];simp[hw]
   ·have h0:ks=[]:=aOW hk
    have hz:((0:Int)=t)=False:=eq_false (by omega)
    subst h0
    rw[aTF (t:=t) (by simpa [jW]using ho) hm (od.miss hx) hz]
    have:decide (((([]:List ByteArray).length:Nat):Int)=t)=false:=decide_eq_false (by simpa using hz)
    rw[this];simp
theorem Od.newf (od:Od h l ks vs t) (hx:fC ks x=none) (hk:ks.length≤1000):∃ h',runW aD 89 [.pt l.o 0,.str x] h=some (.tup [.pt (h.length+2) 0,.bool true],h')∧h'.length=h.length+3∧Od h' ⟨l.o,l.m,h.length+1,l.es++[h.length+2]⟩ (ks++[x]) (vs++[[I 0]]) t∧Fr (idx l ks.length) h h':=by
 obtain⟨n1,n2,n3,n4,n5⟩:=od.nes
 obtain⟨t1,t2,t3,t4⟩:=od.lts
 obtain⟨g1,ho⟩:=od.ho
 obtain⟨g2,hm⟩:=od.hm
 have hf:=od.miss hx
 have hp:=aCb (v:=.pt (h.length+2) 0) od.ek.symm hx
 have hf2:bZ true (.str x) (ent ks l.es++[(.str x,.pt (h.length+2) 0)])=some (some (.pt (h.length+2) 0)):=by
  rw[←zH od.ek.symm,pB (by simp[od.ek])]
  rw[yH hx]
  simp[←od.ek]
 by_cases k0:0<ks.length
 ·have hv:jW l.b ks.length = .sl l.b 0 1 ks.length:=by unfold jW;rw[if_neg (by omega)]
  rw[hv]at ho
  obtain⟨g3,hb⟩:=od.hb k0
  obtain⟨n6,n7,n8⟩:=n2 k0
  have t5:=t3 k0
  refine⟨_,aTE rfl (tru t1) (tru t2) (tru t5) (fls n1) (fls (Ne.symm n1)) (fls n6) (fls (Ne.symm n6)) (fls (Ne.symm n7)) (fls n7) ho hb (by simp) (tru (by omega)) (tru (by omega)) hm hf hp hf2,by simp[aAp],?_⟩
  exact Od.putG od (by simp[aAp]) fun j hj=>by
   rw[aBj t1 t2 n1 j (hj k0)];simp
 ·have h0:ks=[]:=aOW k0
  subst h0
  refine⟨_,aTD rfl (tru t1) (tru t2) (fls n1) (fls (Ne.symm n1)) (by simpa [jW]using ho) hm hf hp hf2,by simp[aAo],?_⟩
  exact Od.putG od (by simp[aAo]) fun j hj=>by
   rw[aBi t1 t2 n1 j];rfl
theorem Od.oldw (od:Od h l ks vs t) (hx:fC ks x=some i):∃ e v,l.es[i]?=some e∧vs[i]?=some v∧aE h e=some (.cells true v)∧runW aD 129 [.pt l.o 0,.str x] h=some (.tup [.pt e 0,.bool false],h):=by
 obtain⟨g1,ho⟩:=od.ho
 obtain⟨g2,hm⟩:=od.hm
 obtain⟨e,v,k1,k2,k3,k4⟩:=od.found hx
 exact⟨e,v,k1,k2,k4,aQB ho hm k3⟩
theorem Od.neww (od:Od h l ks vs t) (hx:fC ks x=none) (hk:ks.length≤1000):∃ h',runW aD 129 [.pt l.o 0,.str x] h=some (.tup [.pt (h.length+2) 0,.bool true],h')∧h'.length=h.length+3∧Od h' ⟨l.o,l.m,h.length+1,l.es++[h.length+2]⟩ (ks++[x]) (vs++[[I 0]]) t∧Fr (idx l ks.length) h h':=by
 obtain⟨n1,n2,n3,n4,n5⟩:=od.nes
 obtain⟨t1,t2,t3,t4⟩:=od.lts
 obtain⟨g1,ho⟩:=od.ho
 obtain⟨g2,hm⟩:=od.hm
 have hf:=od.miss hx
 have hp:=aCb (v:=.pt (h.length+2) 0) od.ek.symm hx
 have hf2:bZ true (.str x) (ent ks l.es++[(.str x,.pt (h.length+2) 0)])=some (some (.pt (h.length+2) 0)):=by
  rw[←zH od.ek.symm,pB (by simp[od.ek])]
  rw[yH hx]
  simp[←od.ek]
 by_cases k0:0<ks.length
 ·have hv:jW l.b ks.length = .sl l.b 0 1 ks.length:=by unfold jW;rw[if_neg (by omega)]
  rw[hv]at ho
  obtain⟨g3,hb⟩:=od.hb k0
  obtain⟨n6,n7,n8⟩:=n2 k0
  have t5:=t3 k0
  refine⟨_,aQA rfl (tru t1) (tru t2) (tru t5) (fls n1) (fls (Ne.symm n1)) (fls n6) (fls (Ne.symm n6)) (fls (Ne.symm n7)) (fls n7) ho hb (by simp) (tru (by omega)) (tru (by omega)) hm hf hp hf2,by simp[aAp],?_⟩
  exact Od.putG od (by simp[aAp]) fun j hj=>by
   rw[aBj t1 t2 n1 j (hj k0)];simp
 ·have h0:ks=[]:=aOW k0
  subst h0
  refine⟨_,aQz rfl (tru t1) (tru t2) (fls n1) (fls (Ne.symm n1)) (by simpa [jW]using ho) hm hf hp hf2,by simp[aAo],?_⟩
  exact Od.putG od (by simp[aAo]) fun j hj=>by
   rw[aBi t1 t2 n1 j];rfl
structure CL where
 c:Nat
 tb:Nat
 kb:Nat
 te:List Nat
 f:OL
 m:OL
 p:OL
 w:OL
def tkC (k:CTk):List AV:=[.str k.wagon,.str k.farmer,I k.net,.bool k.void,.bool false]
def eG (L:CL) (s:dA):List AV:=[.pt L.f.o 0,.pt L.m.o 0,.pt L.p.o 0,.pt L.w.o 0,jW L.tb s.tickets.length,I s.closed,jW L.kb s.book.length]
def kL (b n:Nat):List Nat:=if n=0 then [] else [b]
def px (L:CL) (s:dA):Nat→List Nat
 | 0=>[L.c]
 | 1=>kL L.tb s.tickets.length++L.te
 | 2=>kL L.kb s.book.length
 | 3=>idx L.f s.farmers.length
 | 4=>idx L.m s.meters.length
 | 5=>idx L.p s.pans.length
 | 6=>idx L.w s.wagons.length
 | _=>[]
structure Tk (h:XH) (tb:Nat) (te:List Nat) (ks:List CTk):Prop where
 el:te.length=ks.length
 hb:0<ks.length→aE h tb=some (.cells true (te.map fun e=>.pt e 0))
 he:∀ (i e:Nat) (k:CTk),te[i]?=some e→ks[i]?=some k→aE h e=some (.cells true (tkC k))
 nd:te.Nodup
 nb:0<ks.length→tb∉te
structure Lays (h:XH) (L:CL) (s:dA):Prop where
 hc:aE h L.c=some (.cells true (eG L s))
 tk:Tk h L.tb L.te s.tickets
 bk:0<s.book.length→aE h L.kb=some (.cells true (s.book.map .str))
 f:Od h L.f (s.farmers.map (·.1)) (s.farmers.map fun p=>[I p.2]) 9
 m:Od h L.m (s.meters.map (·.1)) (s.meters.map fun p=>[I p.2.1,I p.2.2]) 5
 p:Od h L.p (s.pans.map (·.1)) (s.pans.map fun p=>[I p.2]) 5
 w:Od h L.w (s.wagons.map (·.1)) (s.wagons.map fun p=>[I p.2]) 300
 dj:∀ i j b,b∈px L s i→b∈px L s j→i=j
variable {h h':XH} {L:CL} {s:dA}
theorem bL {b n x:Nat}:x∈kL b n↔0<n∧x=b:=by
 unfold kL
 split
 ·rename_i h;simp[h]
 ·rename_i h;simp[Nat.pos_of_ne_zero h]
theorem aCu {P P':Nat→List Nat} (J:Nat→Prop) [DecidablePred J] {n:Nat} (dj:∀ i j b,b∈P i→b∈P j→i=j) (lt:∀ j b,b∈P j→b<n) (same:∀ j,¬J j→P' j=P j) (sub:∀ j b,J j→b∈P' j→b∈P j∨n≤b) (own:∀ i j b,J i→J j→b∈P' i→b∈P' j→n≤b→i=j):∀ i j b,b∈P' i→b∈P' j→i=j:=by
 intro i j b hi hj
 by_cases ii:J i
 ·by_cases jj:J j
  ·rcases sub i b ii hi with h1|h1
   ·rcases sub j b jj hj with h2|h2
    ·exact dj i j b h1 h2
    ·have:=lt i b h1;omega
   ·exact own i j b ii jj hi hj h1
  ·rw[same j jj]at hj
   rcases sub i b ii hi with h1|h1
   ·exact dj i j b h1 hj
   ·have:=lt j b hj;omega
 ·rw[same i ii]at hi
  by_cases jj:J j
  ·rcases sub j b jj hj with h2|h2
   ·exact dj i j b hi h2
   ·have:=lt i b hi;omega
  ·rw[same j jj]at hj
   exact dj i j b hi hj
namespace Tk
variable {tb:Nat} {te:List Nat} {ks:List CTk}
theorem lts (t:Tk h tb te ks):(0<ks.length→tb<h.length)∧∀ e∈te,e<h.length:=by
 refine⟨fun hk=>aI (t.hb hk),fun e he=>?_⟩
 obtain⟨i,hi⟩:=List.getElem?_of_mem he
 have h2:i<ks.length:=by rw[←t.el];exact(List.getElem?_eq_some_iff.1 hi).1
 exact aI (t.he i e _ hi (List.getElem?_eq_getElem h2))
theorem lt (t:Tk h tb te ks) {b:Nat} (hb:b∈kL tb ks.length++te):b<h.length:=by
 rw[List.mem_append,bL]at hb
 rcases hb with ⟨hk,rfl⟩|hb
 ·exact t.lts.1 hk
 ·exact t.lts.2 b hb
theorem fr (t:Tk h tb te ks) {J:List Nat} (f:Fr J h h') (hd:∀ b,b∈kL tb ks.length++te→b∉J):Tk h' tb te ks:=by
 refine⟨t.el,fun hk=>?_,fun i e k hi hk=>?_,t.nd,t.nb⟩
 ·rw[f.keep tb (t.lts.1 hk) (hd tb (by rw[List.mem_append,bL];exact .inl ⟨hk,rfl⟩))];exact t.hb hk
 ·have he:=List.mem_of_getElem? hi
  rw[f.keep e (t.lts.2 e he) (hd e (List.mem_append_right _ he))];exact t.he i e k hi hk
end Tk
namespace Lays
theorem lt (ly:Lays h L s):∀ j b,b∈px L s j→b<h.length:=by
 intro j b hb
 unfold px at hb
 split at hb
 ·rw[List.mem_singleton]at hb;subst hb;exact aI ly.hc
 ·exact ly.tk.lt hb
 ·rw[bL]at hb;obtain⟨hk,rfl⟩:=hb;exact aI (ly.bk hk)
 ·exact ly.f.lt (by rw[List.length_map];exact hb)
 ·exact ly.m.lt (by rw[List.length_map];exact hb)
 ·exact ly.p.lt (by rw[List.length_map];exact hb)
 ·exact ly.w.lt (by rw[List.length_map];exact hb)
 ·cases hb
theorem live (ly:Lays h L s):∀ j b,b∈px L s j→∃ x,aE h b=some x:=by
 have od:∀ {l:OL} {ks:List ByteArray} {vs:List (List AV)} {t:Int} {b:Nat},Od h l ks vs t→b∈idx l ks.length→∃ x,aE h b=some x:=fun {l ks vs t b} od hb=>by
  rw[←lT (ks:=ks) (t:=t) (od.ek.trans od.vk.symm)]at hb
  obtain⟨p,hp,rfl⟩:=List.mem_map.1 hb
  exact⟨_,od.hd.1 p hp⟩
 intro j b hb
 unfold px at hb
 split at hb
 ·rw[List.mem_singleton]at hb;subst hb;exact⟨_,ly.hc⟩
 ·rw[List.mem_append,bL]at hb
  rcases hb with ⟨hk,rfl⟩|hb
  ·exact⟨_,ly.tk.hb hk⟩
  ·obtain⟨i,hi⟩:=List.getElem?_of_mem hb
   have h2:i<s.tickets.length:=by rw[←ly.tk.el];exact(List.getElem?_eq_some_iff.1 hi).1
   exact⟨_,ly.tk.he i b _ hi (List.getElem?_eq_getElem h2)⟩
 ·rw[bL]at hb;obtain⟨hk,rfl⟩:=hb;exact⟨_,ly.bk hk⟩
 ·exact od ly.f (by rw[List.length_map];exact hb)
 ·exact od ly.m (by rw[List.length_map];exact hb)
 ·exact od ly.p (by rw[List.length_map];exact hb)
 ·exact od ly.w (by rw[List.length_map];exact hb)
 ·cases hb
theorem off (ly:Lays h L s) {i j:Nat} (hne:i≠j) {b:Nat} (hi:b∈px L s i):b∉px L s j:=fun hj=>hne (ly.dj i j b hi hj)
theorem fr (ly:Lays h L s) {J:List Nat} (f:Fr J h h') (hd:∀ j b,b∈px L s j→b∉J):Lays h' L s where
 hc:=by rw[f.keep L.c (aI ly.hc) (hd 0 L.c (by simp[px]))];exact ly.hc
 tk:=ly.tk.fr f fun b hb=>hd 1 b hb
 bk hk:=by rw[f.keep L.kb (aI (ly.bk hk)) (hd 2 L.kb (bL.2 ⟨hk,rfl⟩))];exact ly.bk hk
 f:=ly.f.fr f fun b hb=>hd 3 b (by rw[List.length_map]at hb;exact hb)
 m:=ly.m.fr f fun b hb=>hd 4 b (by rw[List.length_map]at hb;exact hb)
 p:=ly.p.fr f fun b hb=>hd 5 b (by rw[List.length_map]at hb;exact hb)
 w:=ly.w.fr f fun b hb=>hd 6 b (by rw[List.length_map]at hb;exact hb)
 dj:=ly.dj
theorem ext (ly:Lays h L s) (k:XH):Lays (h++k) L s:=ly.fr (Fr.app h k) fun _ _ _ hb=>by cases hb
theorem setf (ly:Lays h L s) {l':OL} {xs:List (ByteArray×Int)} (od:Od h' l' (xs.map (·.1)) (xs.map fun p=>[I p.2]) 9) (fr:Fr (idx L.f s.farmers.length) h h') (sub:∀ b,b∈idx l' xs.length→b∈idx L.f s.farmers.length∨h.length≤b) (ho:l'.o=L.f.o):Lays h' { L with f:=l' } { s with farmers:=xs } where
 hc:=by rw[fr.keep L.c (aI ly.hc) (ly.off (i:=0) (j:=3) (by decide) (by simp[px]))];rw[ly.hc];unfold eG;simp only[ho]
 tk:=ly.tk.fr fr fun b hb=>ly.off (i:=1) (j:=3) (by decide) hb
 bk hk:=by rw[fr.keep L.kb (aI (ly.bk hk)) (ly.off (i:=2) (j:=3) (by decide) (bL.2 ⟨hk,rfl⟩))];exact ly.bk hk
 f:=od
 m:=ly.m.fr fr fun b hb=>by rw[List.length_map]at hb;exact ly.off (i:=4) (j:=3) (by decide) hb
 p:=ly.p.fr fr fun b hb=>by rw[List.length_map]at hb;exact ly.off (i:=5) (j:=3) (by decide) hb
 w:=ly.w.fr fr fun b hb=>by rw[List.length_map]at hb;exact ly.off (i:=6) (j:=3) (by decide) hb
 dj:=aCu (· = 3) ly.dj ly.lt (fun j hj=>by
  unfold px
  split<;>first|rfl|exact absurd rfl hj) (fun j b hj hb=>by subst hj;exact sub b hb) (fun i j b hi hj _ _ _=>hi.trans hj.symm)
theorem setw (ly:Lays h L s) {l':OL} {xs:List (ByteArray×Int)} (od:Od h' l' (xs.map (·.1)) (xs.map fun p=>[I p.2]) 300) (fr:Fr (idx L.w s.wagons.length) h h') (sub:∀ b,b∈idx l' xs.length→b∈idx L.w s.wagons.length∨h.length≤b) (ho:l'.o=L.w.o):Lays h' { L with w:=l' } { s with wagons:=xs } where
 hc:=by rw[fr.keep L.c (aI ly.hc) (ly.off (i:=0) (j:=6) (by decide) (by simp[px]))];rw[ly.hc];unfold eG;simp only[ho]
 tk:=ly.tk.fr fr fun b hb=>ly.off (i:=1) (j:=6) (by decide) hb
 bk hk:=by rw[fr.keep L.kb (aI (ly.bk hk)) (ly.off (i:=2) (j:=6) (by decide) (bL.2 ⟨hk,rfl⟩))];exact ly.bk hk
 f:=ly.f.fr fr fun b hb=>by rw[List.length_map]at hb;exact ly.off (i:=3) (j:=6) (by decide) hb
 m:=ly.m.fr fr fun b hb=>by rw[List.length_map]at hb;exact ly.off (i:=4) (j:=6) (by decide) hb
 p:=ly.p.fr fr fun b hb=>by rw[List.length_map]at hb;exact ly.off (i:=5) (j:=6) (by decide) hb
 w:=od
 dj:=aCu (· = 6) ly.dj ly.lt (fun j hj=>by
  unfold px
  split<;>first|rfl|exact absurd rfl hj) (fun j b hj hb=>by subst hj;exact sub b hb) (fun i j b hi hj _ _ _=>hi.trans hj.symm)
end Lays
end Go.Proofs.YtmapgnepfgnphaaGreatDoor
namespace Go.Proofs.YtmapgnepfgnphaaGreatDoor
open Go Go.DL
set_option maxRecDepth 100000
set_option maxHeartbeats 4000000
variable {h h' h1:XH} {L:CL} {s:dA}
theorem Fr.set {J:List Nat} (f:Fr J h h1) {b:Nat} (hb:b∈J) (x:Option XB):Fr J h (h1.set b x):=⟨fun j hj hn=>by
 have hne:j≠b:=fun q=>hn (q▸hb)
 have:aE (h1.set b x) j=aE h1 j:=by simp only[aE,Pd,if_neg hne]
 rw[this];exact f.keep j hj hn,by rw[List.length_set];exact f.len⟩
theorem Fr.add {J:List Nat} (f:Fr J h h1) (k:XH):Fr J h (h1++k):=f.trans ((Fr.app h1 k).mono fun _ hb=>by cases hb)
namespace Lays
theorem setC (ly:Lays h L s) {tb' kb' cl:Nat} {te':List Nat} {ks:List CTk} {bk:List ByteArray} (hc':aE h' L.c=some (.cells true [.pt L.f.o 0,.pt L.m.o 0,.pt L.p.o 0,.pt L.w.o 0,jW tb' ks.length,I cl,jW kb' bk.length])) (tk':Tk h' tb' te' ks) (bk':0<bk.length→aE h' kb'=some (.cells true (bk.map .str)))
 (fr:Fr (L.c::((kL L.tb s.tickets.length++L.te)++kL L.kb s.book.length)) h h') (s1:∀ b,b∈kL tb' ks.length++te'→b∈kL L.tb s.tickets.length++L.te∨h.length≤b) (s2:∀ b,b∈kL kb' bk.length→b∈kL L.kb s.book.length∨h.length≤b) (s12:∀ b,b∈kL tb' ks.length++te'→b∈kL kb' bk.length→b<h.length) :
 Lays h' { L with tb:=tb',te:=te',kb:=kb' } { s with tickets:=ks,closed:=cl,book:=bk }:=by
 have uB:∀ j b,3≤j→b∈px L s j→b∉L.c::((kL L.tb s.tickets.length++L.te)++kL L.kb s.book.length):=fun j b hj hb hm=>by
  rw[List.mem_cons,List.mem_append]at hm
  rcases hm with rfl|hm|hm
  ·exact ly.off (i:=j) (j:=0) (by omega) hb (by simp[px])
  ·exact ly.off (i:=j) (j:=1) (by omega) hb hm
  ·exact ly.off (i:=j) (j:=2) (by omega) hb hm
 refine⟨hc',tk',bk',ly.f.fr fr fun b hb=>uB 3 b (by decide) (by rw[List.length_map]at hb;exact hb),ly.m.fr fr fun b hb=>uB 4 b (by decide) (by rw[List.length_map]at hb;exact hb),ly.p.fr fr fun b hb=>uB 5 b (by decide) (by rw[List.length_map]at hb;exact hb),ly.w.fr fr fun b hb=>uB 6 b (by decide) (by rw[List.length_map]at hb;exact hb),?_⟩
 refine aCu (· < 3) ly.dj ly.lt (fun j hj=>?_) (fun j b hj hb=>?_) (fun i j b hi hj h1 h2 hn=>?_)
 ·unfold px
  split<;>first|rfl|exact absurd (by decide) hj
 ·match j,hj with
  | 0,_=>exact .inl hb
  | 1,_=>exact s1 b hb
  | 2,_=>exact s2 b hb
 ·have c0:∀ b,b∈px { L with tb:=tb',te:=te',kb:=kb' } { s with tickets:=ks,closed:=cl,book:=bk } 0→b<h.length:=fun b hb=>by
   have hb:b=L.c:=by simpa [px]using hb
   subst hb;exact aI ly.hc
  match i,hi,j,hj with
  | 0,_,0,_=>rfl
  | 1,_,1,_=>rfl
  | 2,_,2,_=>rfl
  | 0,_,1,_=>have:=c0 b h1;omega
  | 0,_,2,_=>have:=c0 b h1;omega
  | 1,_,0,_=>have:=c0 b h2;omega
  | 2,_,0,_=>have:=c0 b h2;omega
  | 1,_,2,_=>have:=s12 b h1 h2;omega
  | 2,_,1,_=>have:=s12 b h2 h1;omega
theorem cNe (ly:Lays h L s):(∀ b∈kL L.tb s.tickets.length++L.te,b≠L.c)∧(∀ b∈kL L.kb s.book.length,b≠L.c)∧∀ b,b∈kL L.tb s.tickets.length++L.te→b∉kL L.kb s.book.length :=
 ⟨fun b hb q=>ly.off (i:=1) (j:=0) (by decide) hb (by simp[px,q]),fun b hb q=>ly.off (i:=2) (j:=0) (by decide) hb (by simp[px,q]),fun b hb=>ly.off (i:=1) (j:=2) (by decide) hb⟩
theorem bookApp (ly:Lays h L s) {kb':Nat} {line:ByteArray} (hn:h.length≤kb') (hc':aE h' L.c=some (.cells true (eG { L with kb:=kb' } { s with book:=s.book++[line] }))) (hb':aE h' kb'=some (.cells true (s.book.map .str++[.str line]))) (fr:Fr (L.c::kL L.kb s.book.length) h h') :
 Lays h' { L with kb:=kb' } { s with book:=s.book++[line] }:=by
 have fr2:Fr (L.c::((kL L.tb s.tickets.length++L.te)++kL L.kb s.book.length)) h h':=fr.mono fun b hb=>by
  rw[List.mem_cons]at hb ⊢
  exact hb.imp id fun q=>List.mem_append_right _ q
 refine ly.setC (tb':=L.tb) (te':=L.te) (ks:=s.tickets) (cl:=s.closed) hc' (ly.tk.fr fr fun b hb hm=>?_) (fun _=>by rw[hb'];simp) fr2 (fun b hb=>.inl hb) (fun b hb=>.inr ?_) (fun b hb hb2=>ly.tk.lt hb)
 ·rw[List.mem_cons]at hm
  rcases hm with hm|hm
  ·exact ly.cNe.1 b hb hm
  ·exact ly.cNe.2.2 b hb hm
 ·rw[bL]at hb;omega
theorem tickApp (ly:Lays h L s) {tb' e:Nat} {k:CTk} (he:h.length≤e) (hn:h.length≤tb') (hne:tb'≠e) (hc':aE h' L.c=some (.cells true (eG { L with tb:=tb' } { s with tickets:=s.tickets++[k] }))) (hb':aE h' tb'=some (.cells true (L.te.map (fun e=>.pt e 0)++[.pt e 0]))) (hk':aE h' e=some (.cells true (tkC k))) (fr:Fr (L.c::kL L.tb s.tickets.length) h h') :
 Lays h' { L with tb:=tb',te:=L.te++[e] } { s with tickets:=s.tickets++[k] }:=by
 have fr2:Fr (L.c::((kL L.tb s.tickets.length++L.te)++kL L.kb s.book.length)) h h':=fr.mono fun b hb=>by
  rw[List.mem_cons]at hb ⊢
  exact hb.imp id fun q=>List.mem_append_left _ (List.mem_append_left _ q)
 have tl:=ly.tk.lts.2
 have tkeep:∀ b∈L.te,aE h' b=aE h b:=fun b hb=>fr.keep b (tl b hb) fun hm=>by
  rw[List.mem_cons,bL]at hm
  rcases hm with hm|⟨hk,hm⟩
  ·exact ly.cNe.1 b (List.mem_append_right _ hb) hm
  ·exact ly.tk.nb hk (hm▸hb)
 refine ly.setC (kb':=L.kb) (cl:=s.closed) (bk:=s.book) hc' ⟨by simp[ly.tk.el],fun _=>by rw[hb'];simp,fun i e' k' hi hk=>?_,?_,fun _ hm=>?_⟩ (fun hk=>?_) fr2 (fun b hb=>?_) (fun b hb=>.inl hb) (fun b hb hb2=>?_)
 ·by_cases hl:i<L.te.length
  ·rw[List.getElem?_append_left hl]at hi
   rw[List.getElem?_append_left (by rw[←ly.tk.el];exact hl)]at hk
   rw[tkeep e' (List.mem_of_getElem? hi)];exact ly.tk.he i e' k' hi hk
  ·rw[List.getElem?_append_right (by omega)]at hi
   rw[List.getElem?_append_right (by rw[←ly.tk.el];omega),←ly.tk.el]at hk
   have h0:i-L.te.length=0:=by
    have:=(List.getElem?_eq_some_iff.1 hi).1
    simpa using this
   rw[h0]at hi hk
   cases hi;cases hk
   exact hk'
 ·rw[List.nodup_append]
  refine⟨ly.tk.nd,by simp,fun a ha b hb=>?_⟩
  rw[List.mem_singleton]at hb
  have:=tl a ha;omega
 ·rw[List.mem_append,List.mem_singleton]at hm
  rcases hm with hm|hm
  ·have:=tl _ hm;omega
  ·exact hne hm
 ·have hl:=aI (ly.bk hk)
  rw[fr.keep L.kb hl fun hm=>?_]
  ·exact ly.bk hk
  ·rw[List.mem_cons]at hm
   rcases hm with hm|hm
   ·exact ly.cNe.2.1 _ (bL.2 ⟨hk,rfl⟩) hm
   ·exact ly.cNe.2.2 _ (List.mem_append_left _ hm) (bL.2 ⟨hk,rfl⟩)
 ·rw[List.mem_append,List.mem_append,bL,List.mem_singleton]at hb
  rcases hb with ⟨_,rfl⟩|hb|rfl
  ·exact .inr hn
  ·exact .inl (List.mem_append_right _ hb)
  ·exact .inr he
 ·rw[bL]at hb2
  obtain⟨hk,rfl⟩:=hb2
  exact aI (ly.bk hk)
theorem close (ly:Lays h L s) {cl:Nat} (hc':aE h' L.c=some (.cells true (eG L { s with closed:=cl }))) (fr:Fr [L.c] h h'):Lays h' L { s with closed:=cl }:=by
 have fr2:Fr (L.c::((kL L.tb s.tickets.length++L.te)++kL L.kb s.book.length)) h h':=fr.mono fun b hb=>by
  rw[List.mem_singleton]at hb;rw[hb];exact List.mem_cons_self
 refine ly.setC (tb':=L.tb) (te':=L.te) (kb':=L.kb) (ks:=s.tickets) (bk:=s.book) hc' (ly.tk.fr fr fun b hb hm=>?_) (fun hk=>?_) fr2 (fun b hb=>.inl hb) (fun b hb=>.inl hb) (fun b hb hb2=>ly.tk.lt hb)
 ·rw[List.mem_singleton]at hm;exact ly.cNe.1 b hb hm
 ·rw[fr.keep L.kb (aI (ly.bk hk)) fun hm=>ly.cNe.2.1 _ (bL.2 ⟨hk,rfl⟩) (by simpa using hm)];exact ly.bk hk
end Lays
end Go.Proofs.YtmapgnepfgnphaaGreatDoor
namespace Go.Proofs.YtmapgnepfgnphaaGreatDoor
open Go Go.DL
set_option maxRecDepth 100000
set_option maxHeartbeats 4000000
variable {h h' h1:XH} {L:CL} {s:dA} {x:ByteArray}
def lA:List (ByteArray×Int)→ByteArray→Int→List (ByteArray×Int)
 | [],x,d=>[(x,d)]
 | (k,v)::r,x,d=>if k=x then (k,v+d)::r else (k,v)::lA r x d
theorem mK {d v:Int}:∀ {l:List (ByteArray×Int)} {i:Nat},fC (l.map (·.1)) x=some i→(l.map (·.2))[i]?=some v→lA l x d=l.set i (x,v+d)
 | [],i,h,_=>by cases h
 | (k,w)::r,i,h,hv=>by
   have h2:(if k=x then some 0 else (fC (r.map (·.1)) x).map (· + 1))=some i:=h
   unfold lA
   by_cases e:k=x
   ·rw[if_pos e]at h2 ⊢
    cases h2
    have:w=v:=by simpa using hv
    rw[this,e];rfl
   ·rw[if_neg e]at h2 ⊢
    rw[Option.map_eq_some_iff]at h2
    obtain⟨j,hj,rfl⟩:=h2
    rw[mK (l:=r) hj (by simpa using hv)];rfl
theorem rZ {α β:Type} {f:α→β} {l:List α} {i:Nat} {a:α} {b:β} (h:(l.map f)[i]?=some b) (hf:f a=b):(l.set i a).map f=l.map f:=by
 rw[List.map_set,hf]
 obtain⟨hl,rfl⟩:=List.getElem?_eq_some_iff.1 h
 exact List.set_getElem_self hl
def rE (L:CL) (s:dA):List Nat:=px L s 0++(px L s 1++(px L s 2++(px L s 3++(px L s 4++(px L s 5++px L s 6)))))
theorem aX {b:Nat}:b∈rE L s↔∃ j,b∈px L s j:=by
 unfold rE
 simp only[List.mem_append]
 constructor
 ·rintro (h|h|h|h|h|h|h)
  all_goals exact⟨_,h⟩
 ·rintro ⟨j,h⟩
  match j with
  | 0=>exact .inl h
  | 1=>exact .inr (.inl h)
  | 2=>exact .inr (.inr (.inl h))
  | 3=>exact .inr (.inr (.inr (.inl h)))
  | 4=>exact .inr (.inr (.inr (.inr (.inl h))))
  | 5=>exact .inr (.inr (.inr (.inr (.inr (.inl h)))))
  | 6=>exact .inr (.inr (.inr (.inr (.inr (.inr h)))))
  | _+7=>cases h
theorem sG {l:OL} {n b:Nat}:b∈idx l n↔b=l.o∨b=l.m∨(0<n∧b=l.b)∨b∈l.es:=by
 unfold idx
 rw[List.mem_cons,List.mem_cons,List.mem_append]
 have:b∈(if n=0 then ([]:List Nat) else [l.b])↔0<n∧b=l.b:=bL
 rw[this]
theorem sF {l:OL} {n k:Nat} {b:Nat} (hb:b∈idx ⟨l.o,l.m,k+1,l.es++[k+2]⟩ n) {m:Nat}:b∈idx l m∨k≤b:=by
 rw[sG]at hb
 rcases hb with hb|hb|⟨_,hb⟩|hb
 ·exact .inl (sG.2 (.inl hb))
 ·exact .inl (sG.2 (.inr (.inl hb)))
 ·exact .inr (by rw[hb];show k≤k+1;omega)
 ·rcases List.mem_append.1 hb with hb|hb
  ·exact .inl (sG.2 (.inr (.inr (.inr hb))))
  ·rw[List.mem_singleton]at hb;exact .inr (by omega)
def Sb (N:Nat) (L:CL) (s:dA) (L':CL) (s':dA):Prop:=∀ b,b∈rE L' s'→b∈rE L s∨N≤b
theorem Sb.of {N:Nat} {L L':CL} {s s':dA} (h0:L'.c=L.c) (h1:∀ b,b∈kL L'.tb s'.tickets.length++L'.te→b∈kL L.tb s.tickets.length++L.te∨N≤b) (h2:∀ b,b∈kL L'.kb s'.book.length→b∈kL L.kb s.book.length∨N≤b)
 (h3:∀ b,b∈idx L'.f s'.farmers.length→b∈idx L.f s.farmers.length∨N≤b) (h4:∀ b,b∈idx L'.m s'.meters.length→b∈idx L.m s.meters.length∨N≤b) (h5:∀ b,b∈idx L'.p s'.pans.length→b∈idx L.p s.pans.length∨N≤b) (h6:∀ b,b∈idx L'.w s'.wagons.length→b∈idx L.w s.wagons.length∨N≤b):Sb N L s L' s':=fun b hb=>by
 obtain⟨j,hj⟩:=aX.1 hb
 match j,hj with
 | 0,hj=>exact .inl (aX.2 ⟨0,by simpa [px,h0]using hj⟩)
 | 1,hj=>exact(h1 b hj).imp (fun q=>aX.2 ⟨1,q⟩) id
 | 2,hj=>exact(h2 b hj).imp (fun q=>aX.2 ⟨2,q⟩) id
 | 3,hj=>exact(h3 b hj).imp (fun q=>aX.2 ⟨3,q⟩) id
 | 4,hj=>exact(h4 b hj).imp (fun q=>aX.2 ⟨4,q⟩) id
 | 5,hj=>exact(h5 b hj).imp (fun q=>aX.2 ⟨5,q⟩) id
 | 6,hj=>exact(h6 b hj).imp (fun q=>aX.2 ⟨6,q⟩) id
 | _+7,hj=>cases hj
theorem hM {l:OL} {n n' N:Nat} (h:n'=n):∀ b,b∈idx l n'→b∈idx l n∨N≤b:=fun b hb=>.inl (h▸hb)
theorem aRG {t n n' N:Nat} {te:List Nat} (h:n'=n):∀ b,b∈kL t n'++te→b∈kL t n++te∨N≤b:=fun b hb=>.inl (h▸hb)
theorem aCS {t n n' N:Nat} (h:n'=n):∀ b,b∈kL t n'→b∈kL t n∨N≤b:=fun b hb=>.inl (h▸hb)
theorem Fr.keepS {J:List Nat} (f:Fr J h h1) {b:Nat} {c:ABlk} (hb:aE h b=some c) (hn:b∉J):aE h1 b=some c:=by
 rw[f.keep b (aI hb) hn];exact hb
variable {h h' h1:XH} {L:CL} {s:dA} {x:ByteArray}
def Out (L:CL) (s:dA) (bs:List Nat):Prop:=∀ b∈bs,b∉rE L s
theorem Lays.px_out (ly:Lays h L s) {bs:List Nat} (o:Out L s bs) {j b:Nat} (hb:b∈bs):b∉px L s j:=fun hm=>o b hb (aX.2 ⟨j,hm⟩)
theorem Fr.px {j:Nat} (f:Fr (px L s j) h h'):Fr (rE L s) h h':=f.mono fun b hb=>aX.2 ⟨j,hb⟩
theorem Fr.setNew {J:List Nat} (f:Fr J h h1) {b:Nat} (hb:h.length≤b) (y:Option XB):Fr J h (h1.set b y):=⟨fun j hj hn=>by
 have hne:j≠b:=by omega
 have:aE (h1.set b y) j=aE h1 j:=by simp only[aE,Pd,if_neg hne]
 rw[this];exact f.keep j hj hn,by rw[List.length_set];exact f.len⟩
variable {h h' h1:XH} {L:CL} {s:dA} {x:ByteArray}
theorem aDF {l:OL} {n i e:Nat} (he:l.es[i]?=some e):e∈idx l n:=sG.2 (.inr (.inr (.inr (List.mem_of_getElem? he))))
theorem yI {α:Type} {l:List (ByteArray×α)} {i:Nat} (h:fC (l.map (·.1)) x=some i):∃ y,l[i]?=some (x,y):=by
 have h1:=fG h
 rw[List.getElem?_map,Option.map_eq_some_iff]at h1
 obtain⟨⟨a,y⟩,h2,rfl⟩:=h1
 exact⟨y,h2⟩
theorem Lays.oldF (ly:Lays h L s) {i e:Nat} {y:Int} {g:Bool} (hx:fC (s.farmers.map (·.1)) x=some i) (he:L.f.es[i]?=some e):Lays (h.set e (some (.blk g (.cells true [I y])))) L { s with farmers:=s.farmers.set i (x,y) }:=by
 obtain⟨u1,u2⟩:=ly.f.upd (v:=[I y]) (g:=g) he
 have hk:(s.farmers.set i (x,y)).map (·.1)=s.farmers.map (·.1):=rZ (fG hx) rfl
 refine ly.setf (l':=L.f) (xs:=s.farmers.set i (x,y)) ?_ (u2.mono fun b hb=>by rw[List.mem_singleton]at hb;rw[hb];exact aDF he) (fun b hb=>.inl (by rw[List.length_set]at hb;exact hb)) rfl
 rw[hk,List.map_set];exact u1
theorem Lays.addF (ly:Lays h L s) (od:Od h1 ⟨L.f.o,L.f.m,h.length+1,L.f.es++[h.length+2]⟩ (s.farmers.map (·.1)++[x]) (s.farmers.map (fun p=>[I p.2])++[[I 0]]) 9) (fr:Fr (idx L.f s.farmers.length) h h1) :
 Lays h1 { L with f:=⟨L.f.o,L.f.m,h.length+1,L.f.es++[h.length+2]⟩ } { s with farmers:=s.farmers++[(x,(0:Int))] }:=by
 refine ly.setf (l':=⟨L.f.o,L.f.m,h.length+1,L.f.es++[h.length+2]⟩) (xs:=s.farmers++[(x,(0:Int))]) ?_ fr (fun b hb=>sF hb) rfl
 rw[List.map_append,List.map_append];exact od
theorem Lays.newW (ly:Lays h L s) {y:Int} {g:Bool} (od:Od h1 ⟨L.w.o,L.w.m,h.length+1,L.w.es++[h.length+2]⟩ (s.wagons.map (·.1)++[x]) (s.wagons.map (fun p=>[I p.2])++[[I 0]]) 300) (fr:Fr (idx L.w s.wagons.length) h h1) :
 Lays (h1.set (h.length+2) (some (.blk g (.cells true [I y])))) { L with w:=⟨L.w.o,L.w.m,h.length+1,L.w.es++[h.length+2]⟩ } { s with wagons:=s.wagons++[(x,y)] }∧Fr (idx L.w s.wagons.length) h (h1.set (h.length+2) (some (.blk g (.cells true [I y])))):=by
 have fr2:Fr (idx L.w s.wagons.length) h (h1.set (h.length+2) (some (.blk g (.cells true [I y])))):=fr.setNew (by omega) _
 refine⟨?_,fr2⟩
 have hl:L.w.es.length=s.wagons.length:=by rw[ly.w.ek,List.length_map]
 have he:(L.w.es++[h.length+2])[s.wagons.length]?=some (h.length+2):=by
  rw[←hl,List.getElem?_append_right (Nat.le_refl _)];simp
 obtain⟨u1,u2⟩:=od.upd (v:=[I y]) (g:=g) he
 refine ly.setw (l':=⟨L.w.o,L.w.m,h.length+1,L.w.es++[h.length+2]⟩) (xs:=s.wagons++[(x,y)]) ?_ fr2 (fun b hb=>sF hb) rfl
 have:(s.wagons.map (fun p=>[I p.2])++[[I 0]]).set s.wagons.length [I y]=(s.wagons++[(x,y)]).map (fun p=>[I p.2]):=by
  rw[List.set_append_right _ _ (by simp)];simp
 rw[←this,List.map_append];exact u1
variable {h h' h1:XH} {L:CL} {s:dA} {x:ByteArray}
def iS {α:Type} (f:α→α) (z:α) (x:ByteArray):List (ByteArray×α)→List (ByteArray×α)
 | []=>[(x,z)]
 | (k,v)::r=>if k=x then (k,f v)::r else (k,v)::iS f z x r
theorem pQ {α:Type} {f:α→α} {z v:α}:∀ {l:List (ByteArray×α)} {i:Nat},fC (l.map (·.1)) x=some i→l[i]?=some (x,v)→iS f z x l=l.set i (x,f v)
 | [],i,h,_=>by cases h
 | (k,w)::r,i,h,hv=>by
   have h2:(if k=x then some 0 else (fC (r.map (·.1)) x).map (· + 1))=some i:=h
   unfold iS
   by_cases e:k=x
   ·rw[if_pos e]at h2 ⊢
    cases h2
    cases hv;rfl
   ·rw[if_neg e]at h2 ⊢
    rw[Option.map_eq_some_iff]at h2
    obtain⟨j,hj,rfl⟩:=h2
    rw[pQ (l:=r) hj hv];rfl
theorem tM {α:Type} {f:α→α} {z:α}:∀ {l:List (ByteArray×α)},fC (l.map (·.1)) x=none→iS f z x l=l++[(x,z)]
 | [],_=>rfl
 | (k,w)::r,h=>by
   have h2:(if k=x then some 0 else (fC (r.map (·.1)) x).map (· + 1))=none:=h
   unfold iS
   by_cases e:k=x
   ·rw[if_pos e]at h2;cases h2
   ·rw[if_neg e]at h2 ⊢
    rw[Option.map_eq_none_iff]at h2
    rw[tM h2];rfl
def mtr (n:Int) (y:Int×Int):Int×Int:=(n,y.2+(n-y.1+100000)%100000)
variable {h h' h1:XH} {L:CL} {s:dA} {x:ByteArray}
theorem w88 (ly:Lays h L s) {b0 b1:Nat} {f z:AV} (o:Out L s [b0,b1]) (k0:aE h b0=some (.cells true [.pt L.c 0])) (k1:aE h b1=some (.cells true [f,.fs [[.str x]],z])) (hx:fC (s.farmers.map (·.1)) x=none) (hl:s.farmers.length≤1000) :
 ∃ h' L',runW aD 88 [.pt b0 0,.pt b1 0] h=some (.tup [],h')∧Lays h' L' { s with farmers:=s.farmers++[(x,0)] }∧L'.c=L.c∧Fr (rE L s) h h'∧Sb h.length L s L' { s with farmers:=s.farmers++[(x,0)] }:=by
 obtain⟨g0,j0⟩:=aC k0
 obtain⟨g1,j1⟩:=aC k1
 obtain⟨g4,hc⟩:=aC ly.hc
 unfold eG at hc
 obtain⟨h1,call,hl1,od1,fr1⟩:=ly.f.newf hx (by rw[List.length_map];exact hl)
 rw[List.length_map]at fr1
 obtain⟨g6,i0⟩:=aC (fr1.keepS k0 (ly.px_out (j:=3) o (by simp)))
 obtain⟨g7,i1⟩:=aC (fr1.keepS k1 (ly.px_out (j:=3) o (by simp)))
 obtain⟨g8,ic⟩:=aC (fr1.keepS ly.hc (ly.off (i:=0) (j:=3) (by decide) (by simp[px])))
 refine⟨_,_,?_,ly.addF od1 fr1,rfl,Fr.px (j:=3) fr1,.of rfl (aRG rfl) (aCS rfl) (fun b hb=>sF hb) (hM rfl) (hM rfl) (hM rfl)⟩
 rw[qY 88 x88 rfl];unfold x88;dsimp only
 (exact RS7 j0 j1 hc call i0 i1 ic)
theorem pT {b n:Nat} (h:0<n):jW b n = .sl b 0 1 n:=by
 unfold jW;rw[if_neg (by omega)]
theorem Tk.at {tb:Nat} {te:List Nat} {ks:List CTk} (t:Tk h tb te ks) {i:Nat} {k:CTk} (hk:ks[i]?=some k):∃ e,te[i]?=some e∧aE h e=some (.cells true (tkC k))∧aE h tb=some (.cells true (te.map fun e=>.pt e 0))∧i<te.length:=by
 have hl:i<ks.length:=(List.getElem?_eq_some_iff.1 hk).1
 have h2:i<te.length:=by rw[t.el];exact hl
 have he:=List.getElem?_eq_getElem h2
 exact⟨_,he,t.he i _ k he hk,t.hb (by omega),h2⟩
variable {h h' h1:XH} {L:CL} {s:dA} {x:ByteArray}
def lV (h:XH) (b n:Nat):XH:=if n=0 then h else h.set b none
theorem iB {b n:Nat}:(lV h b n).length=h.length:=by
 unfold lV;split<;>simp
theorem aMi {b n j:Nat} (hj:j∉kL b n):aE (lV h b n) j=aE h j:=by
 unfold lV
 split
 ·rfl
 ·rename_i hn
  exact aBh fun q=>hj (bL.2 ⟨by omega,q⟩)
theorem Fr.off {J:List Nat} (f:Fr J h h1) {b n:Nat} (hb:∀ j,j∈kL b n→j∈J):Fr J h (lV h1 b n):=by
 unfold lV
 split
 ·exact f
 ·rename_i hn
  exact f.set (hb b (bL.2 ⟨by omega,rfl⟩)) _
theorem aPb {h k:XH} (i:Nat):hat (h++k) (h.length+i)=hat k i:=by
 rw[Pe,if_neg (by omega)];congr 1;omega
theorem Lays.tickNew (ly:Lays h L s) {k:CTk} {g g1 g2 g3:Bool} {cs:List AV} (hcs:cs=eG { L with tb:=h.length+2 } { s with tickets:=s.tickets++[k] }) :
 Lays ((lV h L.tb s.tickets.length).set L.c (some (.blk g (.cells true cs)))++[some (.blk g1 (.cells true (tkC k))),some (.blk g2 (.cells true [.pt h.length 0])),some (.blk g3 (.cells true (L.te.map (fun e=>.pt e 0)++[.pt h.length 0])))]) { L with tb:=h.length+2,te:=L.te++[h.length] } { s with tickets:=s.tickets++[k] } ∧
  Fr (L.c::kL L.tb s.tickets.length) h ((lV h L.tb s.tickets.length).set L.c (some (.blk g (.cells true cs)))++[some (.blk g1 (.cells true (tkC k))),some (.blk g2 (.cells true [.pt h.length 0])),some (.blk g3 (.cells true (L.te.map (fun e=>.pt e 0)++[.pt h.length 0])))]):=by
 subst hcs
 have cl:=aI ly.hc
 have fr:Fr (L.c::kL L.tb s.tickets.length) h ((lV h L.tb s.tickets.length).set L.c (some (.blk g (.cells true (eG { L with tb:=h.length+2 } { s with tickets:=s.tickets++[k] }))))++[some (.blk g1 (.cells true (tkC k))),some (.blk g2 (.cells true [.pt h.length 0])),some (.blk g3 (.cells true (L.te.map (fun e=>.pt e 0)++[.pt h.length 0])))]) :=
  (((Fr.refl _ h).off fun j hj=>List.mem_cons_of_mem _ hj).set List.mem_cons_self _).add _
 refine⟨ly.tickApp (k:=k) (Nat.le_refl _) (by omega) (by omega) ?_ ?_ ?_ fr,fr⟩
 ·rw[eQ,if_pos (by rw[List.length_set,iB];exact cl),cR,if_pos rfl,if_pos (by rw[iB];exact cl)]
 ·have hl:((lV h L.tb s.tickets.length).set L.c (some (.blk g (.cells true (eG { L with tb:=h.length+2 } { s with tickets:=s.tickets++[k] }))))).length=h.length:=by rw[List.length_set,iB]
  rw[eQ,hl,if_neg (by omega),show h.length+2-h.length=2 by omega];rfl
 ·have hl:((lV h L.tb s.tickets.length).set L.c (some (.blk g (.cells true (eG { L with tb:=h.length+2 } { s with tickets:=s.tickets++[k] }))))).length=h.length:=by rw[List.length_set,iB]
  rw[eQ,hl,if_neg (by omega),show h.length-h.length=0 by omega];rfl
theorem Lays.tickNew2 (ly:Lays h L s) {k:CTk} {n:Nat} {g g1 g2 g3:Bool} {cs:List AV} (hn:h.length=n) (hcs:cs=eG { L with tb:=n+2 } { s with tickets:=s.tickets++[k] }) (hh:h'=(lV h L.tb s.tickets.length).set L.c (some (.blk g (.cells true cs)))++[some (.blk g1 (.cells true (tkC k))),some (.blk g2 (.cells true [.pt n 0])),some (.blk g3 (.cells true (L.te.map (fun e=>.pt e 0)++[.pt n 0])))]) :
 Lays h' { L with tb:=n+2,te:=L.te++[n] } { s with tickets:=s.tickets++[k] }∧Fr (L.c::kL L.tb s.tickets.length) h h':=by
 subst hn hh
 exact ly.tickNew hcs
def dM (s:dA) (name owner:ByteArray) (full empty:Int):dA :=
 { s with wagons:=iS id empty name s.wagons,farmers:=lA s.farmers owner (full-empty),tickets:=s.tickets++[⟨name,owner,full-empty,false⟩] }

theorem aHU (ly:Lays h L s) {b0 b1 b2 b3 b4 b5 fe j i:Nat} {name owner:ByteArray} {full empty v:Int} (o:Out L s [b0,b1,b2,b3,b4,b5]) (k0:aE h b0=some (.cells true [.pt L.c 0])) (k1:aE h b1=some (.cells true [.str name])) (k2:aE h b2=some (.cells true [I empty])) (k3:aE h b3=some (.cells true [.pt fe 0])) (k4:aE h b4=some (.cells true [I full])) (k5:aE h b5=some (.cells true [.str owner]))
 (hfe:L.f.es[j]?=some fe) (hj:fC (s.farmers.map (·.1)) owner=some j) (hy:s.farmers[j]?=some (owner,v)) (hb : -1000000000≤v∧v≤1000000000∧0≤empty∧empty≤full∧full≤99999) (hl:s.wagons.length≤1000) (hl2:s.tickets.length≤1000) (hx:fC (s.wagons.map (·.1)) name=some i) (ht:s.tickets.length=0) :
 ∃ h' L',runW aD 128 [.pt b0 0,.pt b1 0,.pt b2 0,.pt b3 0,.pt b4 0,.pt b5 0] h=some (.tup [],h')∧Lays h' L' (dM s name owner full empty)∧L'.c=L.c∧Fr (rE L s) h h'∧Sb h.length L s L' (dM s name owner full empty):=by
 obtain⟨g0,j0⟩:=aC k0
 obtain⟨g1,j1⟩:=aC k1
 have a1:IntKind.i64.wrap (full-empty)=full-empty:=aS (by omega) (by omega)
 have a2:IntKind.i64.wrap (v+(full-empty))=v+(full-empty):=aS (by omega) (by omega)
 have fp:fe∈px L s 3:=aDF hfe
 have hfv:aE h fe=some (.cells true [I v]):=ly.f.he hfe (by rw[List.getElem?_map,hy];rfl)
 obtain⟨e,v',he,hv,hev,call⟩:=ly.w.oldw hx
 obtain⟨em,hy2⟩:=yI hx
 have hm:iS id empty name s.wagons=s.wagons:=by
  rw[pQ hx hy2];exact List.ext_getElem? fun q=>by
   by_cases hq:q=i
   ·subst hq;rw[List.getElem?_set_self (List.getElem?_eq_some_iff.1 hy2).1,hy2];rfl
   ·rw[List.getElem?_set_ne (Ne.symm hq)]
 obtain⟨g6,hc⟩:=aC ly.hc
 unfold eG at hc
 obtain⟨g2,j2⟩:=aC k2
 obtain⟨g3,j3⟩:=aC k3
 obtain⟨g4,j4⟩:=aC k4
 obtain⟨g5,j5⟩:=aC k5
 obtain⟨g7,hf5⟩:=aC hfv
 obtain⟨n,hn⟩:∃ n,h.length=n:=⟨_,rfl⟩
 have lyF:=ly.oldF (g:=g7) (y:=v+(full-empty)) hj hfe
 have frF:Fr (rE L s) h (h.set fe (some (.blk g7 (.cells true [I (v+(full-empty))])))):=(Fr.refl _ h).set (aX.2 ⟨3,fp⟩) _
 have ha:=mK (d:=full-empty) hj (by rw[List.getElem?_map,hy];rfl)
 have b0f:(b0=fe)=False:=eq_false fun q=>ly.px_out (j:=3) o (b:=b0) (by simp) (q▸fp)
 have b1f:(b1=fe)=False:=eq_false fun q=>ly.px_out (j:=3) o (b:=b1) (by simp) (q▸fp)
 have b2f:(b2=fe)=False:=eq_false fun q=>ly.px_out (j:=3) o (b:=b2) (by simp) (q▸fp)
 have b4f:(b4=fe)=False:=eq_false fun q=>ly.px_out (j:=3) o (b:=b4) (by simp) (q▸fp)
 have b5f:(b5=fe)=False:=eq_false fun q=>ly.px_out (j:=3) o (b:=b5) (by simp) (q▸fp)
 have cf:(L.c=fe)=False:=eq_false fun q=>ly.off (i:=3) (j:=0) (by decide) fp (by simp[px,q])
 have bl:∀ b c,aE h b=some c→(b<n)=True:=fun b c hb=>eq_true (by have:=aI hb;omega)
 have l0:=bl _ _ k0
 have l1:=bl _ _ k1
 have l2:=bl _ _ k2
 have l4:=bl _ _ k4
 have l5:=bl _ _ k5
 have lf:=bl _ _ hfv
 have lc:=bl _ _ ly.hc
 have te0:L.te=[]:=List.eq_nil_of_length_eq_zero (by rw[ly.tk.el];exact ht)
 have hv:jW L.tb s.tickets.length = .nilsl:=by rw[ht];rfl
 rw[hv]at hc
 have hbl:(h.set fe (some (.blk g7 (.cells true [I (v+(full-empty))])))).length=n:=(by simpa using hn)
 have walk:runW aD 128 [.pt b0 0,.pt b1 0,.pt b2 0,.pt b3 0,.pt b4 0,.pt b5 0] h=some (.tup [],(h.set fe (some (.blk g7 (.cells true [I (v+(full-empty))])))).set L.c (some (.blk false (.cells true [.pt L.f.o 0,.pt L.m.o 0,.pt L.p.o 0,.pt L.w.o 0,.sl (n+2) 0 1 1,I s.closed,jW L.kb s.book.length])))++[some (.blk true (.cells true [.str name,.str owner,I (full-empty),.bool false,.bool false])),some (.blk false (.cells true [.pt (n) 0])),some (.blk false (.cells true [.pt (n) 0]))]):=by
  rw[qY 128 aAb rfl,hn];unfold aAb;dsimp only
  (exact aPF j0 j1 j2 j3 j4 j5 hc call hf5 a1 a2 hn l0 l1 l2 l4 l5 lf lc b0f b1f b2f b4f b5f cf rs0)
 obtain⟨y1,y2⟩:=lyF.tickNew2 (h':=(h.set fe (some (.blk g7 (.cells true [I (v+(full-empty))])))).set L.c (some (.blk false (.cells true [.pt L.f.o 0,.pt L.m.o 0,.pt L.p.o 0,.pt L.w.o 0,.sl (n+2) 0 1 1,I s.closed,jW L.kb s.book.length])))++[some (.blk true (.cells true [.str name,.str owner,I (full-empty),.bool false,.bool false])),some (.blk false (.cells true [.pt (n) 0])),some (.blk false (.cells true [.pt (n) 0]))]) (k:=⟨name,owner,full-empty,false⟩) (n:=n) (g:=false) (g1:=true) (g2:=false) (g3:=false) (cs:=[.pt L.f.o 0,.pt L.m.o 0,.pt L.p.o 0,.pt L.w.o 0,.sl (n+2) 0 1 1,I s.closed,jW L.kb s.book.length]) hbl (by simp[eG,jW,ht]) (by simp[lV,tkC,ht,te0])
 refine⟨_,{ L with tb:=n+2,te:=L.te++[n] },walk,by unfold dM;rw[hm,ha];exact y1,rfl,frF.trans (y2.mono fun b hb=>?_),by
  unfold dM;rw[hm,ha]
  exact .of rfl (fun b hb=>by
   rw[List.mem_append,List.mem_append,bL,List.mem_singleton]at hb
   rcases hb with ⟨_,hb⟩|hb|hb
   ·exact .inr (by dsimp only at hb;omega)
   ·exact .inl (List.mem_append_right _ hb)
   ·exact .inr (by omega)) (aCS rfl) (hM (by rw[List.length_set])) (hM rfl) (hM rfl) (hM rfl)⟩
 rw[List.mem_cons]at hb
 rcases hb with rfl|hb
 ·exact aX.2 ⟨0,by simp[px]⟩
 ·exact aX.2 ⟨1,List.mem_append_left _ hb⟩
theorem aHV (ly:Lays h L s) {b0 b1 b2 b3 b4 b5 fe j i:Nat} {name owner:ByteArray} {full empty v:Int} (o:Out L s [b0,b1,b2,b3,b4,b5]) (k0:aE h b0=some (.cells true [.pt L.c 0])) (k1:aE h b1=some (.cells true [.str name])) (k2:aE h b2=some (.cells true [I empty])) (k3:aE h b3=some (.cells true [.pt fe 0])) (k4:aE h b4=some (.cells true [I full])) (k5:aE h b5=some (.cells true [.str owner]))
 (hfe:L.f.es[j]?=some fe) (hj:fC (s.farmers.map (·.1)) owner=some j) (hy:s.farmers[j]?=some (owner,v)) (hb : -1000000000≤v∧v≤1000000000∧0≤empty∧empty≤full∧full≤99999) (hl:s.wagons.length≤1000) (hl2:s.tickets.length≤1000) (hx:fC (s.wagons.map (·.1)) name=some i) (ht:0<s.tickets.length) :
 ∃ h' L',runW aD 128 [.pt b0 0,.pt b1 0,.pt b2 0,.pt b3 0,.pt b4 0,.pt b5 0] h=some (.tup [],h')∧Lays h' L' (dM s name owner full empty)∧L'.c=L.c∧Fr (rE L s) h h'∧Sb h.length L s L' (dM s name owner full empty):=by
 obtain⟨g0,j0⟩:=aC k0
 obtain⟨g1,j1⟩:=aC k1
 have a1:IntKind.i64.wrap (full-empty)=full-empty:=aS (by omega) (by omega)
 have a2:IntKind.i64.wrap (v+(full-empty))=v+(full-empty):=aS (by omega) (by omega)
 have fp:fe∈px L s 3:=aDF hfe
 have hfv:aE h fe=some (.cells true [I v]):=ly.f.he hfe (by rw[List.getElem?_map,hy];rfl)
 obtain⟨e,v',he,hv,hev,call⟩:=ly.w.oldw hx
 obtain⟨em,hy2⟩:=yI hx
 have hm:iS id empty name s.wagons=s.wagons:=by
  rw[pQ hx hy2];exact List.ext_getElem? fun q=>by
   by_cases hq:q=i
   ·subst hq;rw[List.getElem?_set_self (List.getElem?_eq_some_iff.1 hy2).1,hy2];rfl
   ·rw[List.getElem?_set_ne (Ne.symm hq)]
 obtain⟨g6,hc⟩:=aC ly.hc
 unfold eG at hc
 obtain⟨g2,j2⟩:=aC k2
 obtain⟨g3,j3⟩:=aC k3
 obtain⟨g4,j4⟩:=aC k4
 obtain⟨g5,j5⟩:=aC k5
 obtain⟨g7,hf5⟩:=aC hfv
 obtain⟨n,hn⟩:∃ n,h.length=n:=⟨_,rfl⟩
 have lyF:=ly.oldF (g:=g7) (y:=v+(full-empty)) hj hfe
 have frF:Fr (rE L s) h (h.set fe (some (.blk g7 (.cells true [I (v+(full-empty))])))):=(Fr.refl _ h).set (aX.2 ⟨3,fp⟩) _
 have ha:=mK (d:=full-empty) hj (by rw[List.getElem?_map,hy];rfl)
 have b0f:(b0=fe)=False:=eq_false fun q=>ly.px_out (j:=3) o (b:=b0) (by simp) (q▸fp)
 have b1f:(b1=fe)=False:=eq_false fun q=>ly.px_out (j:=3) o (b:=b1) (by simp) (q▸fp)
 have b2f:(b2=fe)=False:=eq_false fun q=>ly.px_out (j:=3) o (b:=b2) (by simp) (q▸fp)
 have b4f:(b4=fe)=False:=eq_false fun q=>ly.px_out (j:=3) o (b:=b4) (by simp) (q▸fp)
 have b5f:(b5=fe)=False:=eq_false fun q=>ly.px_out (j:=3) o (b:=b5) (by simp) (q▸fp)
 have cf:(L.c=fe)=False:=eq_false fun q=>ly.off (i:=3) (j:=0) (by decide) fp (by simp[px,q])
 have bl:∀ b c,aE h b=some c→(b<n)=True:=fun b c hb=>eq_true (by have:=aI hb;omega)
 have l0:=bl _ _ k0
 have l1:=bl _ _ k1
 have l2:=bl _ _ k2
 have l4:=bl _ _ k4
 have l5:=bl _ _ k5
 have lf:=bl _ _ hfv
 have lc:=bl _ _ ly.hc
 obtain⟨tk0,tk1⟩:∃ k,s.tickets[0]?=some k:=⟨_,List.getElem?_eq_getElem ht⟩
 obtain⟨te0,te1,te2,htb,te4⟩:=ly.tk.at tk1
 have tp:L.tb∈px L s 1:=List.mem_append_left _ (bL.2 ⟨ht,rfl⟩)
 have hv:=pT (b:=L.tb) ht
 rw[hv]at hc
 have lt:=bl _ _ htb
 have tf:(L.tb=fe)=False:=eq_false fun q=>ly.off (i:=3) (j:=1) (by decide) fp (q▸tp)
 have tc:(L.tb=L.c)=False:=eq_false fun q=>ly.off (i:=0) (j:=1) (by decide) (by simp[px]) (q▸tp)
 have tb0:(b0=L.tb)=False:=eq_false fun q=>ly.px_out (j:=1) o (b:=b0) (by simp) (q▸tp)
 have bt0:(L.tb=b0)=False:=eq_false fun q=>ly.px_out (j:=1) o (b:=b0) (by simp) (q▸tp)
 have tb1:(b1=L.tb)=False:=eq_false fun q=>ly.px_out (j:=1) o (b:=b1) (by simp) (q▸tp)
 have bt1:(L.tb=b1)=False:=eq_false fun q=>ly.px_out (j:=1) o (b:=b1) (by simp) (q▸tp)
 have tb2:(b2=L.tb)=False:=eq_false fun q=>ly.px_out (j:=1) o (b:=b2) (by simp) (q▸tp)
 have bt2:(L.tb=b2)=False:=eq_false fun q=>ly.px_out (j:=1) o (b:=b2) (by simp) (q▸tp)
 have tb4:(b4=L.tb)=False:=eq_false fun q=>ly.px_out (j:=1) o (b:=b4) (by simp) (q▸tp)
 have bt4:(L.tb=b4)=False:=eq_false fun q=>ly.px_out (j:=1) o (b:=b4) (by simp) (q▸tp)
 have tb5:(b5=L.tb)=False:=eq_false fun q=>ly.px_out (j:=1) o (b:=b5) (by simp) (q▸tp)
 have bt5:(L.tb=b5)=False:=eq_false fun q=>ly.px_out (j:=1) o (b:=b5) (by simp) (q▸tp)
 have ct:(L.c=L.tb)=False:=eq_false fun q=>ly.off (i:=0) (j:=1) (by decide) (by simp[px]) (q▸tp)
 have tl:(L.te.map fun e=>AV.pt e 0).length=s.tickets.length:=by rw[List.length_map];exact ly.tk.el
 have z1:((s.tickets.length+1)*8≤1099511627776)=True:=eq_true (by omega)
 have z2:(s.tickets.length+1≤1099511627776)=True:=eq_true (by omega)
 have tel:L.te.length=s.tickets.length:=ly.tk.el
 obtain⟨gt,hgt⟩:=aC htb
 have hbl:(h.set fe (some (.blk g7 (.cells true [I (v+(full-empty))])))).length=n:=(by simpa using hn)
 have walk:runW aD 128 [.pt b0 0,.pt b1 0,.pt b2 0,.pt b3 0,.pt b4 0,.pt b5 0] h=some (.tup [],((h.set fe (some (.blk g7 (.cells true [I (v+(full-empty))])))).set L.tb none).set L.c (some (.blk false (.cells true [.pt L.f.o 0,.pt L.m.o 0,.pt L.p.o 0,.pt L.w.o 0,.sl (n+2) 0 1 (s.tickets.length+1),I s.closed,jW L.kb s.book.length])))++[some (.blk true (.cells true [.str name,.str owner,I (full-empty),.bool false,.bool false])),some (.blk false (.cells true [.pt (n) 0])),some (.blk false (.cells true (L.te.map (fun e=>.pt e 0)++[.pt (n) 0])))]):=by
  rw[qY 128 aAb rfl,hn];unfold aAb;dsimp only
  (sym=>(simp[Za,Zb,Zc,Zd,Ze,Zf,Zh,Zi,Zl,Zm,Zo,Zv,Zz,Z0,Z8,Z9,ZA,ZG,ZR,ZW,ZY,ZZ,Yb,Yc,Yi,Yj,Ym,Yt,Y6,Y7,Y8,Xq,Xt,XY,XZ,Wa,Wb,We,Wf,Wi,Vh,Vo,Vq,Vr,Vt,Vu,Vz,V0,V5,V6,V7,V9,VA,VB,VC,VD,VE,Um,Uo,Ur,UH,UJ,UL,UQ,UU,UW,UZ,Ta,Tb,Tc,Td,Te,Th,Ti,Tj,Tp,Tr,Tt,Tu,Tw,T1,T2,T3,T9,TA,TF,TG,TH,TI,TJ,TK,TQ,TR,TS,TT,TU,TV,TZ,Sa,Sc,Se,Sf,Si,Sj,Sn,Sp,Sq,Su,Sv,Sw,Sx,Sz,SA,SC,SF,SN,SO,Rp,Rq,Rz,Qd,Qf,QV,QX,QZ,Pd,Pe,Pf,Pg,Ph,Pk,Pm,Pn,Pp,j0,j1,j2,j3,j4,j5,hc,call,hf5,a1,a2,hn,l0,l1,l2,l4,l5,lf,lc,b0f,b1f,b2f,b4f,b5f,cf,hgt,lt,tf,tc,ct,tel,z1,z2,tb0,tb1,tb2,tb4,tb5,bt0,bt1,bt2,bt4,bt5];all_goals tactic=>exact rfl))
 obtain⟨y1,y2⟩:=lyF.tickNew2 (h':=((h.set fe (some (.blk g7 (.cells true [I (v+(full-empty))])))).set L.tb none).set L.c (some (.blk false (.cells true [.pt L.f.o 0,.pt L.m.o 0,.pt L.p.o 0,.pt L.w.o 0,.sl (n+2) 0 1 (s.tickets.length+1),I s.closed,jW L.kb s.book.length])))++[some (.blk true (.cells true [.str name,.str owner,I (full-empty),.bool false,.bool false])),some (.blk false (.cells true [.pt (n) 0])),some (.blk false (.cells true (L.te.map (fun e=>.pt e 0)++[.pt (n) 0])))]) (k:=⟨name,owner,full-empty,false⟩) (n:=n) (g:=false) (g1:=true) (g2:=false) (g3:=false) (cs:=[.pt L.f.o 0,.pt L.m.o 0,.pt L.p.o 0,.pt L.w.o 0,.sl (n+2) 0 1 (s.tickets.length+1),I s.closed,jW L.kb s.book.length]) hbl (by simp[eG,jW]) (by simp[lV,tkC,Nat.ne_of_gt ht])
 refine⟨_,{ L with tb:=n+2,te:=L.te++[n] },walk,by unfold dM;rw[hm,ha];exact y1,rfl,frF.trans (y2.mono fun b hb=>?_),by
  unfold dM;rw[hm,ha]
  exact .of rfl (fun b hb=>by
   rw[List.mem_append,List.mem_append,bL,List.mem_singleton]at hb
   rcases hb with ⟨_,hb⟩|hb|hb
   ·exact .inr (by dsimp only at hb;omega)
   ·exact .inl (List.mem_append_right _ hb)
   ·exact .inr (by omega)) (aCS rfl) (hM (by rw[List.length_set])) (hM rfl) (hM rfl) (hM rfl)⟩
 rw[List.mem_cons]at hb
 rcases hb with rfl|hb
 ·exact aX.2 ⟨0,by simp[px]⟩
 ·exact aX.2 ⟨1,List.mem_append_left _ hb⟩
theorem aHW (ly:Lays h L s) {b0 b1 b2 b3 b4 b5 fe j:Nat} {name owner:ByteArray} {full empty v:Int} (o:Out L s [b0,b1,b2,b3,b4,b5]) (k0:aE h b0=some (.cells true [.pt L.c 0])) (k1:aE h b1=some (.cells true [.str name])) (k2:aE h b2=some (.cells true [I empty])) (k3:aE h b3=some (.cells true [.pt fe 0])) (k4:aE h b4=some (.cells true [I full])) (k5:aE h b5=some (.cells true [.str owner]))
 (hfe:L.f.es[j]?=some fe) (hj:fC (s.farmers.map (·.1)) owner=some j) (hy:s.farmers[j]?=some (owner,v)) (hb : -1000000000≤v∧v≤1000000000∧0≤empty∧empty≤full∧full≤99999) (hl:s.wagons.length≤1000) (hl2:s.tickets.length≤1000) (hx:fC (s.wagons.map (·.1)) name=none) (ht:s.tickets.length=0) :
 ∃ h' L',runW aD 128 [.pt b0 0,.pt b1 0,.pt b2 0,.pt b3 0,.pt b4 0,.pt b5 0] h=some (.tup [],h')∧Lays h' L' (dM s name owner full empty)∧L'.c=L.c∧Fr (rE L s) h h'∧Sb h.length L s L' (dM s name owner full empty):=by
 obtain⟨g0,j0⟩:=aC k0
 obtain⟨g1,j1⟩:=aC k1
 have a1:IntKind.i64.wrap (full-empty)=full-empty:=aS (by omega) (by omega)
 have a2:IntKind.i64.wrap (v+(full-empty))=v+(full-empty):=aS (by omega) (by omega)
 have fp:fe∈px L s 3:=aDF hfe
 have hfv:aE h fe=some (.cells true [I v]):=ly.f.he hfe (by rw[List.getElem?_map,hy];rfl)
 obtain⟨h1,call,hl1,od1,fr1⟩:=ly.w.neww hx (by rw[List.length_map];exact hl)
 rw[List.length_map]at fr1
 have hm:iS id empty name s.wagons=s.wagons++[(name,empty)]:=tM hx
 obtain⟨g6,hc⟩:=aC ly.hc
 unfold eG at hc
 obtain⟨g9,he9⟩:=aC (od1.he (i:=s.wagons.length) (v:=[I 0]) (e:=h.length+2) (by have:=ly.w.ek;rw[List.length_map]at this;rw[←this,List.getElem?_append_right (Nat.le_refl _)];simp) (by rw[List.getElem?_append_right (by simp)];simp))
 obtain⟨lyW,frW⟩:=ly.newW (y:=empty) (g:=g9) od1 fr1
 obtain⟨g2,j2⟩:=aC (fr1.keepS k2 (ly.px_out (j:=6) o (by simp)))
 obtain⟨gc1,hc1⟩:=aC (fr1.keepS ly.hc (ly.off (i:=0) (j:=6) (by decide) (by simp[px])))
 unfold eG at hc1
 obtain⟨gi0,i0⟩:=aC (fr1.keepS k0 (ly.px_out (j:=6) o (by simp)))
 obtain⟨gi1,i1⟩:=aC (fr1.keepS k1 (ly.px_out (j:=6) o (by simp)))
 obtain⟨g3,j3⟩:=aC (fr1.keepS k3 (ly.px_out (j:=6) o (by simp)))
 obtain⟨g4,j4⟩:=aC (fr1.keepS k4 (ly.px_out (j:=6) o (by simp)))
 obtain⟨g5,j5⟩:=aC (fr1.keepS k5 (ly.px_out (j:=6) o (by simp)))
 obtain⟨g7,hf5⟩:=aC (fr1.keepS hfv (ly.off (i:=3) (j:=6) (by decide) fp))
 obtain⟨n,hn⟩:∃ n,h.length=n:=⟨_,rfl⟩
 rw[hn]at call hl1 he9 lyW frW
 have lyF:=lyW.oldF (g:=g7) (y:=v+(full-empty)) hj hfe
 have frF:Fr (rE L s) h ((h1.set (n+2) (some (.blk g9 (.cells true [I empty])))).set fe (some (.blk g7 (.cells true [I (v+(full-empty))])))):=(Fr.px (j:=6) frW).set (aX.2 ⟨3,fp⟩) _
 have b0n:(b0=n+2)=False:=eq_false (by have:=aI k0;omega)
 have b1n:(b1=n+2)=False:=eq_false (by have:=aI k1;omega)
 have b2n:(b2=n+2)=False:=eq_false (by have:=aI k2;omega)
 have b3n:(b3=n+2)=False:=eq_false (by have:=aI k3;omega)
 have b4n:(b4=n+2)=False:=eq_false (by have:=aI k4;omega)
 have b5n:(b5=n+2)=False:=eq_false (by have:=aI k5;omega)
 have fn:(fe=n+2)=False:=eq_false (by have:=aI hfv;omega)
 have cn2:(L.c=n+2)=False:=eq_false (by have:=aI ly.hc;omega)
 have nl:(n+2<n+3)=True:=eq_true (by omega)

 have ha:=mK (d:=full-empty) hj (by rw[List.getElem?_map,hy];rfl)
 have b0f:(b0=fe)=False:=eq_false fun q=>ly.px_out (j:=3) o (b:=b0) (by simp) (q▸fp)
 have b1f:(b1=fe)=False:=eq_false fun q=>ly.px_out (j:=3) o (b:=b1) (by simp) (q▸fp)
 have b2f:(b2=fe)=False:=eq_false fun q=>ly.px_out (j:=3) o (b:=b2) (by simp) (q▸fp)
 have b4f:(b4=fe)=False:=eq_false fun q=>ly.px_out (j:=3) o (b:=b4) (by simp) (q▸fp)
 have b5f:(b5=fe)=False:=eq_false fun q=>ly.px_out (j:=3) o (b:=b5) (by simp) (q▸fp)
 have cf:(L.c=fe)=False:=eq_false fun q=>ly.off (i:=3) (j:=0) (by decide) fp (by simp[px,q])
 have bl:∀ b c,aE h b=some c→(b<n)=True:=fun b c hb=>eq_true (by have:=aI hb;omega)
 have l0:=bl _ _ k0
 have l1:=bl _ _ k1
 have l2:=bl _ _ k2
 have l4:=bl _ _ k4
 have l5:=bl _ _ k5
 have lf:=bl _ _ hfv
 have lc:=bl _ _ ly.hc
 have up:∀ b,(b<n)=True→(b<n+3)=True:=fun b hb=>eq_true (by have:=of_eq_true hb;omega)
 have u0:=up _ l0
 have u1:=up _ l1
 have u2:=up _ l2
 have u4:=up _ l4
 have u5:=up _ l5
 have uf:=up _ lf
 have uc:=up _ lc
 have te0:L.te=[]:=List.eq_nil_of_length_eq_zero (by rw[ly.tk.el];exact ht)
 have hv:jW L.tb s.tickets.length = .nilsl:=by rw[ht];rfl
 rw[hv]at hc
 rw[hv]at hc1
 have hbl:((h1.set (n+2) (some (.blk g9 (.cells true [I empty])))).set fe (some (.blk g7 (.cells true [I (v+(full-empty))])))).length=n+3:=(by simpa using hl1)
 have walk:runW aD 128 [.pt b0 0,.pt b1 0,.pt b2 0,.pt b3 0,.pt b4 0,.pt b5 0] h=some (.tup [],((h1.set (n+2) (some (.blk g9 (.cells true [I empty])))).set fe (some (.blk g7 (.cells true [I (v+(full-empty))])))).set L.c (some (.blk false (.cells true [.pt L.f.o 0,.pt L.m.o 0,.pt L.p.o 0,.pt L.w.o 0,.sl (n+5) 0 1 1,I s.closed,jW L.kb s.book.length])))++[some (.blk true (.cells true [.str name,.str owner,I (full-empty),.bool false,.bool false])),some (.blk false (.cells true [.pt (n+3) 0])),some (.blk false (.cells true [.pt (n+3) 0]))]):=by
  rw[qY 128 aAb rfl,hn];unfold aAb;dsimp only
  (sym=>(simp[Za,Zb,Zc,Zd,Ze,Zf,Zh,Zi,Zl,Zm,Zo,Zv,Zz,Z0,Z8,Z9,ZA,ZG,ZR,ZV,ZW,ZY,ZZ,Ya,Yb,Yc,Yi,Yj,Ym,Yt,Y6,Y7,Y8,Xq,Xt,XY,XZ,Wa,Wb,We,Wf,Wi,Vh,Vo,Vq,Vr,Vt,Vu,V0,V4,V5,V6,V7,V9,VA,VB,VC,VD,VE,Um,Uo,Ur,UH,UJ,UL,UQ,UU,UV,UZ,Ta,Tb,Tc,Td,Te,Th,Ti,Tp,Tr,Tt,Tu,Tw,T2,T3,T9,TA,TF,TG,TH,TI,TJ,TK,TQ,TR,TS,TT,TU,TV,TZ,Sa,Sc,Sd,Si,Sj,Sn,Sp,Sq,Su,Sw,Sx,Sy,Sz,SA,SF,SN,SO,Rp,Rz,Qd,Qe,Qf,QV,QX,QZ,Pd,Pe,Pf,Pg,Ph,Pk,Pm,Pn,Pp,j0,j1,j2,j3,j4,j5,hc,call,hf5,a1,a2,hn,l0,l1,l2,l4,l5,lf,lc,b0f,b1f,b2f,b4f,b5f,cf,hl1,b0n,b1n,b2n,b3n,b4n,b5n,fn,cn2,nl,he9,i0,i1,hc1,u0,u1,u2,u4,u5,uf,uc];all_goals tactic=>exact rfl))
 obtain⟨y1,y2⟩:=lyF.tickNew2 (h':=((h1.set (n+2) (some (.blk g9 (.cells true [I empty])))).set fe (some (.blk g7 (.cells true [I (v+(full-empty))])))).set L.c (some (.blk false (.cells true [.pt L.f.o 0,.pt L.m.o 0,.pt L.p.o 0,.pt L.w.o 0,.sl (n+5) 0 1 1,I s.closed,jW L.kb s.book.length])))++[some (.blk true (.cells true [.str name,.str owner,I (full-empty),.bool false,.bool false])),some (.blk false (.cells true [.pt (n+3) 0])),some (.blk false (.cells true [.pt (n+3) 0]))]) (k:=⟨name,owner,full-empty,false⟩) (n:=n+3) (g:=false) (g1:=true) (g2:=false) (g3:=false) (cs:=[.pt L.f.o 0,.pt L.m.o 0,.pt L.p.o 0,.pt L.w.o 0,.sl (n+5) 0 1 1,I s.closed,jW L.kb s.book.length]) hbl (by simp[eG,jW,ht]) (by simp[lV,tkC,ht,te0])
 refine⟨_,{ ({ L with w:=⟨L.w.o,L.w.m,n+1,L.w.es++[n+2]⟩ }:CL)with tb:=n+5,te:=L.te++[n+3] },walk,by unfold dM;rw[hm,ha];exact y1,rfl,frF.trans (y2.mono fun b hb=>?_),by
  unfold dM;rw[hm,ha]
  exact .of rfl (fun b hb=>by
   rw[List.mem_append,List.mem_append,bL,List.mem_singleton]at hb
   rcases hb with ⟨_,hb⟩|hb|hb
   ·exact .inr (by dsimp only at hb;omega)
   ·exact .inl (List.mem_append_right _ hb)
   ·exact .inr (by omega)) (aCS rfl) (hM (by rw[List.length_set])) (hM rfl) (hM rfl) (fun b hb=>by rw[←hn]at hb;exact sF hb)⟩
 rw[List.mem_cons]at hb
 rcases hb with rfl|hb
 ·exact aX.2 ⟨0,by simp[px]⟩
 ·exact aX.2 ⟨1,List.mem_append_left _ hb⟩
theorem aHX (ly:Lays h L s) {b0 b1 b2 b3 b4 b5 fe j:Nat} {name owner:ByteArray} {full empty v:Int} (o:Out L s [b0,b1,b2,b3,b4,b5]) (k0:aE h b0=some (.cells true [.pt L.c 0])) (k1:aE h b1=some (.cells true [.str name])) (k2:aE h b2=some (.cells true [I empty])) (k3:aE h b3=some (.cells true [.pt fe 0])) (k4:aE h b4=some (.cells true [I full])) (k5:aE h b5=some (.cells true [.str owner]))
 (hfe:L.f.es[j]?=some fe) (hj:fC (s.farmers.map (·.1)) owner=some j) (hy:s.farmers[j]?=some (owner,v)) (hb : -1000000000≤v∧v≤1000000000∧0≤empty∧empty≤full∧full≤99999) (hl:s.wagons.length≤1000) (hl2:s.tickets.length≤1000) (hx:fC (s.wagons.map (·.1)) name=none) (ht:0<s.tickets.length) :
 ∃ h' L',runW aD 128 [.pt b0 0,.pt b1 0,.pt b2 0,.pt b3 0,.pt b4 0,.pt b5 0] h=some (.tup [],h')∧Lays h' L' (dM s name owner full empty)∧L'.c=L.c∧Fr (rE L s) h h'∧Sb h.length L s L' (dM s name owner full empty):=by
 obtain⟨g0,j0⟩:=aC k0
 obtain⟨g1,j1⟩:=aC k1
 have a1:IntKind.i64.wrap (full-empty)=full-empty:=aS (by omega) (by omega)
 have a2:IntKind.i64.wrap (v+(full-empty))=v+(full-empty):=aS (by omega) (by omega)
 have fp:fe∈px L s 3:=aDF hfe
 have hfv:aE h fe=some (.cells true [I v]):=ly.f.he hfe (by rw[List.getElem?_map,hy];rfl)
 obtain⟨h1,call,hl1,od1,fr1⟩:=ly.w.neww hx (by rw[List.length_map];exact hl)
 rw[List.length_map]at fr1
 have hm:iS id empty name s.wagons=s.wagons++[(name,empty)]:=tM hx
 obtain⟨g6,hc⟩:=aC ly.hc
 unfold eG at hc
 obtain⟨g9,he9⟩:=aC (od1.he (i:=s.wagons.length) (v:=[I 0]) (e:=h.length+2) (by have:=ly.w.ek;rw[List.length_map]at this;rw[←this,List.getElem?_append_right (Nat.le_refl _)];simp) (by rw[List.getElem?_append_right (by simp)];simp))
 obtain⟨lyW,frW⟩:=ly.newW (y:=empty) (g:=g9) od1 fr1
 obtain⟨g2,j2⟩:=aC (fr1.keepS k2 (ly.px_out (j:=6) o (by simp)))
 obtain⟨gc1,hc1⟩:=aC (fr1.keepS ly.hc (ly.off (i:=0) (j:=6) (by decide) (by simp[px])))
 unfold eG at hc1
 obtain⟨gi0,i0⟩:=aC (fr1.keepS k0 (ly.px_out (j:=6) o (by simp)))
 obtain⟨gi1,i1⟩:=aC (fr1.keepS k1 (ly.px_out (j:=6) o (by simp)))
 obtain⟨g3,j3⟩:=aC (fr1.keepS k3 (ly.px_out (j:=6) o (by simp)))
 obtain⟨g4,j4⟩:=aC (fr1.keepS k4 (ly.px_out (j:=6) o (by simp)))
 obtain⟨g5,j5⟩:=aC (fr1.keepS k5 (ly.px_out (j:=6) o (by simp)))
 obtain⟨g7,hf5⟩:=aC (fr1.keepS hfv (ly.off (i:=3) (j:=6) (by decide) fp))
 obtain⟨n,hn⟩:∃ n,h.length=n:=⟨_,rfl⟩
 rw[hn]at call hl1 he9 lyW frW
 have lyF:=lyW.oldF (g:=g7) (y:=v+(full-empty)) hj hfe
 have frF:Fr (rE L s) h ((h1.set (n+2) (some (.blk g9 (.cells true [I empty])))).set fe (some (.blk g7 (.cells true [I (v+(full-empty))])))):=(Fr.px (j:=6) frW).set (aX.2 ⟨3,fp⟩) _
 have b0n:(b0=n+2)=False:=eq_false (by have:=aI k0;omega)
 have b1n:(b1=n+2)=False:=eq_false (by have:=aI k1;omega)
 have b2n:(b2=n+2)=False:=eq_false (by have:=aI k2;omega)
 have b3n:(b3=n+2)=False:=eq_false (by have:=aI k3;omega)
 have b4n:(b4=n+2)=False:=eq_false (by have:=aI k4;omega)
 have b5n:(b5=n+2)=False:=eq_false (by have:=aI k5;omega)
 have fn:(fe=n+2)=False:=eq_false (by have:=aI hfv;omega)
 have cn2:(L.c=n+2)=False:=eq_false (by have:=aI ly.hc;omega)
 have nl:(n+2<n+3)=True:=eq_true (by omega)

 have ha:=mK (d:=full-empty) hj (by rw[List.getElem?_map,hy];rfl)
 have b0f:(b0=fe)=False:=eq_false fun q=>ly.px_out (j:=3) o (b:=b0) (by simp) (q▸fp)
 have b1f:(b1=fe)=False:=eq_false fun q=>ly.px_out (j:=3) o (b:=b1) (by simp) (q▸fp)
 have b2f:(b2=fe)=False:=eq_false fun q=>ly.px_out (j:=3) o (b:=b2) (by simp) (q▸fp)
 have b4f:(b4=fe)=False:=eq_false fun q=>ly.px_out (j:=3) o (b:=b4) (by simp) (q▸fp)
 have b5f:(b5=fe)=False:=eq_false fun q=>ly.px_out (j:=3) o (b:=b5) (by simp) (q▸fp)
 have cf:(L.c=fe)=False:=eq_false fun q=>ly.off (i:=3) (j:=0) (by decide) fp (by simp[px,q])
 have bl:∀ b c,aE h b=some c→(b<n)=True:=fun b c hb=>eq_true (by have:=aI hb;omega)
 have l0:=bl _ _ k0
 have l1:=bl _ _ k1
 have l2:=bl _ _ k2
 have l4:=bl _ _ k4
 have l5:=bl _ _ k5
 have lf:=bl _ _ hfv
 have lc:=bl _ _ ly.hc
 have up:∀ b,(b<n)=True→(b<n+3)=True:=fun b hb=>eq_true (by have:=of_eq_true hb;omega)
 have u0:=up _ l0
 have u1:=up _ l1
 have u2:=up _ l2
 have u4:=up _ l4
 have u5:=up _ l5
 have uf:=up _ lf
 have uc:=up _ lc
 obtain⟨tk0,tk1⟩:∃ k,s.tickets[0]?=some k:=⟨_,List.getElem?_eq_getElem ht⟩
 obtain⟨te0,te1,te2,htb,te4⟩:=ly.tk.at tk1
 have tp:L.tb∈px L s 1:=List.mem_append_left _ (bL.2 ⟨ht,rfl⟩)
 have hv:=pT (b:=L.tb) ht
 rw[hv]at hc
 have lt:=bl _ _ htb
 have tf:(L.tb=fe)=False:=eq_false fun q=>ly.off (i:=3) (j:=1) (by decide) fp (q▸tp)
 have tc:(L.tb=L.c)=False:=eq_false fun q=>ly.off (i:=0) (j:=1) (by decide) (by simp[px]) (q▸tp)
 have tb0:(b0=L.tb)=False:=eq_false fun q=>ly.px_out (j:=1) o (b:=b0) (by simp) (q▸tp)
 have bt0:(L.tb=b0)=False:=eq_false fun q=>ly.px_out (j:=1) o (b:=b0) (by simp) (q▸tp)
 have tb1:(b1=L.tb)=False:=eq_false fun q=>ly.px_out (j:=1) o (b:=b1) (by simp) (q▸tp)
 have bt1:(L.tb=b1)=False:=eq_false fun q=>ly.px_out (j:=1) o (b:=b1) (by simp) (q▸tp)
 have tb2:(b2=L.tb)=False:=eq_false fun q=>ly.px_out (j:=1) o (b:=b2) (by simp) (q▸tp)
 have bt2:(L.tb=b2)=False:=eq_false fun q=>ly.px_out (j:=1) o (b:=b2) (by simp) (q▸tp)
 have tb4:(b4=L.tb)=False:=eq_false fun q=>ly.px_out (j:=1) o (b:=b4) (by simp) (q▸tp)
 have bt4:(L.tb=b4)=False:=eq_false fun q=>ly.px_out (j:=1) o (b:=b4) (by simp) (q▸tp)
 have tb5:(b5=L.tb)=False:=eq_false fun q=>ly.px_out (j:=1) o (b:=b5) (by simp) (q▸tp)
 have bt5:(L.tb=b5)=False:=eq_false fun q=>ly.px_out (j:=1) o (b:=b5) (by simp) (q▸tp)
 have ct:(L.c=L.tb)=False:=eq_false fun q=>ly.off (i:=0) (j:=1) (by decide) (by simp[px]) (q▸tp)
 have tl:(L.te.map fun e=>AV.pt e 0).length=s.tickets.length:=by rw[List.length_map];exact ly.tk.el
 have z1:((s.tickets.length+1)*8≤1099511627776)=True:=eq_true (by omega)
 have z2:(s.tickets.length+1≤1099511627776)=True:=eq_true (by omega)
 have tel:L.te.length=s.tickets.length:=ly.tk.el
 obtain⟨gt,hgt⟩:=aC (fr1.keepS htb (ly.off (i:=1) (j:=6) (by decide) tp))
 have tn:(L.tb=n+2)=False:=eq_false (by have:=aI htb;omega)
 have ut:=up _ lt
 rw[hv]at hc1
 have hbl:((h1.set (n+2) (some (.blk g9 (.cells true [I empty])))).set fe (some (.blk g7 (.cells true [I (v+(full-empty))])))).length=n+3:=(by simpa using hl1)
 have walk:runW aD 128 [.pt b0 0,.pt b1 0,.pt b2 0,.pt b3 0,.pt b4 0,.pt b5 0] h=some (.tup [],(((h1.set (n+2) (some (.blk g9 (.cells true [I empty])))).set fe (some (.blk g7 (.cells true [I (v+(full-empty))])))).set L.tb none).set L.c (some (.blk false (.cells true [.pt L.f.o 0,.pt L.m.o 0,.pt L.p.o 0,.pt L.w.o 0,.sl (n+5) 0 1 (s.tickets.length+1),I s.closed,jW L.kb s.book.length])))++[some (.blk true (.cells true [.str name,.str owner,I (full-empty),.bool false,.bool false])),some (.blk false (.cells true [.pt (n+3) 0])),some (.blk false (.cells true (L.te.map (fun e=>.pt e 0)++[.pt (n+3) 0])))]):=by
  rw[qY 128 aAb rfl,hn];unfold aAb;dsimp only
  (sym=>(simp[Za,Zb,Zc,Zd,Ze,Zf,Zh,Zi,Zl,Zm,Zo,Zv,Zz,Z0,Z8,Z9,ZA,ZG,ZR,ZV,ZW,ZY,ZZ,Ya,Yb,Yc,Yi,Yj,Ym,Yt,Y6,Y7,Y8,Xq,Xt,XY,XZ,Wa,Wb,We,Wf,Wi,Vh,Vo,Vq,Vr,Vt,Vu,Vz,V0,V5,V6,V7,V9,VA,VB,VC,VD,VE,Um,Uo,Ur,UH,UJ,UL,UQ,UU,UV,UZ,Ta,Tb,Tc,Td,Te,Th,Ti,Tj,Tp,Tr,Tt,Tu,Tw,T1,T2,T3,T9,TA,TF,TG,TH,TI,TJ,TK,TQ,TR,TS,TT,TU,TV,TZ,Sa,Sc,Se,Sf,Si,Sj,Sn,Sp,Sq,Su,Sv,Sw,Sx,Sz,SA,SF,SN,SO,Rp,Rq,Rz,Qd,Qf,QV,QX,QZ,Pd,Pe,Pf,Pg,Ph,Pk,Pm,Pn,Pp,j0,j1,j2,j3,j4,j5,hc,call,hf5,a1,a2,hn,l0,l1,l2,l4,l5,lf,lc,b0f,b1f,b2f,b4f,b5f,cf,hl1,b0n,b1n,b2n,b3n,b4n,b5n,fn,cn2,nl,he9,i0,i1,hc1,u0,u1,u2,u4,u5,uf,uc,hgt,lt,tf,tc,ct,tel,z1,z2,tb0,tb1,tb2,tb4,tb5,bt0,bt1,bt2,bt4,bt5,tn,ut];all_goals tactic=>exact rfl))
 obtain⟨y1,y2⟩:=lyF.tickNew2 (h':=(((h1.set (n+2) (some (.blk g9 (.cells true [I empty])))).set fe (some (.blk g7 (.cells true [I (v+(full-empty))])))).set L.tb none).set L.c (some (.blk false (.cells true [.pt L.f.o 0,.pt L.m.o 0,.pt L.p.o 0,.pt L.w.o 0,.sl (n+5) 0 1 (s.tickets.length+1),I s.closed,jW L.kb s.book.length])))++[some (.blk true (.cells true [.str name,.str owner,I (full-empty),.bool false,.bool false])),some (.blk false (.cells true [.pt (n+3) 0])),some (.blk false (.cells true (L.te.map (fun e=>.pt e 0)++[.pt (n+3) 0])))]) (k:=⟨name,owner,full-empty,false⟩) (n:=n+3) (g:=false) (g1:=true) (g2:=false) (g3:=false) (cs:=[.pt L.f.o 0,.pt L.m.o 0,.pt L.p.o 0,.pt L.w.o 0,.sl (n+5) 0 1 (s.tickets.length+1),I s.closed,jW L.kb s.book.length]) hbl (by simp[eG,jW]) (by simp[lV,tkC,Nat.ne_of_gt ht])
 refine⟨_,{ ({ L with w:=⟨L.w.o,L.w.m,n+1,L.w.es++[n+2]⟩ }:CL)with tb:=n+5,te:=L.te++[n+3] },walk,by unfold dM;rw[hm,ha];exact y1,rfl,frF.trans (y2.mono fun b hb=>?_),by
  unfold dM;rw[hm,ha]
  exact .of rfl (fun b hb=>by
   rw[List.mem_append,List.mem_append,bL,List.mem_singleton]at hb
   rcases hb with ⟨_,hb⟩|hb|hb
   ·exact .inr (by dsimp only at hb;omega)
   ·exact .inl (List.mem_append_right _ hb)
   ·exact .inr (by omega)) (aCS rfl) (hM (by rw[List.length_set])) (hM rfl) (hM rfl) (fun b hb=>by rw[←hn]at hb;exact sF hb)⟩
 rw[List.mem_cons]at hb
 rcases hb with rfl|hb
 ·exact aX.2 ⟨0,by simp[px]⟩
 ·exact aX.2 ⟨1,List.mem_append_left _ hb⟩
variable {h h' h1:XH} {L:CL} {s:dA} {x:ByteArray}
theorem aUe (ly:Lays h L s) {b0 b1 b2 b3 b4 b5 fe j:Nat} {name owner:ByteArray} {full empty v:Int} (o:Out L s [b0,b1,b2,b3,b4,b5]) (k0:aE h b0=some (.cells true [.pt L.c 0])) (k1:aE h b1=some (.cells true [.str name])) (k2:aE h b2=some (.cells true [I empty])) (k3:aE h b3=some (.cells true [.pt fe 0])) (k4:aE h b4=some (.cells true [I full])) (k5:aE h b5=some (.cells true [.str owner]))
 (hfe:L.f.es[j]?=some fe) (hj:fC (s.farmers.map (·.1)) owner=some j) (hy:s.farmers[j]?=some (owner,v)) (hb : -1000000000≤v∧v≤1000000000∧0≤empty∧empty≤full∧full≤99999) (hl:s.wagons.length≤1000) (hl2:s.tickets.length≤1000) :
 ∃ h' L',runW aD 128 [.pt b0 0,.pt b1 0,.pt b2 0,.pt b3 0,.pt b4 0,.pt b5 0] h=some (.tup [],h')∧Lays h' L' (dM s name owner full empty)∧L'.c=L.c∧Fr (rE L s) h h'∧Sb h.length L s L' (dM s name owner full empty):=by
 cases hx:fC (s.wagons.map (·.1)) name with
 | some i =>
   by_cases ht:s.tickets.length=0
   ·exact aHU ly o k0 k1 k2 k3 k4 k5 hfe hj hy hb hl hl2 hx ht
   ·exact aHV ly o k0 k1 k2 k3 k4 k5 hfe hj hy hb hl hl2 hx (by omega)
 | none =>
   by_cases ht:s.tickets.length=0
   ·exact aHW ly o k0 k1 k2 k3 k4 k5 hfe hj hy hb hl hl2 hx ht
   ·exact aHX ly o k0 k1 k2 k3 k4 k5 hfe hj hy hb hl hl2 hx (by omega)
def wWg (f:ByteArray) (name t1 t2 owner:ByteArray) (z full empty z2:Int):AV:=.agg [.str f,.fs [[.str name],[.str t1],[.str t2],[.str owner]],.fs [[I z],[I full],[I empty],[I z2]]]
def aMO (c:Nat) (f name t1 t2 owner:ByteArray) (z full empty z2:Int) (r:XH):XH:=some (.blk false (.cells true [.pt c 0]))::some (.blk true (.cells true [.str f,.fs [[.str name],[.str t1],[.str t2],[.str owner]],.fs [[I z],[I full],[I empty],[I z2]]]))::some (.blk true (.cells true [.str name]))::some (.blk true (.cells true [I full]))::some (.blk true (.cells true [I empty]))::some (.blk true (.cells true [.str owner]))::r
variable {f name t1 t2 owner:ByteArray} {z full empty z2:Int}
theorem aRR (ly:Lays h L s) {j:Nat} (hj:fC (s.farmers.map (·.1)) owner=some j) (r:XH):∃ fe,L.f.es[j]?=some fe∧runW aD 95 [.pt L.f.o 0,.str owner] (h++r)=some (.pt fe 0,h++r):=by
 obtain⟨fe,v,h1,h2,h3,h4⟩:=(ly.ext r).f.getf hj
 exact⟨fe,h1,h4⟩
theorem w90 (ly:Lays h L s) {j:Nat} (hj:fC (s.farmers.map (·.1)) owner=some j) (hle:empty≤full) (hw:∀ i v,fC (s.wagons.map (·.1)) name=some i→(s.wagons.map (·.2))[i]?=some v→v-500≤empty∧empty≤v+500) (hb:∀ p∈s.wagons,0≤p.2∧p.2≤99999) :
 ∃ fe,L.f.es[j]?=some fe∧runW aD 90 [.pt L.c 0,wWg f name t1 t2 owner z full empty z2] h=some (.fn (.func 128) [] [.pt h.length 0,.pt (h.length+2) 0,.pt (h.length+4) 0,.pt (h.length+6) 0,.pt (h.length+3) 0,.pt (h.length+5) 0],h++aMO L.c f name t1 t2 owner z full empty z2 [some (.blk false (.cells true [.pt fe 0]))]):=by
 obtain⟨fe,hfe,call⟩:=aRR ly hj (aMO L.c f name t1 t2 owner z full empty z2 [])
 refine⟨fe,hfe,?_⟩
 obtain⟨n,hn⟩:∃ n,h.length=n:=⟨_,rfl⟩
 obtain⟨g,hc⟩:=aC ly.hc
 unfold eG at hc
 have cn:(L.c<n)=True:=eq_true (by rw[←hn];exact aI ly.hc)
 have na:∀ a b:Nat,(n+a=n+b)=(a=b):=fun a b=>by simp
 have tle:(empty≤full)=True:=eq_true hle
 obtain⟨gw,hwo⟩:=ly.w.ho
 obtain⟨gm,hwm⟩:=ly.w.hm
 have won:(L.w.o<n)=True:=eq_true (by rw[←hn];exact ly.w.lts.1)
 have wmn:(L.w.m<n)=True:=eq_true (by rw[←hn];exact ly.w.lts.2.1)
 have m1:=w58 10
 have m2:=w58 22
 rw[qY 90 x90 rfl,hn];unfold x90;dsimp only
 unfold aMO wWg at *
 rcases hx:fC (s.wagons.map (·.1)) name with _|i
 ·have hf:=ly.w.miss hx
  (exact aMW hn hc cn na tle call hwo hwm won wmn m1 hf)
 ·obtain⟨e,v,he,hv,hf,hev⟩:=ly.w.found hx
  obtain⟨y,hy⟩:=yI hx
  rw[List.getElem?_map,hy]at hv
  cases hv
  have hev:aE h e=some (.cells true [I y]):=hev
  obtain⟨ge,hee⟩:=aC hev
  have hww:=hw i y hx (by rw[List.getElem?_map,hy];rfl)
  have hbb:=hb _ (List.mem_of_getElem? hy)
  simp only at hbb
  have een:(e<n)=True:=eq_true (by rw[←hn];exact aI hev)
  have v1:IntKind.i64.wrap (y-500)=y-500:=aS (by omega) (by omega)
  have v2:IntKind.i64.wrap (y+500)=y+500:=aS (by omega) (by omega)
  have c35:=w35 (y-500) empty (y+500)
  rw[decide_eq_true hww.1,decide_eq_true hww.2]at c35
  (exact aPG hn hc cn na tle call hwo hwm won wmn m1 hf hee een v1 v2 c35 m2 rs0 rs0)
variable {h h' h1:XH} {L:CL} {s:dA} {x:ByteArray}
theorem tF:cF .eql ⟨⟨[102,97,114,109,101,114]⟩⟩ ⟨⟨[102,97,114,109,101,114]⟩⟩=some (.bool true):=by kernel_rfl
theorem uZ:cF .eql ⟨⟨[119,97,103,111,110]⟩⟩ ⟨⟨[102,97,114,109,101,114]⟩⟩=some (.bool false):=by kernel_rfl
theorem xA:cF .eql ⟨⟨[119,97,103,111,110]⟩⟩ ⟨⟨[119,97,103,111,110]⟩⟩=some (.bool true):=by kernel_rfl
theorem aAl:cF .eql ⟨⟨[110,101,116]⟩⟩ ⟨⟨[102,97,114,109,101,114]⟩⟩=some (.bool false):=by kernel_rfl
theorem aBS:cF .eql ⟨⟨[110,101,116]⟩⟩ ⟨⟨[119,97,103,111,110]⟩⟩=some (.bool false):=by kernel_rfl
theorem aCU:cF .eql ⟨⟨[110,101,116]⟩⟩ ⟨⟨[118,111,105,100]⟩⟩=some (.bool false):=by kernel_rfl
theorem aBU:cF .eql ⟨⟨[110,101,116]⟩⟩ ⟨⟨[99,108,111,115,101]⟩⟩=some (.bool false):=by kernel_rfl
theorem aBT:cF .eql ⟨⟨[110,101,116]⟩⟩ ⟨⟨[109,101,116,101,114]⟩⟩=some (.bool false):=by kernel_rfl
theorem aEp:cF .eql ⟨⟨[110,101,116]⟩⟩ ⟨⟨[112,97,110]⟩⟩=some (.bool false):=by kernel_rfl
theorem vA:cF .eql ⟨⟨[116,111,116,97,108]⟩⟩ ⟨⟨[102,97,114,109,101,114]⟩⟩=some (.bool false):=by kernel_rfl
theorem xB:cF .eql ⟨⟨[116,111,116,97,108]⟩⟩ ⟨⟨[119,97,103,111,110]⟩⟩=some (.bool false):=by kernel_rfl
theorem aAj:cF .eql ⟨⟨[116,111,116,97,108]⟩⟩ ⟨⟨[118,111,105,100]⟩⟩=some (.bool false):=by kernel_rfl
theorem xD:cF .eql ⟨⟨[116,111,116,97,108]⟩⟩ ⟨⟨[99,108,111,115,101]⟩⟩=some (.bool false):=by kernel_rfl
theorem xC:cF .eql ⟨⟨[116,111,116,97,108]⟩⟩ ⟨⟨[109,101,116,101,114]⟩⟩=some (.bool false):=by kernel_rfl
theorem aBQ:cF .eql ⟨⟨[116,111,116,97,108]⟩⟩ ⟨⟨[112,97,110]⟩⟩=some (.bool false):=by kernel_rfl
theorem vB:cF .eql ⟨⟨[112,111,119,101,114]⟩⟩ ⟨⟨[102,97,114,109,101,114]⟩⟩=some (.bool false):=by kernel_rfl
theorem xE:cF .eql ⟨⟨[112,111,119,101,114]⟩⟩ ⟨⟨[119,97,103,111,110]⟩⟩=some (.bool false):=by kernel_rfl
theorem aAk:cF .eql ⟨⟨[112,111,119,101,114]⟩⟩ ⟨⟨[118,111,105,100]⟩⟩=some (.bool false):=by kernel_rfl
theorem xG:cF .eql ⟨⟨[112,111,119,101,114]⟩⟩ ⟨⟨[99,108,111,115,101]⟩⟩=some (.bool false):=by kernel_rfl
theorem xF:cF .eql ⟨⟨[112,111,119,101,114]⟩⟩ ⟨⟨[109,101,116,101,114]⟩⟩=some (.bool false):=by kernel_rfl
theorem aBR:cF .eql ⟨⟨[112,111,119,101,114]⟩⟩ ⟨⟨[112,97,110]⟩⟩=some (.bool false):=by kernel_rfl
theorem aNU {c:Nat} {z0:Int}:runW aD 61 [.pt c 0,.agg [.str ⟨⟨[110,101,116]⟩⟩,.fs [[.str x]],.fs [[I z0]]]] h=some (.nilfn,h++[some (.blk false (.cells true [.pt c 0])),some (.blk true (.cells true [.str ⟨⟨[110,101,116]⟩⟩,.fs [[.str x]],.fs [[I z0]]]))]):=by
 obtain⟨n,hn⟩:∃ n,h.length=n:=⟨_,rfl⟩
 rw[qY 61 x61 rfl,hn];unfold x61;dsimp only
 (exact RS7 hn aAl aBS aCU aBU aBT aEp)
theorem aCH {c:Nat}  : runW aD 61 [.pt c 0,.agg [.str ⟨⟨[116,111,116,97,108]⟩⟩,.fs [],.fs []]] h=some (.nilfn,h++[some (.blk false (.cells true [.pt c 0])),some (.blk true (.cells true [.str ⟨⟨[116,111,116,97,108]⟩⟩,.fs [],.fs []]))]):=by
 obtain⟨n,hn⟩:∃ n,h.length=n:=⟨_,rfl⟩
 rw[qY 61 x61 rfl,hn];unfold x61;dsimp only
 (exact RS7 hn vA xB aAj xD xC aBQ)
theorem aHS {c:Nat} {z0:Int}:runW aD 61 [.pt c 0,.agg [.str ⟨⟨[112,111,119,101,114]⟩⟩,.fs [[.str x]],.fs [[I z0]]]] h=some (.nilfn,h++[some (.blk false (.cells true [.pt c 0])),some (.blk true (.cells true [.str ⟨⟨[112,111,119,101,114]⟩⟩,.fs [[.str x]],.fs [[I z0]]]))]):=by
 obtain⟨n,hn⟩:∃ n,h.length=n:=⟨_,rfl⟩
 rw[qY 61 x61 rfl,hn];unfold x61;dsimp only
 (exact RS7 hn vB xE aAk xG xF aBR)
theorem aGA (ly:Lays h L s) {z0:Int} (hx:fC (s.farmers.map (·.1)) x=none) (hl:s.farmers.length≠9) :
 runW aD 61 [.pt L.c 0,.agg [.str ⟨⟨[102,97,114,109,101,114]⟩⟩,.fs [[.str x]],.fs [[I z0]]]] h=some (.fn (.func 88) [] [.pt h.length 0,.pt (h.length+1) 0],h++[some (.blk false (.cells true [.pt L.c 0])),some (.blk true (.cells true [.str ⟨⟨[102,97,114,109,101,114]⟩⟩,.fs [[.str x]],.fs [[I z0]]]))]):=by
 obtain⟨n,hn⟩:∃ n,h.length=n:=⟨_,rfl⟩
 obtain⟨g,hc⟩:=aC ly.hc
 unfold eG at hc
 have cn:(L.c<n)=True:=eq_true (by rw[←hn];exact aI ly.hc)
 obtain⟨gw,hwo⟩:=ly.f.ho
 obtain⟨gm,hwm⟩:=ly.f.hm
 have won:(L.f.o<n)=True:=eq_true (by rw[←hn];exact ly.f.lts.1)
 have wmn:(L.f.m<n)=True:=eq_true (by rw[←hn];exact ly.f.lts.2.1)
 have hf:=ly.f.miss hx
 have f1:=(ly.f.fr (Fr.app h [some (.blk false (.cells true [.pt L.c 0])),some (.blk true (.cells true [.str ⟨⟨[102,97,114,109,101,114]⟩⟩,.fs [[.str x]],.fs [[I z0]]]))]) (fun _ _ hb=>by cases hb)).fullf (x:=x) (by decide)
 rw[hx,decide_eq_true rfl,Bool.true_and,decide_eq_false (by rw[List.length_map];omega)]at f1
 have m1:=w58 6
 have m2:=w58 15
 rw[qY 61 x61 rfl,hn];unfold x61;dsimp only
 (exact aMW hn hc cn m1 m2 hwo hwm won wmn hf f1 tF)
theorem aHR {c:Nat} {u1 u2 y:ByteArray} {z0 z1 a b:Int} {v:AV} {h2:XH} (call:runW aD 90 [.pt c 0,.agg [.str ⟨⟨[119,97,103,111,110]⟩⟩,.fs [[.str x],[.str u1],[.str u2],[.str y]],.fs [[I z0],[I a],[I b],[I z1]]]] (h++[some (.blk false (.cells true [.pt c 0])),some (.blk true (.cells true [.str ⟨⟨[119,97,103,111,110]⟩⟩,.fs [[.str x],[.str u1],[.str u2],[.str y]],.fs [[I z0],[I a],[I b],[I z1]]]))])=some (v,h2)) (p0:(hat h2 h.length).isSome=true) (p1:(hat h2 (h.length+1)).isSome=true):runW aD 61 [.pt c 0,.agg [.str ⟨⟨[119,97,103,111,110]⟩⟩,.fs [[.str x],[.str u1],[.str u2],[.str y]],.fs [[I z0],[I a],[I b],[I z1]]]] h=some (v,h2):=by
 obtain⟨n,hn⟩:∃ n,h.length=n:=⟨_,rfl⟩
 rw[hn]at p0 p1
 rw[qY 61 x61 rfl,hn];unfold x61;dsimp only
 (exact RS6 hn call p0 p1 uZ xA)
variable {h h' h1:XH} {L:CL} {s:dA} {x:ByteArray}
end Go.Proofs.YtmapgnepfgnphaaGreatDoor
