/- Parts of a proof, joined: GT SH Z1 Z2 Z3 Z5 Z6 Y0 Y1 Z4 W1 W2 W3 W4 W5 W6 W7 W8 W9 W10 WA V1 V2 V3 WY WZ Z7 PF F0 K1 K2 RTX K3 K4 K5 K6 K7 K8 K9 K10 K11 K12 P1 P2 P3 P4 P5 P6 K13 LB P7 K15 Q1 Q2 Q3 Q4 Q5 Q6 Q7 Q8 Q9 Q10 Q11. No statement of the seed is proved here. -/
import Derived.Shelf.Strings.Builder1
import Derived.Shelf.Strings.Builder2
import Derived.Shelf.Strings.OnBuilder
import Derived.Shelf.Strings.Trim
import Derived.Shelf.Small.Utf8
import Derived.Shelf.Small.Strs
import Derived.Shelf.Small.Wraps
import Derived.Shelf.Strings.BuilderF
import Derived.Shelf.Strings.BuilderK
import Derived.Shelf.Strconv.Atoi
import Derived.Shelf.Strconv.Itoa0
import Derived.Shelf.Strconv.Itoa1
import Derived.Shelf.LaysM
import Derived.Shelf.Strconv.Itoa2
import Derived.Shelf.Strconv.Itoa3
import Derived.Shelf.Strconv.AtoiErrFast
import Derived.Shelf.Strconv.ParseIntEmpty
import Derived.Shelf.Strconv.AtoiFail
import Derived.Shelf.Strconv.Clone
import Derived.Shelf.Strconv.SyntaxError
import Derived.Shelf.LaysC
import Derived.Shelf.Strconv.ToError
import Derived.Shelf.Strconv.Lower
import Derived.Shelf.Strconv.ParseUint10
import Derived.Shelf.Strconv.ParseUint10Empty
import Derived.Shelf.Strconv.ParseUint10Any
import Derived.Shelf.Strconv.ParseInt10
import Derived.Shelf.Strconv.AtoiLong
import Derived.Shelf.Strconv.AtoiInnerAll
import Derived.Shelf.Strconv.RangeError
import Derived.Shelf.Strconv.ToErrorRange
import Derived.Shelf.Strconv.AtoiAll
import Derived.Shelf.Strings.Search1
import Derived.Shelf.Strings.Search2
import Derived.Shelf.Strings.Search3
import Derived.Shelf.Strings.Count
import Derived.Shelf.Strings.Shaped
import Derived.Shelf.GgClosure.StringsIndexFunc
import Derived.Ground.GgwProg
import Derived.Shelf.GgClosure.StringsIndexFuncTop
import Derived.Shelf.GgClosure.StringsRunes
import Derived.Shelf.Strings.Prefix
import Derived.Shelf.Strings.Split
import Derived.Shelf.Strings.SplitShaped
import Derived.Shelf.Unicode.Decode
import Derived.Shelf.Strings.Runes
import Derived.Shelf.Strings.RuneCount
import Derived.Shelf.Strings.AsciiSet
import Derived.Shelf.Strings.Explode
import Derived.Shelf.Bits.Mul64
import Derived.Shelf.Strings.Repeat
import Derived.Shelf.Unicode.DecodeSlow
import Derived.Shelf.Unicode.DecodeAny
import Derived.Shelf.Unicode.DecodeLast
import Derived.Shelf.Strings.FuncGrows
import Derived.Shelf.Slices.Turned
import Derived.Test.YtmapgnepfgnphaaGreatDoorProg
import Derived.KernelRfl
import Derived.Lib.AtoiAllCases
import Derived.Test.YtmapgnepfgnphaaGreatDoorH6
set_option linter.unusedSimpArgs false
set_option linter.unusedVariables false
set_option linter.unusedSectionVars false
set_option maxRecDepth 100000
set_option maxHeartbeats 4000000
namespace Go.Proofs.YtmapgnepfgnphaaGreatDoor
open Go Go.DL Go.Proofs.Tryz

def aTU:List (Nat×XFn):=[(10,x10),(13,x13),(14,x14),(16,x16),(18,x18),(19,x19),(23,x23),(25,x25),(31,x31),(32,x32),(33,x33),(34,x34),(35,x35),(36,x36),(38,x38),(42,x42),(43,x43),(44,x44),(45,x45),(46,x46),(52,x52),(53,x53),(54,x54),(55,x55),(58,x58),(59,x59),(60,x60),(61,nM),(62,sZ),(69,x69),(70,x70),(73,x73),(75,x75),(77,x77),(84,x84),(85,x85),(86,x86),(87,x87),(88,x88),(89,x89),(90,x90),(91,x91),(92,x92),(93,x93),(94,x94),(95,x95),(96,x96),(97,x97),(98,x98),(116,aTt),(119,aTs),(126,aTr),(127,aTq),(128,aCa),(129,aEP),(130,aOg),(131,aEO),(132,aIT),(133,aEN),(134,aEM),(135,aIS),(136,aEL),(137,aOf),(154,aTo),(155,aTn),(156,aTm),(157,aTl),(158,aTk),(159,aOe),(160,aOd),(175,aTi),(179,aTh),(180,aTg),(181,aTf),(182,aOc),(183,aOb),(184,aKm),(185,aOa),(186,aNZ),(197,aTd),(198,aTc),(201,aTb),(202,aTa),(203,aNY),(204,aNX),(205,aNW),(206,aNV),(207,aNU),(211,aNT),(212,aNS),(213,aNR),(215,aNQ),(234,aKg),(235,aNP),(236,aNO),(237,aNN),(242,aNM),(243,aNL),(244,aNK),(245,aNJ)]
def aLO:Nat→Option XFn:=aGc aTU
theorem zI:∀ p∈aTU,aQ prog p :=
 aT bAM (aT bAL (aT bAK (aT bAJ (aT bAI (aT bAH (aT bAG (aT bAF (aT bAE (aT bAD (aT bAC (aT bAB (aT bAA (aT bAz (aT bAy (aT bAx (aT bAw (aT bAv (aT bAu (aT bAt (aT bAs (aT bAr (aT bAq (aT bAp (aT bAo (aT bAn (aT bAm (aT bAl (aT bAk (aT bAj (aT bAi (aT bAh (aT bAg (aT bAf (aT bAe (aT bAd (aT bAc (aT bAb (aT bAa (aT aZZ (aT aZY (aT aZX (aT aZW (aT aZV (aT aZU (aT aZT (aT aZS (aT aZR (aT aZQ (aT aWu (aT aWt (aT aWs (aT aWr (aT aWq (aT aWp (aT aWo (aT aWn (aT aWm (aT aWl (aT aWk (aT aWj (aT aWi (aT aWh (aT aWg (aT aWf (aT aWe (aT aWd (aT aWc (aT aWb (aT aWa (aT aVZ (aT aVY (aT aVX (aT aVW (aT aVV (aT aVU (aT aVT (aT aVS (aT aVR (aT aVQ (aT aVP (aT aVO (aT aVN (aT aVM (aT aVL (aT aVK (aT aVJ (aT aVI (aT aVH (aT aVG (aT aVF (aT aVE (aT aVD (aT aVC (aT aVB (aT aVA (aT aVz (aT aVy (aT aVx (aT aVw (bBf))))))))))))))))))))))))))))))))))))))))))))))))))))))))))))))))))))))))))))))))))))))))))))))))))))
theorem aPn{k:Nat}{d:XFn}(h:aLO k=some d):d.prm=none:=(zI _ (oL h)).2.2.2
theorem progX_ok:XOk prog aLO:=⟨rfl,fun k d h _=>(zI _ (oL h)).1,fun k d f h hp=>(by rw[aPn h]at hp;cases hp),fun k d h=>(zI _ (oL h)).2.1,fun k d h=>(zI _ (oL h)).2.2.1⟩
end Go.Proofs.YtmapgnepfgnphaaGreatDoor
namespace Go.Proofs
open Go.Shelf
def Tryz.lays156_ren:Go.Shelf.Ren:=⟨fun|156=>99|165=>138|166=>69|169=>71|240=>115|241=>161|276=>140|277=>187|n=>n,fun|31=>22|9=>9|3=>3|4=>4|0=>0|20=>20|72=>126|76=>129|70=>124|37=>59|75=>128|127=>183|164=>215|5=>5|80=>37|n=>n,fun|n=>n⟩
theorem Tryz.lays156:Go.Proofs.Lays.n156 Tryz.prog Tryz.lays156_ren:={
 mixed:=by kernel_rfl
 f156:=Tryz.func99.trans (AAq some (by kernel_rfl))
 f165:=Tryz.func138.trans (AAq some (by kernel_rfl))
 f166:=Tryz.func69.trans (AAq some (by kernel_rfl))
 f169:=Tryz.func71.trans (AAq some (by kernel_rfl))
 f240:=Tryz.func115.trans (AAq some (by kernel_rfl))
 f241:=Tryz.func161.trans (AAq some (by kernel_rfl))
 f276:=Tryz.func140.trans (AAq some (by kernel_rfl))
 f277:=Tryz.func187.trans (AAq some (by kernel_rfl))
 t0:=Tryz.underlying0
 a0:=Tryz.isAgg0
 z0:=Tryz.sizeOf0
 v0:=Tryz.zeroValue0
 t3:=Tryz.underlying3
 a3:=Tryz.isAgg3
 z3:=Tryz.sizeOf3
 v3:=Tryz.zeroValue3
 t4:=Tryz.underlying4
 a4:=Tryz.isAgg4
 z4:=Tryz.sizeOf4
 v4:=Tryz.zeroValue4
 t9:=Tryz.underlying9
 a9:=Tryz.isAgg9
 z9:=Tryz.sizeOf9
 v9:=Tryz.zeroValue9
 t20:=Tryz.underlying20
 a20:=Tryz.isAgg20
 z20:=Tryz.sizeOf20
 v20:=Tryz.zeroValue20
 t31:=Tryz.underlying22
 a31:=Tryz.isAgg22
 z31:=Tryz.sizeOf22
 v31:=Tryz.zeroValue22
 t37:=Tryz.underlying59
 a37:=Tryz.isAgg59
 z37:=Tryz.sizeOf59
 v37:=Tryz.zeroValue59
 t70:=Tryz.underlying124
 a70:=Tryz.isAgg124
 z70:=Tryz.sizeOf124
 v70:=Tryz.zeroValue124
 t72:=Tryz.underlying126
 a72:=Tryz.isAgg126
 z72:=Tryz.sizeOf126
 v72:=Tryz.zeroValue126
 t75:=Tryz.underlying128
 a75:=Tryz.isAgg128
 z75:=Tryz.sizeOf128
 v75:=Tryz.zeroValue128
 t76:=Tryz.underlying129
 a76:=Tryz.isAgg129
 z76:=Tryz.sizeOf129
 v76:=Tryz.zeroValue129
 t127:=Tryz.underlying183
 a127:=Tryz.isAgg183
 z127:=Tryz.sizeOf183
 v127:=Tryz.zeroValue183
 t164:=Tryz.underlying215
 a164:=Tryz.isAgg215
 z164:=Tryz.sizeOf215
 v164:=Tryz.zeroValue215 }
theorem Tryz.Builder_Extra_156:Builder.Extra Tryz.prog Tryz.lays156_ren:={
 sizeBuilder:=by kernel_rfl
 liesBuilder:=by kernel_rfl
 t5:=Tryz.underlying5
 a5:=Tryz.isAgg5
 z5:=Tryz.sizeOf5
 v5:=Tryz.zeroValue5
 infoByte:=by kernel_rfl
 cellsByte:=by kernel_rfl
 sizeByte:=by kernel_rfl
 neB5:=by decide }
open Go.RowKit in
theorem Tryz.strings_Join_none(a:Option Addr)(c:Nat)(sep:ByteArray)(w:World) :
 Calls Tryz.prog 99 #[.slice a 0 c,.string sep] w fun e w'=>e = .returned (.string ⟨#[]⟩)∧w'=w:=Any.strings_Join_none Tryz.lays156 Tryz.Builder_Extra_156 a c sep w
open Go.RowKit in
theorem Tryz.strings_Join(bk o c:Nat)(xs:List ByteArray)(sep:ByteArray)(w:World)(hcells:∀(j:Nat) x,xs[j]?=some x→w.cell? ⟨bk,o+j,none⟩=some (.string x))(hbk:bk<w.heap.size)(hN:xs.length≤140737488355328)(hcap:xs.length≤c)(hlen:(Lib.join (xs.map (·.data.toList)) sep.data.toList).length≤140737488355328) :
 Calls Tryz.prog 99 #[.slice (some ⟨bk,o,none⟩) xs.length c,.string sep] w fun e w'=>e = .returned (.string ⟨(Lib.join (xs.map (·.data.toList)) sep.data.toList).toArray⟩)∧Below w.heap.size w w':=Any.strings_Join Tryz.lays156 Tryz.Builder_Extra_156 bk o c xs sep w hcells hbk hN hcap hlen
def Tryz.lays162_ren:Go.Shelf.Ren:=⟨fun|162=>80|232=>120|227=>121|234=>122|236=>123|228=>144|271=>145|151=>146|120=>168|197=>169|152=>170|260=>192|137=>193|119=>194|224=>195|225=>196|217=>199|266=>209|n=>n,fun|9=>9|4=>4|3=>3|5=>5|117=>188|116=>187|0=>0|124=>191|21=>21|105=>218|46=>238|119=>286|139=>289|138=>288|n=>n,fun|3=>4|4=>5|n=>n⟩
theorem Tryz.lays162:Go.Proofs.Lays.n162 Tryz.prog Tryz.lays162_ren:={
 mixed:=by kernel_rfl
 f119:=Tryz.func194.trans (AAq some (by kernel_rfl))
 f120:=Tryz.func168.trans (AAq some (by kernel_rfl))
 f137:=Tryz.func193.trans (AAq some (by kernel_rfl))
 f151:=Tryz.func146.trans (AAq some (by kernel_rfl))
 f152:=Tryz.func170.trans (AAq some (by kernel_rfl))
 f162:=Tryz.func80.trans (AAq some (by kernel_rfl))
 f197:=Tryz.func169.trans (AAq some (by kernel_rfl))
 f217:=Tryz.func199.trans (AAq some (by kernel_rfl))
 f224:=Tryz.func195.trans (AAq some (by kernel_rfl))
 f225:=Tryz.func196.trans (AAq some (by kernel_rfl))
 f227:=Tryz.func121.trans (AAq some (by kernel_rfl))
 f228:=Tryz.func144.trans (AAq some (by kernel_rfl))
 f232:=Tryz.func120.trans (AAq some (by kernel_rfl))
 f234:=Tryz.func122.trans (AAq some (by kernel_rfl))
 f236:=Tryz.func123.trans (AAq some (by kernel_rfl))
 f260:=Tryz.func192.trans (AAq some (by kernel_rfl))
 f266:=Tryz.func209.trans (AAq some (by kernel_rfl))
 f271:=Tryz.func145.trans (AAq some (by kernel_rfl))
 t0:=Tryz.underlying0
 a0:=Tryz.isAgg0
 z0:=Tryz.sizeOf0
 v0:=Tryz.zeroValue0
 t3:=Tryz.underlying3
 a3:=Tryz.isAgg3
 z3:=Tryz.sizeOf3
 v3:=Tryz.zeroValue3
 t4:=Tryz.underlying4
 a4:=Tryz.isAgg4
 z4:=Tryz.sizeOf4
 v4:=Tryz.zeroValue4
 t5:=Tryz.underlying5
 a5:=Tryz.isAgg5
 z5:=Tryz.sizeOf5
 v5:=Tryz.zeroValue5
 t9:=Tryz.underlying9
 a9:=Tryz.isAgg9
 z9:=Tryz.sizeOf9
 v9:=Tryz.zeroValue9
 t21:=Tryz.underlying21
 a21:=Tryz.isAgg21
 z21:=Tryz.sizeOf21
 v21:=Tryz.zeroValue21
 t46:=Tryz.underlying238
 a46:=Tryz.isAgg238
 z46:=Tryz.sizeOf238
 v46:=Tryz.zeroValue238
 t105:=Tryz.underlying218
 a105:=Tryz.isAgg218
 z105:=Tryz.sizeOf218
 v105:=Tryz.zeroValue218
 t116:=Tryz.underlying187
 a116:=Tryz.isAgg187
 z116:=Tryz.sizeOf187
 t117:=Tryz.underlying188
 a117:=Tryz.isAgg188
 z117:=Tryz.sizeOf188
 v117:=Tryz.zeroValue188
 t119:=Tryz.underlying286
 a119:=Tryz.isAgg286
 z119:=Tryz.sizeOf286
 t124:=Tryz.underlying191
 a124:=Tryz.isAgg191
 z124:=Tryz.sizeOf191
 v124:=Tryz.zeroValue191
 t138:=Tryz.underlying288
 a138:=Tryz.isAgg288
 z138:=Tryz.sizeOf288
 v138:=Tryz.zeroValue288
 t139:=Tryz.underlying289
 a139:=Tryz.isAgg289
 z139:=Tryz.sizeOf289
 v139:=Tryz.zeroValue289
 g3:=by kernel_rfl
 g4:=by kernel_rfl }
open Go.RowKit in
theorem Tryz.strings_TrimRight_one(s:ByteArray)(c:UInt8)(hc:c.toNat<128)(w:World)(hs:s.size≤9223372036854775807) :
 Calls Tryz.prog 80 #[.string s,.string ⟨#[c]⟩] w fun e w'=>e = .returned (.string ⟨(Lib.trimRightB s.data.toList c).toArray⟩)∧w'=w:=Any.strings_TrimRight_one Tryz.lays162 s c hc w hs
def Tryz.lays103_ren:Go.Shelf.Ren:=⟨fun|103=>72|210=>117|206=>141|n=>n,fun|9=>9|4=>4|24=>55|3=>3|n=>n,fun|n=>n⟩
theorem Tryz.lays103:Go.Proofs.Lays.n103 Tryz.prog Tryz.lays103_ren:={
 mixed:=by kernel_rfl
 f103:=Tryz.func72.trans (AAq some (by kernel_rfl))
 f206:=Tryz.func141.trans (AAq some (by kernel_rfl))
 f210:=Tryz.func117.trans (AAq some (by kernel_rfl))
 t3:=Tryz.underlying3
 a3:=Tryz.isAgg3
 z3:=Tryz.sizeOf3
 v3:=Tryz.zeroValue3
 t4:=Tryz.underlying4
 a4:=Tryz.isAgg4
 z4:=Tryz.sizeOf4
 v4:=Tryz.zeroValue4
 t9:=Tryz.underlying9
 a9:=Tryz.isAgg9
 z9:=Tryz.sizeOf9
 v9:=Tryz.zeroValue9
 t24:=Tryz.underlying55
 a24:=Tryz.isAgg55
 z24:=Tryz.sizeOf55
 v24:=Tryz.zeroValue55 }
open Go.RowKit in
theorem Tryz.strings_CutPrefix(s p:ByteArray)(w:World) :
 Calls Tryz.prog 72 #[.string s,.string p] w fun e w'=>e = .returned (.tuple #[.string ⟨(Lib.trimPrefix s.data.toList p.data.toList).toArray⟩,.bool (Lib.hasPrefix s.data.toList p.data.toList)])∧w'=w:=Any.strings_CutPrefix Tryz.lays103 s p w
def Tryz.laysM171_ren:Go.Shelf.Ren:=⟨fun|171=>57|243=>82|246=>124|283=>147|284=>148|285=>149|286=>150|129=>172|317=>171|318=>173|319=>174|320=>175|337=>197|338=>198|n=>n,fun|3=>3|9=>9|2=>2|4=>4|171=>221|0=>0|53=>222|37=>59|5=>5|173=>225|212=>251|51=>252|20=>20|213=>253|46=>238|232=>290|233=>291|n=>n,fun|17=>0|18=>6|19=>7|n=>n⟩
theorem Tryz.laysM171:Go.Proofs.LaysM.n171 Tryz.prog Tryz.laysM171_ren:={
 mixed:=by kernel_rfl
 f129:=Tryz.func172.trans (AAq some (by kernel_rfl))
 f171:=Tryz.func57.trans (AAq some (by kernel_rfl))
 f243:=Tryz.func82.trans (AAq some (by kernel_rfl))
 f246:=Tryz.func124.trans (AAq some (by kernel_rfl))
 f283:=Tryz.func147.trans (AAq some (by kernel_rfl))
 f284:=Tryz.func148.trans (AAq some (by kernel_rfl))
 f285:=Tryz.func149.trans (AAq some (by kernel_rfl))
 f286:=Tryz.func150.trans (AAq some (by kernel_rfl))
 f317:=Tryz.func171.trans (AAq some (by kernel_rfl))
 f318:=Tryz.func173.trans (AAq some (by kernel_rfl))
 f319:=Tryz.func174.trans (AAq some (by kernel_rfl))
 f320:=Tryz.func175.trans (AAq some (by kernel_rfl))
 f337:=Tryz.func197.trans (AAq some (by kernel_rfl))
 f338:=Tryz.func198.trans (AAq some (by kernel_rfl))
 t0:=Tryz.underlying0
 a0:=Tryz.isAgg0
 z0:=Tryz.sizeOf0
 v0:=Tryz.zeroValue0
 t2:=Tryz.underlying2
 a2:=Tryz.isAgg2
 z2:=Tryz.sizeOf2
 v2:=Tryz.zeroValue2
 t3:=Tryz.underlying3
 a3:=Tryz.isAgg3
 z3:=Tryz.sizeOf3
 v3:=Tryz.zeroValue3
 t4:=Tryz.underlying4
 a4:=Tryz.isAgg4
 z4:=Tryz.sizeOf4
 v4:=Tryz.zeroValue4
 t5:=Tryz.underlying5
 a5:=Tryz.isAgg5
 z5:=Tryz.sizeOf5
 v5:=Tryz.zeroValue5
 t9:=Tryz.underlying9
 a9:=Tryz.isAgg9
 z9:=Tryz.sizeOf9
 v9:=Tryz.zeroValue9
 t20:=Tryz.underlying20
 a20:=Tryz.isAgg20
 z20:=Tryz.sizeOf20
 v20:=Tryz.zeroValue20
 t37:=Tryz.underlying59
 a37:=Tryz.isAgg59
 z37:=Tryz.sizeOf59
 v37:=Tryz.zeroValue59
 t46:=Tryz.underlying238
 a46:=Tryz.isAgg238
 z46:=Tryz.sizeOf238
 v46:=Tryz.zeroValue238
 t51:=Tryz.underlying252
 a51:=Tryz.isAgg252
 z51:=Tryz.sizeOf252
 v51:=Tryz.zeroValue252
 t53:=Tryz.underlying222
 a53:=Tryz.isAgg222
 z53:=Tryz.sizeOf222
 v53:=Tryz.zeroValue222
 t171:=Tryz.underlying221
 a171:=Tryz.isAgg221
 z171:=Tryz.sizeOf221
 v171:=Tryz.zeroValue221
 t173:=Tryz.underlying225
 a173:=Tryz.isAgg225
 z173:=Tryz.sizeOf225
 v173:=Tryz.zeroValue225
 t212:=Tryz.underlying251
 a212:=Tryz.isAgg251
 z212:=Tryz.sizeOf251
 v212:=Tryz.zeroValue251
 t213:=Tryz.underlying253
 a213:=Tryz.isAgg253
 z213:=Tryz.sizeOf253
 t232:=Tryz.underlying290
 a232:=Tryz.isAgg290
 z232:=Tryz.sizeOf290
 v232:=Tryz.zeroValue290
 t233:=Tryz.underlying291
 a233:=Tryz.isAgg291
 z233:=Tryz.sizeOf291
 v233:=Tryz.zeroValue291
 g17:=by kernel_rfl
 g18:=by kernel_rfl
 g19:=by kernel_rfl
 i0:=by kernel_rfl
 i2:=by kernel_rfl
 i3:=by kernel_rfl
 i4:=by kernel_rfl
 i5:=by kernel_rfl
 i9:=by kernel_rfl
 i20:=by kernel_rfl
 i37:=by kernel_rfl
 i46:=by kernel_rfl
 i51:=by kernel_rfl
 i53:=by kernel_rfl
 i171:=by kernel_rfl
 i173:=by kernel_rfl
 i212:=by kernel_rfl
 i232:=by kernel_rfl
 i233:=by kernel_rfl
 m17:=by kernel_rfl
 m18:=by kernel_rfl
 m19:=by kernel_rfl }
open Go.RowKit Go.Sort Go.Lib in
theorem Tryz.strconv_Itoa (n:Int) (h0 : -9223372036854775808≤n) (h1:n≤9223372036854775807) (w:World) (htab:Lib.TabIs Tryz.prog w "internal/strconv.uint64pow10" .u64 Lib.pow10Tab) :
 Calls Tryz.prog 57 #[.int .i64 n] w fun e w'=>e = .returned (.string ⟨(Lib.itoa n).toArray⟩)∧∃ k os,w'=grow (w.drewN k) os:=Any.strconv_Itoa Tryz.laysM171 n h0 h1 w htab
def Tryz.laysC172_ren:Go.Shelf.Ren:=⟨fun|172=>86|244=>126|245=>127|247=>154|279=>155|280=>156|281=>157|282=>158|287=>179|316=>180|171=>57|205=>181|321=>201|322=>202|243=>82|246=>124|283=>147|284=>148|285=>149|286=>150|129=>172|317=>171|318=>173|319=>174|320=>175|337=>197|338=>198|n=>n,fun|9=>9|3=>3|75=>128|76=>129|4=>4|5=>5|167=>229|37=>59|0=>0|85=>230|2=>2|168=>232|53=>222|175=>257|46=>238|210=>260|127=>183|145=>280|143=>278|21=>21|171=>221|173=>225|212=>251|51=>252|20=>20|213=>253|232=>290|233=>291|80=>37|n=>n,fun|15=>1|16=>2|17=>0|18=>6|19=>7|n=>n⟩
theorem Tryz.laysC172:Go.Proofs.LaysC.n172 Tryz.prog Tryz.laysC172_ren:={
 mixed:=by kernel_rfl
 f129:=Tryz.func172.trans (AAq some (by kernel_rfl))
 f171:=Tryz.func57.trans (AAq some (by kernel_rfl))
 f172:=Tryz.func86.trans (AAq some (by kernel_rfl))
 f205:=Tryz.func181.trans (AAq some (by kernel_rfl))
 f243:=Tryz.func82.trans (AAq some (by kernel_rfl))
 f244:=Tryz.func126.trans (AAq some (by kernel_rfl))
 f245:=Tryz.func127.trans (AAq some (by kernel_rfl))
 f246:=Tryz.func124.trans (AAq some (by kernel_rfl))
 f247:=Tryz.func154.trans (AAq some (by kernel_rfl))
 f279:=Tryz.func155.trans (AAq some (by kernel_rfl))
 f280:=Tryz.func156.trans (AAq some (by kernel_rfl))
 f281:=Tryz.func157.trans (AAq some (by kernel_rfl))
 f282:=Tryz.func158.trans (AAq some (by kernel_rfl))
 f283:=Tryz.func147.trans (AAq some (by kernel_rfl))
 f284:=Tryz.func148.trans (AAq some (by kernel_rfl))
 f285:=Tryz.func149.trans (AAq some (by kernel_rfl))
 f286:=Tryz.func150.trans (AAq some (by kernel_rfl))
 f287:=Tryz.func179.trans (AAq some (by kernel_rfl))
 f316:=Tryz.func180.trans (AAq some (by kernel_rfl))
 f317:=Tryz.func171.trans (AAq some (by kernel_rfl))
 f318:=Tryz.func173.trans (AAq some (by kernel_rfl))
 f319:=Tryz.func174.trans (AAq some (by kernel_rfl))
 f320:=Tryz.func175.trans (AAq some (by kernel_rfl))
 f321:=Tryz.func201.trans (AAq some (by kernel_rfl))
 f322:=Tryz.func202.trans (AAq some (by kernel_rfl))
 f337:=Tryz.func197.trans (AAq some (by kernel_rfl))
 f338:=Tryz.func198.trans (AAq some (by kernel_rfl))
 t0:=Tryz.underlying0
 a0:=Tryz.isAgg0
 z0:=Tryz.sizeOf0
 v0:=Tryz.zeroValue0
 t2:=Tryz.underlying2
 a2:=Tryz.isAgg2
 z2:=Tryz.sizeOf2
 v2:=Tryz.zeroValue2
 t3:=Tryz.underlying3
 a3:=Tryz.isAgg3
 z3:=Tryz.sizeOf3
 v3:=Tryz.zeroValue3
 t4:=Tryz.underlying4
 a4:=Tryz.isAgg4
 z4:=Tryz.sizeOf4
 v4:=Tryz.zeroValue4
 t5:=Tryz.underlying5
 a5:=Tryz.isAgg5
 z5:=Tryz.sizeOf5
 v5:=Tryz.zeroValue5
 t9:=Tryz.underlying9
 a9:=Tryz.isAgg9
 z9:=Tryz.sizeOf9
 v9:=Tryz.zeroValue9
 t20:=Tryz.underlying20
 a20:=Tryz.isAgg20
 z20:=Tryz.sizeOf20
 v20:=Tryz.zeroValue20
 t21:=Tryz.underlying21
 a21:=Tryz.isAgg21
 z21:=Tryz.sizeOf21
 v21:=Tryz.zeroValue21
 t37:=Tryz.underlying59
 a37:=Tryz.isAgg59
 z37:=Tryz.sizeOf59
 v37:=Tryz.zeroValue59
 t46:=Tryz.underlying238
 a46:=Tryz.isAgg238
 z46:=Tryz.sizeOf238
 v46:=Tryz.zeroValue238
 t51:=Tryz.underlying252
 a51:=Tryz.isAgg252
 z51:=Tryz.sizeOf252
 v51:=Tryz.zeroValue252
 t53:=Tryz.underlying222
 a53:=Tryz.isAgg222
 z53:=Tryz.sizeOf222
 v53:=Tryz.zeroValue222
 t75:=Tryz.underlying128
 a75:=Tryz.isAgg128
 z75:=Tryz.sizeOf128
 v75:=Tryz.zeroValue128
 t76:=Tryz.underlying129
 a76:=Tryz.isAgg129
 z76:=Tryz.sizeOf129
 v76:=Tryz.zeroValue129
 t85:=Tryz.underlying230
 a85:=Tryz.isAgg230
 z85:=Tryz.sizeOf230
 v85:=Tryz.zeroValue230
 t127:=Tryz.underlying183
 a127:=Tryz.isAgg183
 z127:=Tryz.sizeOf183
 v127:=Tryz.zeroValue183
 t143:=Tryz.underlying278
 a143:=Tryz.isAgg278
 z143:=Tryz.sizeOf278
 v143:=Tryz.zeroValue278
 t145:=Tryz.underlying280
 a145:=Tryz.isAgg280
 z145:=Tryz.sizeOf280
 v145:=Tryz.zeroValue280
 t167:=Tryz.underlying229
 a167:=Tryz.isAgg229
 z167:=Tryz.sizeOf229
 v167:=Tryz.zeroValue229
 t168:=Tryz.underlying232
 a168:=Tryz.isAgg232
 z168:=Tryz.sizeOf232
 v168:=Tryz.zeroValue232
 t171:=Tryz.underlying221
 a171:=Tryz.isAgg221
 z171:=Tryz.sizeOf221
 v171:=Tryz.zeroValue221
 t173:=Tryz.underlying225
 a173:=Tryz.isAgg225
 z173:=Tryz.sizeOf225
 v173:=Tryz.zeroValue225
 t175:=Tryz.underlying257
 a175:=Tryz.isAgg257
 z175:=Tryz.sizeOf257
 v175:=Tryz.zeroValue257
 t210:=Tryz.underlying260
 a210:=Tryz.isAgg260
 z210:=Tryz.sizeOf260
 v210:=Tryz.zeroValue260
 t212:=Tryz.underlying251
 a212:=Tryz.isAgg251
 z212:=Tryz.sizeOf251
 v212:=Tryz.zeroValue251
 t213:=Tryz.underlying253
 a213:=Tryz.isAgg253
 z213:=Tryz.sizeOf253
 t232:=Tryz.underlying290
 a232:=Tryz.isAgg290
 z232:=Tryz.sizeOf290
 v232:=Tryz.zeroValue290
 t233:=Tryz.underlying291
 a233:=Tryz.isAgg291
 z233:=Tryz.sizeOf291
 v233:=Tryz.zeroValue291
 g15:=by kernel_rfl
 g16:=by kernel_rfl
 g17:=by kernel_rfl
 g18:=by kernel_rfl
 g19:=by kernel_rfl
 t80:=Tryz.underlying37
 a80:=Tryz.isAgg37
 z80:=Tryz.sizeOf37
 v80:=Tryz.zeroValue37
 i0:=by kernel_rfl
 i2:=by kernel_rfl
 i3:=by kernel_rfl
 i4:=by kernel_rfl
 i5:=by kernel_rfl
 i9:=by kernel_rfl
 i20:=by kernel_rfl
 i21:=by kernel_rfl
 i37:=by kernel_rfl
 i46:=by kernel_rfl
 i51:=by kernel_rfl
 i53:=by kernel_rfl
 i75:=by kernel_rfl
 i76:=by kernel_rfl
 i80:=by kernel_rfl
 i85:=by kernel_rfl
 i127:=by kernel_rfl
 i143:=by kernel_rfl
 i145:=by kernel_rfl
 i167:=by kernel_rfl
 i168:=by kernel_rfl
 i171:=by kernel_rfl
 i173:=by kernel_rfl
 i175:=by kernel_rfl
 i210:=by kernel_rfl
 i212:=by kernel_rfl
 i232:=by kernel_rfl
 i233:=by kernel_rfl
 m15:=by kernel_rfl
 m16:=by kernel_rfl
 m17:=by kernel_rfl
 m18:=by kernel_rfl
 m19:=by kernel_rfl
 c0:=by kernel_rfl
 c2:=by kernel_rfl
 c3:=by kernel_rfl
 c4:=by kernel_rfl
 c5:=by kernel_rfl
 c9:=by kernel_rfl
 c20:=by kernel_rfl
 c21:=by kernel_rfl
 c37:=by kernel_rfl
 c46:=by kernel_rfl
 c51:=by kernel_rfl
 c53:=by kernel_rfl
 c75:=by kernel_rfl
 c76:=by kernel_rfl
 c80:=by kernel_rfl
 c85:=by kernel_rfl
 c127:=by kernel_rfl
 c143:=by kernel_rfl
 c145:=by kernel_rfl
 c167:=by kernel_rfl
 c168:=by kernel_rfl
 c171:=by kernel_rfl
 c173:=by kernel_rfl
 c175:=by kernel_rfl
 c210:=by kernel_rfl
 c212:=by kernel_rfl
 c213:=by kernel_rfl
 c232:=by kernel_rfl
 c233:=by kernel_rfl }
open Go.RowKit in
theorem Tryz.strconv_Atoi_ok(s:ByteArray)(hmax:s.size≤9223372036854775806)(v:Int)(h:Lib.atoiAll s.data.toList = .ok v)(w:World) :
 Calls Tryz.prog 86 #[.string s] w fun e w'=>e = .returned (.tuple #[.int .i64 v,.nilIface])∧(w'=w∨∃ t,w'=Lib.bytesWorld w 5 t):=Any.strconv_Atoi_ok Tryz.laysC172 s hmax v h w
open Go.RowKit in
theorem Tryz.strconv_Atoi_syntax(s:ByteArray)(hlim:s.size≤281474976710656)(h:Lib.atoiAll s.data.toList=Lib.NumEnd.syntax)(ev:Value)(w:World)(hv:w.cell? ⟨1,0,none⟩=some ev)(hev:ev = .nilIface∨∃ te pe,ev = .iface te pe) :
 Calls Tryz.prog 86 #[.string s] w fun e w'=>∃ N,e = .returned (.tuple #[.int .i64 (0),.iface 232 (.pointer (some ⟨N,0,none⟩))])∧w.heap.size≤N∧w'.heap[N]?=some (.cells #[.string ⟨#[65,116,111,105]⟩,.string s,ev] 260 (0,0))∧Below w.heap.size w w':=Any.strconv_Atoi_syntax Tryz.laysC172 s hlim h ev w hv hev
open Go.RowKit in
theorem Tryz.strconv_Atoi_range(s:ByteArray)(hlim:s.size≤281474976710656)(h:Lib.atoiAll s.data.toList = .range)(ev:Value)(w:World)(hv:w.cell? ⟨2,0,none⟩=some ev)(hev:ev = .nilIface∨∃ te pe,ev = .iface te pe) :
 Calls Tryz.prog 86 #[.string s] w fun e w'=>∃ N,e = .returned (.tuple #[.int .i64 (Lib.atoiSat s.data.toList),.iface 232 (.pointer (some ⟨N,0,none⟩))])∧w.heap.size≤N∧w'.heap[N]?=some (.cells #[.string ⟨#[65,116,111,105]⟩,.string s,ev] 260 (0,0))∧Below w.heap.size w w':=Any.strconv_Atoi_range Tryz.laysC172 s hlim h ev w hv hev
def Tryz.laysGw17_ren:Go.Shelf.Ren:=⟨fun|17=>74|15=>118|20=>142|n=>n,fun|9=>9|23=>137|4=>4|3=>3|0=>0|21=>21|n=>n,fun|n=>n⟩
theorem Tryz.laysGw17:Go.Proofs.LaysGw.n17 Tryz.prog Tryz.laysGw17_ren:={
 mixed:=by kernel_rfl
 f15:=Tryz.func118.trans (AAq some (by kernel_rfl))
 f17:=Tryz.func74.trans (AAq some (by kernel_rfl))
 f20:=Tryz.func142.trans (AAq some (by kernel_rfl))
 t0:=Tryz.underlying0
 a0:=Tryz.isAgg0
 z0:=Tryz.sizeOf0
 v0:=Tryz.zeroValue0
 i0:=by kernel_rfl
 t3:=Tryz.underlying3
 a3:=Tryz.isAgg3
 z3:=Tryz.sizeOf3
 v3:=Tryz.zeroValue3
 i3:=by kernel_rfl
 t4:=Tryz.underlying4
 a4:=Tryz.isAgg4
 z4:=Tryz.sizeOf4
 v4:=Tryz.zeroValue4
 i4:=by kernel_rfl
 t9:=Tryz.underlying9
 a9:=Tryz.isAgg9
 z9:=Tryz.sizeOf9
 v9:=Tryz.zeroValue9
 i9:=by kernel_rfl
 t21:=Tryz.underlying21
 a21:=Tryz.isAgg21
 z21:=Tryz.sizeOf21
 v21:=Tryz.zeroValue21
 i21:=by kernel_rfl
 t23:=Tryz.underlying137
 a23:=Tryz.isAgg137
 z23:=Tryz.sizeOf137
 v23:=Tryz.zeroValue137
 i23:=by kernel_rfl }
open Go.RowKit Go.Lib in
theorem Tryz.strings_ContainsFunc_runes(g:Nat)(lb:Array Value)(eg:∀ args w,(callFunc g args).run Tryz.prog w = .ok (.enter g args) w)(p:Nat→Bool)(s:ByteArray)(w:World)(hp:PredAtRunes Tryz.prog g lb p w) :
 Calls Tryz.prog 74 #[.string s,.func (.func g) #[] lb] w fun e w'=>e = .returned (.bool (decide (0≤Lib.idxFunc p true s)))∧Below w.heap.size w w':=Any.strings_ContainsFunc_runes Tryz.laysGw17 g lb eg p s w hp
def Tryz.lays100_ren:Go.Shelf.Ren:=⟨fun|100=>37|207=>76|n=>n,fun|9=>9|4=>4|3=>3|n=>n,fun|n=>n⟩
theorem Tryz.lays100:Go.Proofs.Lays.n100 Tryz.prog Tryz.lays100_ren:={
 mixed:=by kernel_rfl
 f100:=Tryz.func37.trans (AAq some (by kernel_rfl))
 f207:=Tryz.func76.trans (AAq some (by kernel_rfl))
 t3:=Tryz.underlying3
 a3:=Tryz.isAgg3
 z3:=Tryz.sizeOf3
 v3:=Tryz.zeroValue3
 t4:=Tryz.underlying4
 a4:=Tryz.isAgg4
 z4:=Tryz.sizeOf4
 v4:=Tryz.zeroValue4
 t9:=Tryz.underlying9
 a9:=Tryz.isAgg9
 z9:=Tryz.sizeOf9
 v9:=Tryz.zeroValue9 }
open Go.RowKit Go.Lib in
theorem Tryz.strings_HasSuffix(s p:ByteArray)(w:World)(hs:s.size≤9223372036854775807) :
 Calls Tryz.prog 37 #[.string s,.string p] w fun e w'=>e = .returned (.bool (Lib.hasSuffix s.data.toList p.data.toList))∧w'=w:=Any.strings_HasSuffix Tryz.lays100 s p w hs
def Tryz.lays146_ren:Go.Shelf.Ren:=⟨fun|146=>83|221=>125|268=>151|138=>152|143=>153|195=>176|197=>169|218=>177|219=>178|260=>192|217=>199|225=>196|224=>195|267=>200|266=>209|314=>210|n=>n,fun|9=>9|31=>22|3=>3|4=>4|0=>0|105=>218|21=>21|5=>5|46=>238|119=>286|139=>289|138=>288|146=>272|51=>252|n=>n,fun|1=>3|3=>4|4=>5|n=>n⟩
theorem Tryz.lays146:Go.Proofs.Lays.n146 Tryz.prog Tryz.lays146_ren:={
 mixed:=by kernel_rfl
 f138:=Tryz.func152.trans (AAq some (by kernel_rfl))
 f143:=Tryz.func153.trans (AAq some (by kernel_rfl))
 f146:=Tryz.func83.trans (AAq some (by kernel_rfl))
 f195:=Tryz.func176.trans (AAq some (by kernel_rfl))
 f197:=Tryz.func169.trans (AAq some (by kernel_rfl))
 f217:=Tryz.func199.trans (AAq some (by kernel_rfl))
 f218:=Tryz.func177.trans (AAq some (by kernel_rfl))
 f219:=Tryz.func178.trans (AAq some (by kernel_rfl))
 f221:=Tryz.func125.trans (AAq some (by kernel_rfl))
 f224:=Tryz.func195.trans (AAq some (by kernel_rfl))
 f225:=Tryz.func196.trans (AAq some (by kernel_rfl))
 f260:=Tryz.func192.trans (AAq some (by kernel_rfl))
 f266:=Tryz.func209.trans (AAq some (by kernel_rfl))
 f267:=Tryz.func200.trans (AAq some (by kernel_rfl))
 f268:=Tryz.func151.trans (AAq some (by kernel_rfl))
 f314:=Tryz.func210.trans (AAq some (by kernel_rfl))
 t0:=Tryz.underlying0
 a0:=Tryz.isAgg0
 z0:=Tryz.sizeOf0
 v0:=Tryz.zeroValue0
 t3:=Tryz.underlying3
 a3:=Tryz.isAgg3
 z3:=Tryz.sizeOf3
 v3:=Tryz.zeroValue3
 t4:=Tryz.underlying4
 a4:=Tryz.isAgg4
 z4:=Tryz.sizeOf4
 v4:=Tryz.zeroValue4
 t5:=Tryz.underlying5
 a5:=Tryz.isAgg5
 z5:=Tryz.sizeOf5
 v5:=Tryz.zeroValue5
 t9:=Tryz.underlying9
 a9:=Tryz.isAgg9
 z9:=Tryz.sizeOf9
 v9:=Tryz.zeroValue9
 t21:=Tryz.underlying21
 a21:=Tryz.isAgg21
 z21:=Tryz.sizeOf21
 v21:=Tryz.zeroValue21
 t31:=Tryz.underlying22
 a31:=Tryz.isAgg22
 z31:=Tryz.sizeOf22
 v31:=Tryz.zeroValue22
 t46:=Tryz.underlying238
 a46:=Tryz.isAgg238
 z46:=Tryz.sizeOf238
 v46:=Tryz.zeroValue238
 t51:=Tryz.underlying252
 a51:=Tryz.isAgg252
 z51:=Tryz.sizeOf252
 v51:=Tryz.zeroValue252
 t105:=Tryz.underlying218
 a105:=Tryz.isAgg218
 z105:=Tryz.sizeOf218
 v105:=Tryz.zeroValue218
 t119:=Tryz.underlying286
 a119:=Tryz.isAgg286
 z119:=Tryz.sizeOf286
 t138:=Tryz.underlying288
 a138:=Tryz.isAgg288
 z138:=Tryz.sizeOf288
 v138:=Tryz.zeroValue288
 t139:=Tryz.underlying289
 a139:=Tryz.isAgg289
 z139:=Tryz.sizeOf289
 v139:=Tryz.zeroValue289
 t146:=Tryz.underlying272
 a146:=Tryz.isAgg272
 z146:=Tryz.sizeOf272
 v146:=Tryz.zeroValue272
 g1:=by kernel_rfl
 g3:=by kernel_rfl
 g4:=by kernel_rfl }
open Go.RowKit Go.Lib in
theorem Tryz.strings_Split(s sep:ByteArray)(m:Int)(w:World)(hs:s.size<4294967281)(hm:w.cell? ⟨3,0,none⟩=some (.int .i64 m))(h1:1≤sep.size) :
 Calls Tryz.prog 83 #[.string s,.string sep] w fun e w' =>
  e = .returned (.slice (some ⟨w.heap.size,0,none⟩) (Lib.countB s sep+1) (Lib.countB s sep+1))∧w'=w.alloc (.cells ((Lib.splitB sep 0 (Lib.countB s sep) s).map Value.string).toArray 9):=Any.strings_Split Tryz.lays146 (by kernel_rfl) s sep m w hs hm h1
def Tryz.lays105_ren:Go.Shelf.Ren:=⟨fun|105=>143|212=>165|99=>166|165=>138|166=>69|170=>167|169=>71|263=>190|264=>191|206=>141|240=>115|241=>161|276=>140|277=>187|n=>n,fun|9=>9|3=>3|4=>4|20=>20|0=>0|46=>238|109=>246|5=>5|72=>126|76=>129|51=>252|146=>272|53=>222|148=>274|70=>124|37=>59|75=>128|127=>183|164=>215|80=>37|n=>n,fun|n=>n⟩
theorem Tryz.lays105:Go.Proofs.Lays.n105 Tryz.prog Tryz.lays105_ren:={
 mixed:=by kernel_rfl
 f99:=Tryz.func166.trans (AAq some (by kernel_rfl))
 f105:=Tryz.func143.trans (AAq some (by kernel_rfl))
 f165:=Tryz.func138.trans (AAq some (by kernel_rfl))
 f166:=Tryz.func69.trans (AAq some (by kernel_rfl))
 f169:=Tryz.func71.trans (AAq some (by kernel_rfl))
 f170:=Tryz.func167.trans (AAq some (by kernel_rfl))
 f206:=Tryz.func141.trans (AAq some (by kernel_rfl))
 f212:=Tryz.func165.trans (AAq some (by kernel_rfl))
 f240:=Tryz.func115.trans (AAq some (by kernel_rfl))
 f241:=Tryz.func161.trans (AAq some (by kernel_rfl))
 f263:=Tryz.func190.trans (AAq some (by kernel_rfl))
 f264:=Tryz.func191.trans (AAq some (by kernel_rfl))
 f276:=Tryz.func140.trans (AAq some (by kernel_rfl))
 f277:=Tryz.func187.trans (AAq some (by kernel_rfl))
 t0:=Tryz.underlying0
 a0:=Tryz.isAgg0
 z0:=Tryz.sizeOf0
 v0:=Tryz.zeroValue0
 t3:=Tryz.underlying3
 a3:=Tryz.isAgg3
 z3:=Tryz.sizeOf3
 v3:=Tryz.zeroValue3
 t4:=Tryz.underlying4
 a4:=Tryz.isAgg4
 z4:=Tryz.sizeOf4
 v4:=Tryz.zeroValue4
 t5:=Tryz.underlying5
 a5:=Tryz.isAgg5
 z5:=Tryz.sizeOf5
 v5:=Tryz.zeroValue5
 t9:=Tryz.underlying9
 a9:=Tryz.isAgg9
 z9:=Tryz.sizeOf9
 v9:=Tryz.zeroValue9
 t20:=Tryz.underlying20
 a20:=Tryz.isAgg20
 z20:=Tryz.sizeOf20
 v20:=Tryz.zeroValue20
 t37:=Tryz.underlying59
 a37:=Tryz.isAgg59
 z37:=Tryz.sizeOf59
 v37:=Tryz.zeroValue59
 t46:=Tryz.underlying238
 a46:=Tryz.isAgg238
 z46:=Tryz.sizeOf238
 v46:=Tryz.zeroValue238
 t51:=Tryz.underlying252
 a51:=Tryz.isAgg252
 z51:=Tryz.sizeOf252
 v51:=Tryz.zeroValue252
 t53:=Tryz.underlying222
 a53:=Tryz.isAgg222
 z53:=Tryz.sizeOf222
 v53:=Tryz.zeroValue222
 t70:=Tryz.underlying124
 a70:=Tryz.isAgg124
 z70:=Tryz.sizeOf124
 v70:=Tryz.zeroValue124
 t72:=Tryz.underlying126
 a72:=Tryz.isAgg126
 z72:=Tryz.sizeOf126
 v72:=Tryz.zeroValue126
 t75:=Tryz.underlying128
 a75:=Tryz.isAgg128
 z75:=Tryz.sizeOf128
 v75:=Tryz.zeroValue128
 t76:=Tryz.underlying129
 a76:=Tryz.isAgg129
 z76:=Tryz.sizeOf129
 v76:=Tryz.zeroValue129
 t109:=Tryz.underlying246
 a109:=Tryz.isAgg246
 z109:=Tryz.sizeOf246
 v109:=Tryz.zeroValue246
 t127:=Tryz.underlying183
 a127:=Tryz.isAgg183
 z127:=Tryz.sizeOf183
 v127:=Tryz.zeroValue183
 t146:=Tryz.underlying272
 a146:=Tryz.isAgg272
 z146:=Tryz.sizeOf272
 v146:=Tryz.zeroValue272
 t148:=Tryz.underlying274
 a148:=Tryz.isAgg274
 z148:=Tryz.sizeOf274
 v148:=Tryz.zeroValue274
 t164:=Tryz.underlying215
 a164:=Tryz.isAgg215
 z164:=Tryz.sizeOf215
 v164:=Tryz.zeroValue215 }
theorem Tryz.Builder_Extra_105:Builder.Extra Tryz.prog Tryz.lays105_ren:={
 sizeBuilder:=by kernel_rfl
 liesBuilder:=by kernel_rfl
 t5:=Tryz.underlying5
 a5:=Tryz.isAgg5
 z5:=Tryz.sizeOf5
 v5:=Tryz.zeroValue5
 infoByte:=by kernel_rfl
 cellsByte:=by kernel_rfl
 sizeByte:=by kernel_rfl
 neB5:=by decide }
open Go.RowKit Go.Lib in
theorem Tryz.strings_Repeat(s:ByteArray)(c:Nat)(w:World)(hc:c≤9223372036854775807)(hlen:s.size*c≤140737488355328) :
 Calls Tryz.prog 143 #[.string s,.int .i64 c] w fun e w'=>e = .returned (.string ⟨(Lib.repeatL s.data.toList c).toArray⟩)∧Below w.heap.size w w':=Any.strings_Repeat Tryz.lays105 Tryz.Builder_Extra_105 s c w hc hlen
def Tryz.lays110_ren:Go.Shelf.Ren:=⟨fun|110=>47|109=>81|n=>n,fun|31=>22|9=>9|4=>4|3=>3|0=>0|n=>n,fun|n=>n⟩
theorem Tryz.lays110:Go.Proofs.Lays.n110 Tryz.prog Tryz.lays110_ren:={
 mixed:=by kernel_rfl
 f109:=Tryz.func81.trans (AAq some (by kernel_rfl))
 f110:=Tryz.func47.trans (AAq some (by kernel_rfl))
 t0:=Tryz.underlying0
 a0:=Tryz.isAgg0
 z0:=Tryz.sizeOf0
 v0:=Tryz.zeroValue0
 t3:=Tryz.underlying3
 a3:=Tryz.isAgg3
 z3:=Tryz.sizeOf3
 v3:=Tryz.zeroValue3
 t4:=Tryz.underlying4
 a4:=Tryz.isAgg4
 z4:=Tryz.sizeOf4
 v4:=Tryz.zeroValue4
 t9:=Tryz.underlying9
 a9:=Tryz.isAgg9
 z9:=Tryz.sizeOf9
 v9:=Tryz.zeroValue9
 t31:=Tryz.underlying22
 a31:=Tryz.isAgg22
 z31:=Tryz.sizeOf22
 v31:=Tryz.zeroValue22 }
open Go.Lib in
theorem Tryz.slices_Contains_string(b off n c:Nat)(zs:List ByteArray)(x:ByteArray)(w:World)(hz:n≤zs.length)(hbig:n≤9223372036854775807)(hc:∀ j,j<zs.length→w.cell? ⟨b,off+j,none⟩=some (.string (zs.getD j ByteArray.empty))) :
 Calls Tryz.prog 47 #[.slice (some ⟨b,off,none⟩) n c,.string x] w fun e w'=>e = .returned (.bool (Lib.containsS (zs.take n) x))∧w'=w:=Any.slices_Contains_string Tryz.lays110 b off n c zs x w hz hbig hc
open Go.Lib in
theorem Tryz.slices_Contains_string_empty(a:Option Addr)(c:Nat)(x:ByteArray)(w:World) :
 Calls Tryz.prog 47 #[.slice a 0 c,.string x] w fun e w'=>e = .returned (.bool false)∧w'=w:=Any.slices_Contains_string_empty Tryz.lays110 a c x w
end Go.Proofs
namespace Go.Proofs.YtmapgnepfgnphaaGreatDoor
open Go Go.DL Go.RowKit Go.Proofs.Tryz
variable{D:Nat→Option XFn}{Y:Nat→Option YI}{r:Nat→Option Nat}{h:XH}{H:Hp}{B:Base}

def iT(D:Nat→Option XFn)(K:Nat)(f:List AV→XH→Option (AV×XH)):Prop :=
 ∀(B:Base)(Y:Nat→Option YI)(r:Nat→Option Nat)(h:XH)(H:Hp)(xs ys:List AV)(v:AV)(h':XH),SH D Y r h H→RnL D Y r xs ys→f xs h=some (v,h')→FnW B Tryz.prog K ys H (dP D Y r v h')

def aAY:List AV→XH→Option (AV×XH):=fun xs h=>match xs with
 | [.str s,.int .i64 n]=>if 0≤n∧n≤1000000∧s.size≤1000 then some (.str ⟨⟨Go.Lib.repeatL s.data.toList n.toNat⟩⟩,h) else none
 | _=>none
theorem aGN{s:ByteArray}{k:IntKind}{n:Int}{as':List AV}(hr:RnL D Y r [.str s,.int k n] as'):as'=[.str s,.int k n]:=by
 obtain⟨a,as1,rfl,h1,h2⟩:=hr.inv;obtain⟨b,as2,rfl,h3,h4⟩:=h2.inv;rw[dG h1,dH h3,h4.nil_inv]
theorem aGS:iT D 143 aAY:=by
 intro B Y r h H xs ys v h' sh hr hx;unfold aAY at hx;split at hx
 ·rename_i s n
  split at hx
  ·rename_i hn
   cases hx;rw[aGN hr];have hc:Calls Tryz.prog 143 #[.string s,.int .i64 (n.toNat:Int)]=Calls Tryz.prog 143 #[.string s,.int .i64 n]:=by rw[Int.toNat_of_nonneg hn.1]
   refine FnW.shelf (r:=fun _=>.string ⟨(Go.Lib.repeatL s.data.toList n.toNat).toArray⟩) (fun vs w=>call143 vs w) (fun F w vs=>.str _) (fun F w vs hl ha=>?_) ⟨r,Sub.refl r,sh,.str _⟩;rw[ha.strInt,←hc];exact Tryz.strings_Repeat s n.toNat w (by omega) (by
    have h1:n.toNat≤1000000:=by omega
    have:=Nat.mul_le_mul hn.2.2 h1;omega)
  ·cases hx
 ·cases hx

def uX:List (List AV)→Option (List ByteArray)
 | []=>some []
 | [.str x]::l=>(uX l).map (x :: ·)
 | _=>none
theorem xB:∀{rows:List (List AV)}{xs:List ByteArray},uX rows=some xs→xs.length=rows.length∧∀(j:Nat)(x:ByteArray),xs[j]?=some x→rows[j]?=some [.str x]
 | [],xs,h=>by simp only[uX,oSI]at h;subst h;simp
 | row::l,xs,h=>by
   unfold uX at h;split at h;·rename_i h0;cases h0
   ·rename_i x l' h0
    cases h0;cases hl:uX l with
    | none=>rw[hl]at h;cases h
    | some ys =>
      rw[hl]at h;simp only[B9,oSI]at h;subst h;obtain⟨h1,h2⟩:=xB hl;refine⟨by simp[h1],fun j y hj=>?_⟩;cases j with
      | zero=>simp at hj;subst hj;rfl
      | succ j=>exact h2 j y (by simpa using hj)
   ·cases h

def aBa:List AV→XH→Option (AV×XH):=fun xs h=>match xs with
 | [.fs rows,.str sep]=>match uX rows with
   | some l=>if l.length≤1000∧(Go.Lib.join (l.map (·.data.toList)) sep.data.toList).length≤100000 then some (.str ⟨⟨Go.Lib.join (l.map (·.data.toList)) sep.data.toList⟩⟩,h) else none
   | none=>none
 | _=>none
theorem aLR:iT D 99 aBa:=by
 intro B Y r h H xs ys v h' sh hr hx;unfold aBa at hx;split at hx
 ·rename_i rows sep
  split at hx
  ·rename_i l hl
   split at hx
   ·rename_i hn
    cases hx;obtain⟨a,as1,rfl,h1,h2⟩:=hr.inv;obtain⟨b,as2,rfl,h3,h4⟩:=h2.inv;rw[(vP h1).1,dG h3,h4.nil_inv];obtain⟨hlen,hget⟩:=xB hl;refine FnW.shelf (r:=fun _=>.string ⟨(Go.Lib.join (l.map (·.data.toList)) sep.data.toList).toArray⟩) (fun vs w=>call99 vs w) (fun F w vs=>.str _) (fun F w vs hlt ha=>?_) ⟨r,Sub.refl r,sh,.str _⟩;obtain⟨v1,vs1,rfl,k1,k2⟩:=ha.cons1;obtain⟨v2,vs2,rfl,k3,k4⟩:=k2.cons1;rw[k4.nil1];cases k3;have none:∀(a:Option Addr)(c:Nat),rows=[]→Calls Tryz.prog 99 #[.slice a 0 c,.string sep] w fun e w'=>e = .returned (.string ⟨(Go.Lib.join (l.map (·.data.toList)) sep.data.toList).toArray⟩)∧Below w.heap.size w w':=fun a c h0=>by
     subst h0;have:l=[]:=C5 (by simpa using hlen);subst this;exact(Tryz.strings_Join_none a c sep w).mono fun e w' ⟨he,hw⟩=>⟨by rw[he];rfl,hw▸Below.refl _ _⟩
    cases k1 with
    | fs0 a cap=>exact none a cap rfl
    | fs rows blk off s cap g hcap hF hs hc ho hv =>
      by_cases h0:rows=[]
      ·have:=none (some ⟨blk,off,Option.none⟩) cap h0
       subst h0;exact this
      ·have hs1:s=1:=by
        obtain⟨row,rest,rfl⟩:=aD7 h0;have hl0:l.length=rest.length+1:=by simpa using hlen
        obtain⟨x,hx0⟩:∃ x,l[0]?=some x:=⟨_,A7 (by omega)⟩;have:=hget 0 x hx0;simp only[C9,oSI]at this;rw[←hs row (by simp),this];rfl
       subst hs1;rw[←hlen];refine Tryz.strings_Join blk off cap l sep w (fun j x hj=>?_) (hlt _ hF) (by omega) (by omega) (by omega);have h5:=hget j x hj;have h6:=hc j _ 0 _ h5 rfl;have h7:=hv j _ 0 _ h5 rfl;generalize g j 0=y at h6 h7;cases h7;simpa using h6
   ·cases hx
  ·cases hx
 ·cases hx
variable{D:Nat→Option XFn}{Y:Nat→Option YI}{r:Nat→Option Nat}{h:XH}{H:Hp}{B:Base}

def fF(c:UInt8):List UInt8→List (List UInt8)
 | []=>[[]]
 | b::r=>if b=c then []::fF c r else match fF c r with
   | x::l=>(b::x)::l
   | []=>[[b]]
theorem aAm(c:UInt8):∀ s:List UInt8,Lib.splitK [c] 0 (Lib.count s [c]) s=fF c s
 | []=>by rw[Lib.count_one];rfl
 | b::l=>by
   have ih:=aAm c l;by_cases h:b=c
   ·subst h
    have hix:Lib.index (b::l) [b]=0:=by rw[Lib.index];simp[List.isPrefixOf]
    rw[Lib.count_cons_eq,aC0,Lib.splitK,hix];simp only[fF,AAe];rw[if_neg (by decide)];simp[ih]
   ·have hp:([c]:List UInt8).isPrefixOf (b::l)=false:=by simp[List.isPrefixOf,Ne.symm h]
    have hix:Lib.index (b::l) [c]=if Lib.index l [c] == -1 then -1 else Lib.index l [c]+1:=by rw[Lib.index,hp];simp
    rw[Lib.count_cons_ne b c l h];simp only[fF,if_neg h,←ih];cases hk:Lib.count l [c]with
    | zero=>rfl
    | succ k =>
      simp only[Lib.splitK];by_cases hm:Lib.index l [c] = -1
      ·rw[hix,if_pos (beq_iff_eq.2 hm)]
       simp[hm]
      ·have hge:=Lib.index_ge l [c]
       obtain⟨j,hj⟩:∃ j:Nat,Lib.index l [c]=j:=⟨(Lib.index l [c]).toNat,by omega⟩;rw[hix,if_neg (fun e=>hm (beq_iff_eq.1 e)),hj];have h1:¬(((j:Int)+1 == -1)=true):=by simp;omega
       have h2:¬(((j:Int) == -1)=true):=by simp
       rw[if_neg h1,if_neg h2];have e:((j:Int)+1).toNat=j+1:=by omega
       simp[e,Nat.add_right_comm]

def zP:List AV→XH→Option (AV×XH):=fun xs h=>match xs with
 | [.str s,.str ⟨⟨[c]⟩⟩]=>if s.size≤100000 then some (.fs ((fF c s.data.toList).map fun l=>[.str ⟨⟨l⟩⟩]),h) else none
 | _=>none
theorem aLS:iT D 83 zP:=by
 intro B Y r h H xs ys v h' sh hr hx;unfold zP at hx;split at hx
 ·rename_i s c
  split at hx
  ·rename_i hn
   cases hx;obtain⟨a,as1,rfl,h1,h2⟩:=hr.inv;obtain⟨b,as2,rfl,h3,h4⟩:=h2.inv;rw[dG h1,dG h3,h4.nil_inv];have hv:∀ x∈(fF c s.data.toList).map (fun l=>[AV.str ⟨⟨l⟩⟩]),∀ z∈x,Gd z:=fun x hx z hz=>by
    obtain⟨l,_,rfl⟩:=D8.1 hx;simp only[B5]at hz;subst hz;exact .str _
   refine FnW.shelfG (fun vs w=>call83 vs w) (fun F w vs gi hl ha=>?_) ⟨r,DL.Sub.refl r,sh,(Gd.fs _ hv).rn⟩;obtain⟨hF3,m,hm⟩:=gi.2.1 3 (by simp[aBu]);rw[ha.strStr];refine(Tryz.strings_Split s ⟨#[c]⟩ m w (by omega) hm (by simp[ByteArray.size])).mono ?_;rintro e w' ⟨rfl,rfl⟩;have hsp:((Lib.splitB ⟨#[c]⟩ 0 (Lib.countB s ⟨#[c]⟩) s).map (·.data.toList))=fF c s.data.toList:=by
    rw[Lib.splitB_data];exact aAm c s.data.toList
   have hlen:(Lib.splitB ⟨#[c]⟩ 0 (Lib.countB s ⟨#[c]⟩) s).length=Lib.countB s ⟨#[c]⟩+1:=Lib.splitB_all _ (by simp[ByteArray.size]) 0 _ _ rfl;obtain⟨L,hL⟩:∃ L,L=Lib.splitB ⟨#[c]⟩ 0 (Lib.countB s ⟨#[c]⟩) s:=⟨_,rfl⟩;rw[←hL]at hsp hlen ⊢;have hrows:(fF c s.data.toList).map (fun l=>[AV.str ⟨⟨l⟩⟩])=L.map fun x=>[AV.str x]:=by
    rw[←hsp,List.map_map];rfl
   rw[hrows];refine⟨_,fun b=>F b∨b=w.heap.size,rfl,(Below.refl _ w).alloc (B7 _) _,fun b hb=>.inl hb,fun b hb=>hb.elim .inl fun e=>.inr (by omega),fun b hb=>?_,?_⟩
   ·rcases hb with hb|rfl
    ·have:=hl b hb;simp;omega
    ·simp
   ·have hcell:∀(j:Nat)(x:ByteArray),L[j]?=some x→(w.alloc (.cells (L.map Value.string).toArray 9)).cell? ⟨w.heap.size,j,none⟩=some (.string x):=fun j x hj=>by
     have hh:(w.alloc (.cells (L.map Value.string).toArray 9)).heap[w.heap.size]?=some (.cells (L.map Value.string).toArray 9 (0,0)):=by
      show (w.heap.push _)[w.heap.size]?=_;simp
     unfold World.cell?;dsimp only;rw[hh];simp[hj]
    have hlen':(L.map fun x=>[AV.str x]).length=Lib.countB s ⟨#[c]⟩+1:=by rw[B0,hlen]
    rw[←hlen'];refine .fs _ w.heap.size 0 1 _ (fun i _=>.string (L.getD i ByteArray.empty)) (by omega) (.inr rfl) (fun x hx=>?_) (fun i x j z hi hj=>?_) (fun _ _=>rfl) (fun i x j z hi hj=>?_);·obtain⟨y,_,rfl⟩:=D8.1 hx;rfl
    ·rw[A9,A0]at hi
     obtain⟨y,hy,rfl⟩:=hi;cases j with
     | zero =>
       rw[A6,hy];simpa using hcell i y hy
     | succ j=>simp at hj
    ·rw[A9,A0]at hi
     obtain⟨y,hy,rfl⟩:=hi;cases j with
     | zero =>
       simp only[C9,oSI]at hj;subst hj;rw[A6,hy];exact .str _
     | succ j=>simp at hj
  ·cases hx
 ·cases hx

theorem aOo {F:Nat→Prop} {w:World} (gi:GI F w):Lib.TabIs prog w "internal/strconv.uint64pow10" IntKind.u64 Lib.pow10Tab:=by
 obtain⟨_,e,fr,h2⟩:=gi.2.2.1 (0,(List.range 20).map fun i=>Value.int .u64 ((10^i:Nat):Int)) (by simp[aBv])
 have hg:prog.globalNamed "internal/strconv.uint64pow10" = some 0:=by kernel_rfl
 unfold Lib.TabIs World.var?;rw[hg];simp only[D0];dsimp only at h2;rw[h2];simp[Lib.pow10Tab,Function.comp_def]

def aBb:List AV→XH→Option (AV×XH):=fun xs h=>match xs with
 | [.int .i64 n]=>if -9223372036854775808≤n∧n≤9223372036854775807 then some (.str ⟨⟨Lib.itoa n⟩⟩,h) else none
 | _=>none
theorem aPi{k:IntKind}{n:Int}{as':List AV}(hr:RnL D Y r [.int k n] as'):as'=[.int k n]:=by
 obtain⟨b,as2,rfl,h3,h4⟩:=hr.inv;rw[dH h3,h4.nil_inv]
theorem aLX:iT D 57 aBb:=by
 intro B Y r h H xs ys v h' sh hr hx;unfold aBb at hx;split at hx
 ·rename_i n
  split at hx
  ·rename_i hn
   cases hx;rw[aPi hr];refine FnW.shelfG (fun vs w=>call57 vs w) (fun F w vs gi hl ha=>?_) ⟨r,DL.Sub.refl r,sh,.str _⟩;obtain⟨b,bs,rfl,h3,h4⟩:=ha.cons1;cases h3;rw[h4.nil1];refine(Tryz.strconv_Itoa n hn.1 hn.2 w (aOo gi)).mono ?_;rintro e w' ⟨rfl,k,os,rfl⟩;have hbel:Below w.heap.size w («Sort».grow (w.drewN k) os):=by
    have h0:(w.drewN k).heap=w.heap:=rfl;refine⟨rfl,rfl,rfl,?_,fun j hj=>?_⟩;·simp[«Sort».grow,h0]
    ·simp only[«Sort».grow,h0]
     exact aA0 hj
   exact⟨_,F,rfl,hbel,fun _ h=>h,fun _ h=>.inl h,fun b hb=>E7 (hl b hb) hbel.size,.str _⟩
  ·cases hx
 ·cases hx
set_option maxHeartbeats 2000000 in
set_option maxRecDepth 100000 in
theorem aUO(b g cap:Nat)(p:Value)(cur:Array Value)(fr fz:Nat×Nat)(l:List UInt8)(w:World)(hbk:w.heap[b]?=some (.cells #[p,.slice (some ⟨g,0,none⟩) l.length cap] 126 fr))(hg:w.heap[g]?=some (.cells cur 5 fz))
 (h0:l≠[]) (hnc:l.length≤cap) (hcs:l.length≤cur.size) (h63:l.length≤9223372036854775807) (hcell:∀(j:Nat)(x:UInt8),l[j]?=some x→cur[j]?=some (.int .u8 x.toNat)) :
 Calls prog 71 #[.pointer (some ⟨b,0,none⟩)] w fun e w'=>e = .returned (.string ⟨l.toArray⟩)∧w'=w.drew.freeze ⟨g,0,none⟩ l.length:=by
 have hl0:l.length≠0:=by simpa using h0
 have c1:w.drew.cell? ⟨b,1,none⟩=some (.slice (some ⟨g,0,none⟩) l.length cap):=by
  have:w.drew.heap[b]?=some (.cells #[p,.slice (some ⟨g,0,none⟩) l.length cap] 126 fr):=hbk;rw[Lib.cell_of_heap this];rfl
 have hSD:(Builtin.unsafeSliceData_ #[59] 183 #[.slice (some ⟨g,0,none⟩) l.length cap]).run prog w.drew = .ok (.pointer (some ⟨g,0,none⟩)) w.drew :=
  Lib.run_unsafeSliceData_row _ _ _ _ _ _ (by omega)
 have hUS:(Builtin.unsafeString_ #[183,3] 9 #[.pointer (some ⟨g,0,none⟩),.int .i64 l.length]).run prog w.drew = .ok (.string ⟨l.toArray⟩) (w.drew.freeze ⟨g,0,none⟩ l.length):=by
  refine Lib.run_unsafeString_row w.drew 183 3 9 5 underlying183 (by kernel_rfl) g cur.size (by have hg':w.drew.heap[g]?=some (.cells cur 5 fz):=hg;simp[World.shape?,hg']) l h0 hcs h63 ?_;intro j x hx;have hg':w.drew.heap[g]?=some (.cells cur 5 fz):=hg;have:=hcell j x hx;have e:(⟨g,0,none⟩:Addr).add j=⟨g,j,none⟩:=by
   by_cases hj:j=0;·subst hj;simp[Addr.add]
   ·simp[Addr.add,hj]
  rw[e];unfold World.cell?;dsimp only;rw[hg'];simpa using this
 have mixed:prog.follows .mixedOrders=true:=rfl;have u126:=run_underlying underlying126;have u124:=run_underlying underlying124;have u59:=run_underlying underlying59;have u183:=run_underlying underlying183;have u3:=run_underlying underlying3;have u9:=run_underlying underlying9;have u5:=run_underlying underlying5
 go_enter func71,ntmps71
 go_wp2
 go_region_o
 all_goals (go_wp2;go_ret;exact⟨rfl,rfl⟩)

theorem aHU:∃ j,prog.info? 126=some j∧j.size=2:=A0.1 (by kernel_rfl:(prog.info? 126).map (·.size)=some 2)
theorem aPw:liesAt prog prog.depth 126 (2/prog.cellsOf 126) 0 126 1=true:=by kernel_rfl

set_option maxHeartbeats 2000000 in
set_option maxRecDepth 100000 in
theorem aCx(b:Nat)(w:World)(h0:w.cell? ⟨b,0,none⟩=some (.pointer none))(hsh:w.shape? b=some (126,2))(hfz:w.frozen? ⟨b,0,none⟩=false) :
 Calls prog 115 #[.pointer (some ⟨b,0,none⟩)] w fun e w'=>e = .returned (.tuple #[])∧w'=w.setCell ⟨b,0,none⟩ (.pointer (some ⟨b,0,none⟩)):=by
 obtain⟨j,hj,hjs⟩:=aHU;have mixed:prog.follows .mixedOrders=true:=rfl;have u126:=run_underlying underlying126;have u124:=run_underlying underlying124;have u215:=run_underlying underlying215;have u9:=run_underlying underlying9;have u4:=run_underlying underlying4
 go_enter func115,ntmps115
 go_wp2
 rw[Lib.run_to_unsafe w ⟨b,0,none⟩ underlying124 underlying215 hj (by rw[hjs];decide) hsh (Nat.zero_lt_succ 1)];simp only[Result.andThen];rw[Oper.upon_value]
 go_wp2
 rw[run_callFunc_extern func140 (by kernel_rfl) (by kernel_rfl) (by kernel_rfl) (e:=Extern.AbiNoEscape.same) (by kernel_rfl)];rw[Lib.run_noEscape];simp only[Result.andThen];rw[Oper.upon_value]
 go_wp2
 rw[Lib.run_from_unsafe w ⟨b,0,none⟩ underlying215 underlying124 hj hsh aPw];simp only[Result.andThen];rw[Oper.upon_value]
 go_wp2
 go_end0
 exact⟨rfl,rfl⟩

set_option maxHeartbeats 2000000 in
set_option maxRecDepth 100000 in
theorem aEz(b:Nat)(w:World)(h0:w.cell? ⟨b,0,none⟩=some (.pointer (some ⟨b,0,none⟩))) :
 Calls prog 115 #[.pointer (some ⟨b,0,none⟩)] w fun e w'=>e = .returned (.tuple #[])∧w'=w:=by
 obtain⟨j,hj,hjs⟩:=aHU;have mixed:prog.follows .mixedOrders=true:=rfl;have u126:=run_underlying underlying126;have u124:=run_underlying underlying124;have u215:=run_underlying underlying215;have u9:=run_underlying underlying9;have u4:=run_underlying underlying4
 go_enter func115,ntmps115
 go_wp2
 rw[Lib.run_neq_ptr_same w _ underlying124 hj]
 go_wp2
 go_end0
 exact⟨rfl,rfl⟩

section
variable{D:Nat→Option XFn}{Y:Nat→Option YI}{r:Nat→Option Nat}{h:XH}{H:Hp}{B:Base}

def aGV:List AV→XH→Option (AV×XH):=fun xs h=>match xs with
 | [.bp b]=>match hat h b with
   | some (.blk _ (.cells true (.nilpt::l)))=>some (.tup [],h.set b (some (.blk false (.cells true (.pt b 0::l)))))
   | some (.blk _ (.cells true (.pt b' 0::_)))=>if b'=b then some (.tup [],h) else none
   | _=>none
 | _=>none
theorem aEu{b:Nat}{g:Bool}{x:ABlk}(h0:hat h b=some (.blk g x)):aG h b=some x:=by unfold aG;rw[h0]
theorem aGm{b:Nat}{w:World}{c:Array Value}{e:TypeId}{fr:Nat×Nat}{v:Value}(hb:w.heap[b]?=some (.cells c e fr))(j:Nat)(hv:c[j]?=some v):w.cell? ⟨b,j,none⟩=some v:=by
 unfold World.cell?;dsimp only;rw[hb];simpa using hv

theorem aGT:iT D 115 aGV:=by
 intro B Y r h H xs ys v h' sh hr hx;unfold aGV at hx;split at hx
 ·rename_i b
  obtain⟨y,as1,rfl,h1,h2⟩:=hr.inv;obtain⟨c,rfl,hrb⟩:=aLu h1;rw[h2.nil_inv];split at hx
  ·rename_i g l hb
   cases hx;obtain⟨g',cs',_,k2,k3,_⟩:=sh.cells hrb (aEu hb);obtain⟨z,l',rfl,k4,k5⟩:=k3.inv;rw[aAM k4]at k2;refine⟨fun vs w=>call115 vs w,fun F w vs hB st ha=>?_⟩;obtain⟨v1,vs1,rfl,a1,a2⟩:=ha.cons1;rw[a2.nil1];cases a1 with
   | bp _ carr fr hcb hsz =>
   obtain⟨o,ho,hrb'⟩:=st.blk c _ k2;rw[hcb]at ho;simp only[oSI]at ho;subst ho;cases hrb' with
   | cells _ _ _ _ _ hfr hl hone hcells =>
   have hlt:c<w.heap.size:=(B6.1 hcb).1;obtain⟨v0,hv0⟩:∃ v0,carr[0]?=some v0:=⟨carr[0]'(by omega),C7 _⟩;have hn:=hcells 0 _ v0 rfl hv0;cases hn;refine callsIn_wide.2 ((aCx c w (aGm hcb 0 hv0) (by simp[World.shape?,hcb,hsz,aQa]) (by
    have:=hfr 0 (by omega);unfold World.frozen?;dsimp only;rw[hcb];exact this)).mono ?_)
   rintro e w' ⟨rfl,rfl⟩;have hheap:(w.setCell ⟨c,0,none⟩ (.pointer (some ⟨c,0,none⟩))).heap=w.heap.setIfInBounds c (.cells (carr.setIfInBounds 0 (.pointer (some ⟨c,0,none⟩))) aQa fr):=by
    apply J5;intro j;rw[D2];simp only[World.setCell,J0];by_cases hj:c=j
    ·subst hj
     rw[if_pos rfl,if_pos rfl,hcb];simp[hlt]
    ·rw[if_neg hj,if_neg hj]
   obtain⟨e1,e2⟩:=kN (w':=w.setCell ⟨c,0,none⟩ (.pointer (some ⟨c,0,none⟩))) (y:=.cells true (.pt c 0::l')) st k2 rfl hcb hheap ⟨rfl,rfl,rfl⟩ (fun c1 e1 fr1 hh=>by cases hh;exact⟨_,_,_,rfl,by simp⟩) (fun F1 w1 hu=>by
    refine .cells true _ _ _ fr (fun i hi=>hfr i (by simpa using hi)) (by simpa using hl) (fun i v hv=>?_) (fun i a v ha hv=>?_)
    ·rw[D2]at hv
     split at hv
     ·split at hv
      ·cases hv;rfl
      ·cases hv
     ·exact hone i v hv
    ·rw[D2]at hv
     split at hv
     ·rename_i hi0
      subst hi0;split at hv
      ·cases hv
       simp only[C9,oSI]at ha;subst ha;exact .pt _ _
      ·cases hv
     ·rename_i hi0
      obtain⟨m,rfl⟩:∃ m,i=m+1:=⟨i-1,by omega⟩;exact(hcells (m+1) a v (by simpa using ha) hv).up hu)
   refine⟨.tuple #[],.tup [],F,_,rfl,e1,e2,.tup _ _ rfl (by simp),r,DL.Sub.refl r,sh.turn hb hrb (.cells c false true _ _ (RnL.cons (.pt _ _ _ hrb) k5) (by simp)),.tup _ _ rfl (by simp)⟩
  ·rename_i g b' l hb
   split at hx
   ·rename_i hbb
    cases hx;subst hbb;obtain⟨g',cs',_,k2,k3,_⟩:=sh.cells hrb (aEu hb);obtain⟨z,l',rfl,k4,k5⟩:=k3.inv;obtain⟨c',rfl,hr'⟩:=mS k4;rw[hrb]at hr';cases hr';refine⟨fun vs w=>call115 vs w,fun F w vs hB st ha=>?_⟩;obtain⟨v1,vs1,rfl,a1,a2⟩:=ha.cons1;rw[a2.nil1];cases a1 with
    | bp _ carr fr hcb hsz =>
    obtain⟨o,ho,hrb'⟩:=st.blk c _ k2;rw[hcb]at ho;simp only[oSI]at ho;subst ho;cases hrb' with
    | cells _ _ _ _ _ hfr hl hone hcells =>
    obtain⟨v0,hv0⟩:∃ v0,carr[0]?=some v0:=⟨carr[0]'(by omega),C7 _⟩;have hn:=hcells 0 _ v0 rfl hv0;cases hn;refine callsIn_wide.2 ((aEz c w (aGm hcb 0 hv0)).mono ?_);rintro e w' ⟨rfl,rfl⟩;exact⟨.tuple #[],.tup [],F,H,rfl,Ext.refl _ _ _,st,.tup _ _ rfl (by simp),r,DL.Sub.refl r,sh,.tup _ _ rfl (by simp)⟩
   ·cases hx
  ·cases hx
 ·cases hx

def aDv:List AV→Option (List UInt8)
 | []=>some []
 | .int .u8 n::r=>if 0≤n∧n<256 then (aDv r).map (UInt8.ofNat n.toNat :: ·) else none
 | _=>none
theorem aGr:∀{bs:List AV}{l:List UInt8},aDv bs=some l→l.length=bs.length∧∀(j:Nat)(x:UInt8),l[j]?=some x→bs[j]?=some (.int .u8 x.toNat)
 | [],l,h=>by simp only[aDv,oSI]at h;subst h;simp
 | v::bs,l,h=>by
   unfold aDv at h;split at h;·rename_i h0;cases h0
   ·rename_i n r h0
    cases h0;split at h
    ·rename_i hn
     cases hl:aDv bs with
     | none=>rw[hl]at h;cases h
     | some l' =>
       rw[hl]at h;simp only[B9,oSI]at h;subst h;obtain⟨h1,h2⟩:=aGr hl;refine⟨by simp[h1],fun j x hj=>?_⟩;cases j with
       | zero =>
         simp only[C9,oSI]at hj;subst hj;have:((UInt8.ofNat n.toNat).toNat:Int)=n:=by
          rw[UInt8.toNat_ofNat'];have:n.toNat%2^8=n.toNat:=J3 (by omega);rw[this];omega
         rw[this];rfl
       | succ j=>exact h2 j x (by simpa using hj)
    ·cases h
   ·cases h

def aMc:List AV→XH→Option (AV×XH):=fun xs h=>match xs with
 | [.bp b]=>match hat h b with
   | some (.blk _ (.cells _ [_,.sb g n]))=>match hat h g with
     | some (.blk _ (.cells true bs))=>match aDv (bs.take n)with
       | some (x::l)=>if n≤bs.length∧g≠b∧n≤1000000 then some (.str ⟨⟨x::l⟩⟩,h.set g none) else none
       | _=>none
     | _=>none
   | _=>none
 | _=>none

theorem rQ{w:World}{g n:Nat}{c:Array Value}{e:TypeId}{fr:Nat×Nat}(hg:w.heap[g]?=some (.cells c e fr)):∃ fr',(w.drew.freeze ⟨g,0,none⟩ n).heap[g]?=some (.cells c e fr')∧(∀ j,j≠g→(w.drew.freeze ⟨g,0,none⟩ n).heap[j]?=w.heap[j]?) ∧
 (w.drew.freeze ⟨g,0,none⟩ n).heap.size=w.heap.size∧SameIO w (w.drew.freeze ⟨g,0,none⟩ n):=by
 unfold World.freeze;split;·exact⟨fr,hg,fun _ _=>rfl,rfl,⟨rfl,rfl,rfl⟩⟩
 ·have h0:w.drew.heap=w.heap:=rfl
  refine⟨if fr.1==fr.2 then (0,0+n) else (min fr.1 0,max fr.2 (0+n)),?_,fun j hj=>?_,by simp[h0],⟨rfl,rfl,rfl⟩⟩;·simp only[h0,J0,AAe,hg,B9]
  ·simp only[h0,J0]
   rw[if_neg (Ne.symm hj)]

theorem aLW:iT D 71 aMc:=by
 intro B Y r h H xs ys v h' sh hr hx;unfold aMc at hx;split at hx
 ·rename_i b
  obtain⟨y,as1,rfl,h1,h2⟩:=hr.inv;obtain⟨c,rfl,hrb⟩:=aLu h1;rw[h2.nil_inv];split at hx
  ·rename_i fl wr a0 g n hb
   split at hx
   ·rename_i fl2 bs hg
    split at hx
    ·rename_i x l hbl
     split at hx
     ·rename_i hc
      cases hx;obtain⟨_,cs',_,k2,k3,_⟩:=sh.cells hrb (aEu hb);obtain⟨z0,l0,rfl,k4,k5⟩:=k3.inv;obtain⟨z1,l1,rfl,k6,k7⟩:=k5.inv;rw[k7.nil_inv]at k2;obtain⟨gc,rfl,hrg⟩:=aLs k6;obtain⟨_,bs',_,m2,m3,_⟩:=sh.cells hrg (aEu hg);obtain⟨hbl1,hbl2⟩:=aGr hbl;have hlen:(x::l).length=n:=by rw[hbl1,M6];omega
      have hne:gc≠c:=fun e=>hc.2.1 (sh.inj g b c _ _ hg hb (e▸hrg) hrb);refine⟨fun vs w=>call71 vs w,fun F w vs hB st ha=>?_⟩;obtain⟨v1,vs1,rfl,a1,a2⟩:=ha.cons1;rw[a2.nil1];cases a1 with
      | bp _ carr fr hcb hsz =>
      obtain⟨o,ho,hrb'⟩:=st.blk c _ k2;rw[hcb]at ho;simp only[oSI]at ho;subst ho;cases hrb' with
      | cells _ _ _ _ _ hfr hl hone hcells =>
      obtain⟨v0,hv0⟩:∃ v0,carr[0]?=some v0:=⟨carr[0]'(by omega),C7 _⟩;obtain⟨v1,hv1⟩:∃ v1,carr[1]?=some v1:=⟨carr[1]'(by omega),C7 _⟩;have hs:=hcells 1 _ v1 rfl hv1;cases hs with
      | sb _ _ cap gcur gfr hgb hcap hle =>
      have hcarr:carr = #[v0,.slice (some ⟨gc,0,none⟩) n cap]:=by
       apply J5;intro j;match j with
       | 0=>rw[hv0];rfl
       | 1=>rw[hv1];rfl
       | j+2=>rw[H9 (by omega),H9 (by simp)]
      rw[hcarr]at hcb;obtain⟨o2,ho2,hrg'⟩:=st.blk gc _ m2;rw[hgb]at ho2;simp only[oSI]at ho2;subst ho2;cases hrg' with
      | cells _ _ _ _ _ hfr2 hl2 hone2 hcells2 =>
      have hl2':bs.length=bs'.length:=m3.1;rw[←hlen]at hcb;refine callsIn_wide.2 ((aUO c gc cap v0 gcur fr gfr (x::l) w hcb hgb (by simp) (by omega) (by omega) (by omega) (fun j u hj=>?_)).mono ?_)
      ·have hb1:=hbl2 j u hj
       rw[H7]at hb1;split at hb1
       ·obtain⟨u',hu1,hu2⟩:=m3.get hb1
        have hlt:j<bs'.length:=(A5.1 hu1).1;obtain⟨q,hq⟩:∃ q,gcur[j]?=some q:=⟨gcur[j]'(by omega),C7 _⟩;have h9:=hcells2 j u' q hu1 hq;rw[dH hu2]at h9;cases h9;exact hq
       ·cases hb1
      ·rintro e w' ⟨rfl,rfl⟩
       obtain⟨fr',f1,f2,f3,f4⟩:=rQ (n:=(x::l).length) hgb;have hE:Ext F w H F (w.drew.freeze ⟨gc,0,none⟩ (x::l).length) (lM H gc):=by
        refine⟨fun _ h=>h,fun _ h=>.inl h,fun j hj=>?_,fun j hj=>?_,by rw[f3];exact B7 _,fun j hj hw=>?_,fun j c1 e1 fr1 hj=>?_,f4⟩
        ·unfold lM at hj
         split at hj;·cases hj
         ·exact .inl hj
        ·left
         unfold pY at hj ⊢;unfold lM at hj;by_cases hjg:j=gc;·simp[hjg]at hj
         ·simpa [hjg]using hj
        ·refine f2 j fun e=>?_
         subst e;unfold pY at hw;rw[m2]at hw;simp[ABlk.wr]at hw
        ·by_cases hjg:j=gc
         ·subst hjg
          rw[hgb]at hj;cases hj;exact⟨_,_,_,f1,rfl⟩
         ·exact⟨c1,e1,fr1,by rw[f2 j hjg];exact hj,rfl⟩
       have hU:=hE.up st;refine⟨.string ⟨(x::l).toArray⟩,.str ⟨⟨x::l⟩⟩,F,lM H gc,rfl,hE,⟨fun j hj=>by rw[f3];exact st.lt j hj,fun j y hj=>?_,fun j y hj=>?_⟩,.str _,r,DL.Sub.refl r,⟨fun b1 c1 hb1=>by simpa using sh.dom b1 c1 hb1,fun b1 b2 c1 x1 x2 q1 q2 q3 q4=>?_,fun b1 x1 q1=>?_,sh.gh.elim fun G hG=>⟨_,hG.drop hg hrg⟩⟩,.str _⟩
       ·unfold lM at hj
        split at hj;·cases hj
        ·exact st.dis j y hj
       ·unfold lM at hj
        split at hj;·cases hj
        ·rename_i hjg
         obtain⟨o,o1,o2⟩:=st.blk j y hj;exact⟨o,by rw[f2 j hjg];exact o1,o2.up hU⟩
       ·have live:∀ b z,hat (h.set g none) b=some z→hat h b=some z:=fun b z hz=>by
         rw[eT]at hz;split at hz;·cases hz
         ·exact hz
        exact sh.inj b1 b2 c1 x1 x2 (live _ _ q1) (live _ _ q2) q3 q4
       ·rw[eT]at q1
        split at q1;·cases q1
        ·rename_i hcd
         obtain⟨c2,y2,w1,w2,w3⟩:=sh.blk b1 x1 q1;refine⟨c2,y2,w1,?_,w3⟩;unfold lM;rw[if_neg];·exact w2
         ·intro e
          subst e;exact hcd ⟨sh.inj b1 g _ x1 _ q1 hg w1 hrg,pH hg⟩
     ·cases hx
    ·cases hx
   ·cases hx
  ·cases hx
 ·cases hx
end
section
variable{D:Nat→Option XFn}{Y:Nat→Option YI}{r:Nat→Option Nat}{h:XH}{H:Hp}{B:Base}
theorem tU{s t:ByteArray}{as':List AV}(hr:RnL D Y r [.str s,.str t] as'):as'=[.str s,.str t]:=by
 obtain⟨a,as1,rfl,h1,h2⟩:=hr.inv;obtain⟨b,as2,rfl,h3,h4⟩:=h2.inv;rw[dG h1,dG h3,h4.nil_inv]

def aAX:List AV→XH→Option (AV×XH):=fun xs h=>match xs with
 | [.str s,.str p]=>if s.size≤1000000 then some (.bool (Lib.hasSuffix s.data.toList p.data.toList),h) else none
 | _=>none
theorem aLZ:iT D 37 aAX:=by
 intro B Y r h H xs ys v h' sh hr hx;unfold aAX at hx;split at hx
 ·rename_i s p
  split at hx
  ·rename_i hn
   cases hx;rw[tU hr];refine FnW.shelf (r:=fun _=>.bool (Lib.hasSuffix s.data.toList p.data.toList)) (fun vs w=>call37 vs w) (fun F w vs=>.bool _) (fun F w vs hl ha=>?_) ⟨r,DL.Sub.refl r,sh,.bool _⟩;rw[ha.strStr];exact(Tryz.strings_HasSuffix s p w (by omega)).mono fun e w' ⟨he,hw⟩=>⟨he,hw▸Below.refl _ _⟩
  ·cases hx
 ·cases hx

def aAZ:List AV→XH→Option (AV×XH):=fun xs h=>match xs with
 | [.str s,.str p]=>some (.tup [.str ⟨⟨Lib.trimPrefix s.data.toList p.data.toList⟩⟩,.bool (Lib.hasPrefix s.data.toList p.data.toList)],h)
 | _=>none
theorem aLV:iT D 72 aAZ:=by
 intro B Y r h H xs ys v h' sh hr hx;unfold aAZ at hx;split at hx
 ·rename_i s p
  cases hx;rw[tU hr];have two:∀(F:Nat→Prop)(w:World),Rv F w (.tup [.str ⟨⟨Lib.trimPrefix s.data.toList p.data.toList⟩⟩,.bool (Lib.hasPrefix s.data.toList p.data.toList)]) (.tuple #[.string ⟨(Lib.trimPrefix s.data.toList p.data.toList).toArray⟩,.bool (Lib.hasPrefix s.data.toList p.data.toList)]):=fun F w =>
   .tup _ _ rfl fun i x y hx hy=>by
    match i with
    | 0=>simp at hx hy;subst hx hy;exact .str _
    | 1=>simp at hx hy;subst hx hy;exact .bool _
    | k+2=>simp at hx
  refine FnW.shelf (r:=fun _=>.tuple #[.string ⟨(Lib.trimPrefix s.data.toList p.data.toList).toArray⟩,.bool (Lib.hasPrefix s.data.toList p.data.toList)]) (fun vs w=>call72 vs w) (fun F w vs=>two F w) (fun F w vs hl ha=>?_) ⟨r,DL.Sub.refl r,sh,(Gd.tup _ (fun c hc=>by
   simp only[B4,D4,AAh]at hc;rcases hc with rfl|rfl;·exact .str _
   ·exact .bool _)).rn⟩
  rw[ha.strStr];exact(Tryz.strings_CutPrefix s p w).mono fun e w' ⟨he,hw⟩=>⟨he,hw▸Below.refl _ _⟩
 ·cases hx

def aGU:List AV→XH→Option (AV×XH):=fun xs h=>match xs with
 | [.str s,.str ⟨⟨[c]⟩⟩]=>if c.toNat<128∧s.size≤1000000 then some (.str ⟨⟨Lib.trimRightB s.data.toList c⟩⟩,h) else none
 | _=>none
theorem aLT:iT D 80 aGU:=by
 intro B Y r h H xs ys v h' sh hr hx;unfold aGU at hx;split at hx
 ·rename_i s c
  split at hx
  ·rename_i hn
   cases hx;rw[tU hr];refine FnW.shelf (r:=fun _=>.string ⟨(Lib.trimRightB s.data.toList c).toArray⟩) (fun vs w=>call80 vs w) (fun F w vs=>.str _) (fun F w vs hl ha=>?_) ⟨r,DL.Sub.refl r,sh,.str _⟩;rw[ha.strStr];exact(Tryz.strings_TrimRight_one s c hn.1 w (by omega)).mono fun e w' ⟨he,hw⟩=>⟨he,hw▸Below.refl _ _⟩
  ·cases hx
 ·cases hx

def aMd:List AV→XH→Option (AV×XH):=fun xs h=>match xs with
 | [.fs rows,.str x]=>match uX rows with
   | some l=>if l.length≤1000000 then some (.bool (Lib.containsS l x),h) else none
   | none=>none
 | _=>none
theorem aLY:iT D 47 aMd:=by
 intro B Y r h H xs ys v h' sh hr hx;unfold aMd at hx;split at hx
 ·rename_i rows x
  split at hx
  ·rename_i l hl
   split at hx
   ·rename_i hn
    cases hx;obtain⟨a,as1,rfl,h1,h2⟩:=hr.inv;obtain⟨b,as2,rfl,h3,h4⟩:=h2.inv;rw[(vP h1).1,dG h3,h4.nil_inv];obtain⟨hlen,hget⟩:=xB hl;refine FnW.shelf (r:=fun _=>.bool (Lib.containsS l x)) (fun vs w=>call47 vs w) (fun F w vs=>.bool _) (fun F w vs hlt ha=>?_) ⟨r,DL.Sub.refl r,sh,.bool _⟩;obtain⟨v1,vs1,rfl,k1,k2⟩:=ha.cons1;obtain⟨v2,vs2,rfl,k3,k4⟩:=k2.cons1;rw[k4.nil1];cases k3;have none:∀(a:Option Addr)(c:Nat),rows=[]→Calls Tryz.prog 47 #[.slice a 0 c,.string x] w fun e w'=>e = .returned (.bool (Lib.containsS l x))∧Below w.heap.size w w':=fun a c h0=>by
     subst h0;have:l=[]:=C5 (by simpa using hlen);subst this;exact(Tryz.slices_Contains_string_empty a c x w).mono fun e w' ⟨he,hw⟩=>⟨by rw[he];rfl,hw▸Below.refl _ _⟩
    cases k1 with
    | fs0 a cap=>exact none a cap rfl
    | fs rows blk off s cap g hcap hF hs hc ho hv =>
      by_cases h0:rows=[]
      ·have:=none (some ⟨blk,off,Option.none⟩) cap h0
       subst h0;exact this
      ·have hs1:s=1:=by
        obtain⟨row,rest,rfl⟩:=aD7 h0;have hl0:l.length=rest.length+1:=by simpa using hlen
        obtain⟨y,hy0⟩:∃ y,l[0]?=some y:=⟨_,A7 (by omega)⟩;have:=hget 0 y hy0;simp only[C9,oSI]at this;rw[←hs row (by simp),this];rfl
       subst hs1;have hcl:=Tryz.slices_Contains_string blk off l.length cap l x w (B7 _) (by omega) (fun j hj=>by
        obtain⟨y,hy⟩:∃ y,l[j]?=some y:=⟨_,A7 hj⟩;have h5:=hget j y hy;have h6:=hc j _ 0 _ h5 rfl;have h7:=hv j _ 0 _ h5 rfl;rw[A6,hy];generalize g j 0=z at h6 h7;cases h7;simpa using h6)
       rw[aA5]at hcl;rw[←hlen];exact hcl.mono fun e w' ⟨he,hw⟩=>⟨he,hw▸Below.refl _ _⟩
   ·cases hx
  ·cases hx
 ·cases hx
end
def p75(r:Nat):Bool:=decide (r<32)||decide (126<r)

set_option maxHeartbeats 2000000 in
set_option maxRecDepth 100000 in
theorem bAX(x:Nat)(hx:x≤1114111)(W:World):FnGives prog 75 #[] #[encR x] (.bool (p75 x)) W:=by
 unfold FnGives;have u21:=run_underlying underlying21;have u4:=run_underlying underlying4;show Calls prog 75 (#[encR x] ++ #[]) W _;by_cases h1:x<32
 ·have e:p75 x=true:=by simp[p75,h1]
  rw[e];have h1':(x:Int)<32:=by omega
  go_enter func75,ntmps75
  go_wp2
  all_goals (go_ret;exact⟨rfl,0,rfl⟩)
 ·by_cases h2:126<x
  ·have e:p75 x=true:=by simp[p75,h2]
   rw[e];have h1':¬(x:Int)<32:=by omega
   have h2':(126:Int)<x:=by omega
   go_enter func75,ntmps75
   go_wp2
   all_goals (go_ret;exact⟨rfl,0,rfl⟩)
  ·have e:p75 x=false:=by simp[p75];omega
   rw[e];have h1':¬(x:Int)<32:=by omega
   have h2':¬(126:Int)<x:=by omega
   go_enter func75,ntmps75
   go_wp2
   all_goals (go_ret;exact⟨rfl,0,rfl⟩)

def aCc:List UInt8→Bool
 | []=>false
 | b::r=>decide (b.toNat<32)||(decide (126<b.toNat)||aCc r)
theorem aJO(s:ByteArray)(pos:Nat)(h:128≤(s.get! pos).toNat):126<(Utf8.decode s pos).1:=by
 have h0:¬(s.get! (pos+0)).toNat<128:=by
  show ¬(s.get! pos).toNat<128;omega
 unfold Utf8.decode;dsimp only;rw[if_neg h0];split
 ·split
  ·rename_i hc;exact E7 (by decide) hc
  ·decide
 ·split
  ·split
   ·rename_i hc
    simp only[A4,AAg]at hc;omega
   ·decide
  ·split
   ·split
    ·rename_i hc
     simp only[A4,AAg]at hc;omega
    ·decide
   ·decide
theorem aJN(s:ByteArray)(pos:Nat)(h:(s.get! pos).toNat<128):Utf8.decode s pos=((s.get! pos).toNat,1):=by
 have h0:(s.get! (pos+0)).toNat<128:=h;unfold Utf8.decode;dsimp only;rw[if_pos h0];rfl
theorem aMP{s:ByteArray}{pos:Nat}{b:UInt8}{l:List UInt8}(h:s.data.toList.drop pos=b::l):s.get! pos=b∧pos<s.size∧s.data.toList.drop (pos+1)=l:=by
 have hlt:pos<s.data.toList.length:=by
  rcases Nat.lt_or_ge pos s.data.toList.length with h1|h1;·exact h1
  ·rw[aE9 h1]at h;cases h
 have hsz:s.size=s.data.toList.length:=by rw[D5];rfl
 rw[List.drop_eq_getElem_cons hlt]at h;simp only[aB3]at h;refine⟨?_,by omega,h.2⟩;rw[←h.1];have:pos<s.data.size:=by simpa using hlt
 show s.data[pos]! = _;rw[getElem!_pos s.data pos this];simp
theorem aIx(s:ByteArray):∀(l:List UInt8)(f pos:Nat),s.data.toList.drop pos=l→l.length≤f→decide (0≤Lib.idxFuncFrom p75 true s f pos)=aCc l
 | [],f,pos,h,hf=>by
   have hsz:s.size=s.data.toList.length:=by rw[D5];rfl
   have:¬pos<s.size:=fun hc=>by
    have:=aE5 (l:=s.data.toList) (i:=pos);rw[h]at this;simp at this;omega
   rw[Lib.idxFuncFrom_end p75 true s f pos this];rfl
 | b::l,0,pos,h,hf=>by simp at hf
 | b::l,f+1,pos,h,hf=>by
   obtain⟨h1,h2,h3⟩:=aMP h;unfold Lib.idxFuncFrom;rw[if_pos h2];by_cases hb:b.toNat<128
   ·rw[aJN s pos (by rw[h1];exact hb),h1]
    dsimp only;by_cases hp:p75 b.toNat=true
    ·rw[if_pos hp]
     have:aCc (b::l)=true:=by
      unfold aCc;unfold p75 at hp;simp only[I7]at hp ⊢;rcases hp with hp|hp;·exact .inl hp
      ·exact .inr (.inl hp)
     rw[this];simp
    ·rw[if_neg hp,aIx s l f (pos+1) h3 (by simpa using hf)]
     unfold p75 at hp;simp only[I7,AAg,not_or]at hp;have e1:decide (b.toNat<32)=false:=AAl hp.1;have e2:decide (126<b.toNat)=false:=AAl hp.2;rw[aCc,e1,e2];simp
   ·have hd:=aJO s pos (by rw[h1];omega)
    have hp:p75 (Utf8.decode s pos).1=true:=by simp[p75,hd]
    rw[if_pos hp];have:aCc (b::l)=true:=by
     unfold aCc;have:decide (126<b.toNat)=true:=AAk (by omega);rw[this];simp
    rw[this];simp

section
variable{D:Nat→Option XFn}{Y:Nat→Option YI}{r:Nat→Option Nat}{h:XH}{H:Hp}{B:Base}
def aMb:List AV→XH→Option (AV×XH):=fun xs h=>match xs with
 | [.str s,.fn (.func 75) [] []]=>some (.bool (aCc s.data.toList),h)
 | _=>none
theorem aLU:iT D 74 aMb:=by
 intro B Y r h H xs ys v h' sh hr hx;unfold aMb at hx;split at hx
 ·rename_i s
  cases hx;obtain⟨a,as1,rfl,h1,h2⟩:=hr.inv;obtain⟨b,as2,rfl,h3,h4⟩:=h2.inv;rw[dG h1,h4.nil_inv];have hb:b = .fn (.func 75) [] []:=by
   cases h3 with
   | fn _ _ ys _ vs _ hl1 _ hl2 _ =>
     rw[C5 (l:=ys) (by simpa using hl1.symm),C5 (l:=vs) (by simpa using hl2.symm)]
  rw[hb];refine FnW.shelf (r:=fun _=>.bool (aCc s.data.toList)) (fun vs w=>call74 vs w) (fun F w vs=>.bool _) (fun F w vs hl ha=>?_) ⟨r,DL.Sub.refl r,sh,.bool _⟩;obtain⟨v1,vs1,rfl,k1,k2⟩:=ha.cons1;obtain⟨v2,vs2,rfl,k3,k4⟩:=k2.cons1;rw[k4.nil1];cases k1;cases k3 with
  | fn _ _ _ fv cv hl1 hl2 _ _ =>
    have e1:fv = #[]:=by
     rcases fv with ⟨_|⟨a,l⟩⟩;·rfl
     ·simp at hl1
    have e2:cv = #[]:=by
     rcases cv with ⟨_|⟨a,l⟩⟩;·rfl
     ·simp at hl2
    rw[e1,e2];have hc:=Tryz.strings_ContainsFunc_runes 75 #[] (fun vs w=>call75 vs w) p75 s w (fun W x hx _=>bAX x hx W);have he:decide (0≤Lib.idxFunc p75 true s)=aCc s.data.toList:=aIx s s.data.toList s.size 0 rfl (by rw[D5];exact B7 _);rw[he]at hc;exact hc
 ·cases hx
end
end Go.Proofs.YtmapgnepfgnphaaGreatDoor
namespace Go.Proofs.YtmapgnepfgnphaaGreatDoor
open Go Go.DL Go.Proofs.Tryz

noncomputable def ops56:Array Oper:=match f56.body with
 | some (.seq (.region _ ops _) _)=>ops
 | _ => #[]
noncomputable def rest56:Code:=match f56.body with
 | some (.seq (.region _ _ _) c)=>c
 | _=>.skip
theorem aSL:f56.body=some (.seq (.region 0 ops56 false) rest56):=rfl
theorem aRU:∃ o,ops56[0]?=some o∧o.dst=some 4∧o.guard=none∧o.op = .call { callee:=.builtin .recover,args := #[],argTypes := #[] }:=⟨_,rfl,rfl,rfl,rfl⟩
theorem aRT:∃ o,ops56[1]?=some o∧o.dst=some 5∧o.guard=none∧o.op = .typeAssert (.tmp 4) 20 110 true:=⟨_,rfl,rfl,rfl,rfl⟩
def mH:List DOper:=[⟨0,some 3,.mv (.t 5),none⟩,⟨0,some 6,.ext (.t 3) 0,none⟩,⟨0,some 7,.ext (.t 3) 1,none⟩,⟨0,some 1,.alloc [.int .i64 0],none⟩,⟨0,none,.store 1 (.t 1) (.t 6) [],none⟩,⟨0,some 2,.mv (.t 7),none⟩]
def uE:List DOper:=[⟨0,some 8,.mv (.t 2),none⟩]
def sQ:List DOper:=[⟨0,some 9,.fld 0 (.t 1),none⟩,⟨0,some 10,.load false 1 (.t 9),none⟩,⟨0,some 11,.callf false (.c (.fn (.func 57) [] [])) [.t 10] [],none⟩,
 ⟨0,some 12,.bin .add (.c (.str ⟨#[110,111,32]⟩)) (.t 11),none⟩,⟨0,none,.store 1 (.t 0) (.t 12) [],none⟩]
noncomputable def ops56m:Array Oper:=match f56.body with
 | some (.seq _ (.seq (.region _ ops _) _))=>ops
 | _ => #[]
noncomputable def ops56l:Array Oper:=match f56.body with
 | some (.seq _ (.seq _ (.cond _ (.region _ ops _) _)))=>ops
 | _ => #[]
theorem aJo:rest56 = .seq (.region 1 ops56m false) (.cond (.tmp 8) (.region 2 ops56l false) .skip):=rfl
theorem aPj:((ops56.toList.drop 2).mapM (aDs prog ops56))=some mH:=by kernel_rfl
theorem aSB:rZ prog 13 ops56m false=some uE:=by kernel_rfl
theorem aPR:rZ prog 13 ops56l false=some sQ:=by kernel_rfl
theorem aRD:ops56.size=8:=rfl
theorem aNG:∃ i,prog.info? 110=some i∧i.zero=some (.agg #[.int .i64 0]):=⟨_,rfl,rfl⟩
theorem aER:∃ fs,prog.underlying 110=some (.struct fs):=⟨_,rfl⟩
theorem aUV:f56.results = #[]:=rfl
theorem aVf:f56.ntmps=13:=rfl

noncomputable def code21:Code:=match f21.body with
 | some (.seq _ (.seq _ c))=>c
 | _=>.skip
noncomputable def r21_0:Array Oper:=match f21.body with
 | some (.seq (.region _ ops _) _)=>ops
 | _ => #[]
noncomputable def r21_1:Array Oper:=match f21.body with
 | some (.seq _ (.seq (.region _ ops _) _))=>ops
 | _ => #[]
theorem aNq:f21.body=some (.seq (.region 0 r21_0 false) (.seq (.region 1 r21_1 false) code21)):=rfl
theorem aQS:rZ prog 41 r21_0 false=some [⟨0,some 4,.alloc [.str ⟨#[]⟩],none⟩]:=by kernel_rfl
theorem aRZ:∃ o,r21_1[0]?=some o∧aDs prog r21_1 o=some ⟨0,some 7,.mkf (.func 56) [] [.t 4],none⟩:=⟨_,rfl,by kernel_rfl⟩
theorem aWG:∃ o,r21_1[1]?=some o∧o.dst=none∧o.guard=none∧o.op = .defer { callee:=.value (.tmp 7),args := #[],argTypes := #[] }:=⟨_,rfl,rfl,rfl,rfl⟩
theorem aTV:r21_1.size=2:=rfl
theorem aQU:f21.ntmps=41:=rfl
theorem aQC:f21.results.toList.mapM (zD prog)=some [(4,some (false,1))]:=by kernel_rfl

section
variable{D:Nat→Option XFn}{B:Base}{Y:Nat→Option YI}{r:Nat→Option Nat}{h:XH}{H:Hp}{F:Nat→Prop}{w:World}

theorem aEw:∀(j:Nat)(d:DOper),mH[j]?=some d→Reads prog ops56 (2+j) d:=by
 intro j d hj;obtain⟨h1,h2⟩:=xL aPj;obtain⟨o,h3,h4⟩:=h2 j d hj;refine kP (o:=o) ?_ h4;rw[H6,D9]at h3;exact h3
theorem aJB:∀ d∈mH,aDq 13 d:=by
 intro d hd;simp only[mH,B4,D4,AAh]at hd;rcases hd with rfl|rfl|rfl|rfl|rfl|rfl<;>exact⟨by intro k hk;simp at hk<;>omega,rfl⟩

theorem aRp{run:cV}{runY:dJ}(hf:FnS prog B D Y run)(hy:YS prog B D Y runY)(hm:prog.follows .mixedOrders=true)(hB:B.Up F w)(st:St F w H)(sh:SH D Y r h H){c o b:Nat}(hrc:r c=some b)
 {i:aCz} (hi1:i.hops=mH++uE) (hi2:i.hlast=sQ) (hi3:i.is=8) {v v':AV} {t:Bool} (hv:Rn D Y r v v') {h3:XH} (hx:oK i run runY (.pt c o) v t h=some h3)
 {x vv:Value} (hta:(Instr.typeAssert x 20 110 true).run prog w = .ok (.tuple #[vv,.bool t]) w) (hvv:Rv F w v' vv) {cs:List Frame} {Q:Exit→Act→List Frame→World→Prop} {a:Act} (ha:a.tmps.size=13) (hdf:a.defers=[])
 (ha4:a.eval (.tmp 4)=x) (ha0:a.tmps.getD 0 undef = .pointer (some ⟨b,o,none⟩)) (gi:GI F w)
 (hQ:∀ a' F' w' H' r',a'.defers=[]→Ext F w H F' w' H'→St F' w' H'→Sub r r'→SH D Y r' h3 H'→Q .normal a' cs w') :
 wpOpsIn Fence.wide 0 prog ops56 (fun e a w=>Exit.thenS (rest56.wpSIn Fence.wide 0 prog Q) Q e a cs w) (List.range' 1 7) a w:=by
 obtain⟨o1,g1,g2,g3,g4⟩:=aRT;rw[aA4,wpOpsIn_cons];unfold wpOpIn;simp only[g1];have hw:Region.wanted o1 (yielded ops56 a.tmps)=true:=by unfold Region.wanted;rw[g3]
 rw[if_pos hw];refine⟨fun _ _=>trivial,?_⟩;have hs:(o1.semAt Fence.wide.round a.eval).run prog w = .ok (.value (.tuple #[vv,.bool t])) w:=by
  rw[Oper.semAt_eq _ _ _ (by rw[g4];simp)];simp[execOp,g4,ha4,hta]
 rw[hs,Oper.uponIn_value,g2];have hsr:SR D Y r (yO (.pt c o) v t) h (yO (.pt b o) v' t) H:=⟨sh,fun j=>by
  unfold yO;split;·exact .pt _ _ _ hrc
  ·split
   ·exact .tup _ _ rfl fun i x y hx hy=>by
     match i with
     | 0=>simp at hx hy;subst hx hy;exact hv
     | 1=>simp at hx hy;subst hx hy;exact .bool _
     | k+2=>simp at hx
   ·exact .any _⟩
 have hre:RE F w (yO (.pt b o) v' t) (a.put (some 5) (.tuple #[vv,.bool t])):=⟨fun k=>by
  unfold yO;have hsz5:5<a.tmps.size:=by omega
  split
  ·rename_i hk;subst hk
   simp only[Act.put,D6,D2]at ha0 ⊢;simp only[show ¬(5=0) by omega,AAd];rw[ha0];exact .pt _ _
  ·split
   ·rename_i hk;subst hk
    simp only[Act.put,D6,D2,AAe,hsz5,F6];exact .tup _ _ rfl fun i x y hx hy=>by
     match i with
     | 0=>simp at hx hy;subst hx hy;exact hvv
     | 1=>simp at hx hy;subst hx hy;exact .bool _
     | k+2=>simp at hx
   ·exact .any _,gi⟩
 unfold oK at hx;split at hx
 ·rename_i e1 h1 hx1
  rw[hi1]at hx1;have R:=aJm (hO (P:=prog) (B:=B) hf hy (mH++uE) r _ h _ H e1 h1 (fun env' H'=>∃ r',Sub r r'∧SR D Y r' e1 h1 env' H') rfl hsr hx1 (fun r' env' H' hs sr'=>⟨r',hs,sr'⟩));refine aAR (r:=none) (B:=B) (N:=13) mH 2 aEw aJB F w H _ _ (by simpa [Act.put]using ha) hB st hre R ?_;intro a3 F3 w3 env3 H3 s1 s2 s3 s4 s5 s6;show rest56.wpSIn Fence.wide 0 prog Q a3 cs w3;rw[aJo];have hB3:=hB.step st s3;refine wpSIn_seq (wpSIn_of_wpIn rfl (iV (B:=B) (r:=none) (F:=F3) (H:=H3) (env:=env3) (N:=13) (draw:=false) hm aSB s1 hB3 s4 s5 s6 ?_));rintro a4 F4 w4 env4 H4 q1 q2 q3 q4 q5 ⟨r4,q6,q7⟩;show (Code.cond (.tmp 8) (.region 2 ops56l false) .skip).wpSIn Fence.wide 0 prog Q a4 cs w4;have hd4:a4.defers=[]:=by rw[q2,s2];exact hdf
  have E4:=s3.trans q3;have h8:=q7.re i.is;rw[hi3]at h8 hx;split at hx
  ·rename_i h8t
   rw[h8t]at h8;have hev:a4.eval (.tmp 8) = .bool true:=by
    have:=q5.rv 8;rw[dU h8]at this;show a4.tmps.getD 8 undef=_;generalize a4.tmps.getD 8 undef=z at this;cases this;rfl
   refine wpSIn_cond (t:=true) hev ?_;simp only[A0]at hx;obtain⟨⟨e5,h5⟩,hx5,rfl⟩:=hx;rw[hi2]at hx5
   refine wpSIn_of_wpIn rfl (iV (B:=B) (r:=none) (F:=F4) (H:=H4) (env:=env4) (N:=13) (draw:=false) hm aPR q1 (hB3.step s4 q3) q4 q5
    (hO (P:=prog) (B:=B) hf hy sQ r4 _ h1 _ H4 e5 h5 (fun env' H'=>∃ r',Sub r r'∧SR D Y r' e5 h5 env' H') rfl q7 hx5 (fun r' env' H' hs sr'=>⟨r',q6.trans hs,sr'⟩)) ?_)
   rintro a5 F5 w5 env5 H5 p1 p2 p3 p4 p5 ⟨r5,p6,p7⟩;exact hQ a5 F5 w5 H5 r5 (by rw[p2];exact hd4) (E4.trans p3) p4 p6 p7.sh
  ·rename_i h8t
   rw[h8t]at h8;simp only[oSI]at hx;subst hx;have hev:a4.eval (.tmp 8) = .bool false:=by
    have:=q5.rv 8;rw[dU h8]at this;show a4.tmps.getD 8 undef=_;generalize a4.tmps.getD 8 undef=z at this;cases this;rfl
   refine wpSIn_cond (t:=false) hev ?_;exact wpSIn_of_wpIn rfl (wpIn_skip (hQ a4 F4 w4 H4 r4 hd4 E4 q4 q6 q7.sh))
  ·simp at hx
 ·simp at hx

theorem aGt(vv:Value):(Instr.typeAssert (.iface 110 vv) 20 110 true).run prog w = .ok (.tuple #[vv,.bool true]) w:=by
 obtain⟨fs,hfs⟩:=aER;simp[Instr.typeAssert,run_underlying hfs]
theorem aHH:(Instr.typeAssert .nilIface 20 110 true).run prog w = .ok (.tuple #[.agg #[.int .i64 0],.bool false]) w:=by
 obtain⟨fs,hfs⟩:=aER;obtain⟨i,hi,hz⟩:=aNG;simp[Instr.typeAssert,run_underlying hfs,zeroValue,typeInfo,hi,hz]

theorem aMM{run:cV}{runY:dJ}(hf:FnS prog B D Y run)(hy:YS prog B D Y runY)(hm:prog.follows .mixedOrders=true)(hB:B.Up F w)(st:St F w H)(sh:SH D Y r h H){c o b:Nat}(hrc:r c=some b)
 {i:aCz} (hi1:i.hops=mH++uE) (hi2:i.hlast=sQ) (hi3:i.is=8) {v v':AV} {t:Bool} (hv:Rn D Y r v v') {h3:XH} (hx:oK i run runY (.pt c o) v t h=some h3) {u:FrameMode} {R:Ending→FrameMode→World→Prop} {cval:Value}
 (hu:(t=true∧u = .panicking (pnc cval)∧Rv F w (.ifc 110 v') cval)∨(t=false∧u = .returning∧v' = .agg [.int .i64 0]))
 (hR:∀ F' w' H' r' u',settle u' = .returning→Ext F w H F' w' H'→St F' w' H'→Sub r r'→SH D Y r' h3 H'→R (.returned (.tuple #[])) u' w') :
 CallsDIn Fence.wide 0 prog 56 #[.pointer (some ⟨b,o,none⟩)] u w R:=by
 refine callsDIn_of_wpSIn func56 aSL trivial fun c₀ cs hc0=>?_;rw[aVf];obtain⟨o0,g1,g2,g3,g4⟩:=aRU;refine wpSIn_seq (aCb g1 g3 (fun _ _=>trivial) (by simp[execOp,resolve,g4,invoke,builtin]) rfl ?_)
 have fin:∀(x vv:Value)(cs':List Frame)(u':FrameMode),cs'={ c₀ with mode:=u' }::cs→settle u' = .returning→(Instr.typeAssert x 20 110 true).run prog w = .ok (.tuple #[vv,.bool t]) w→Rv F w v' vv →
  wpOpsIn Fence.wide 0 prog ops56 (fun e a w=>Exit.thenS (rest56.wpSIn Fence.wide 0 prog (bodyPostS prog f56 c₀ cs R)) (bodyPostS prog f56 c₀ cs R) e a cs' w) (List.range' 1 (ops56.size-1))
   (Act.put { tmps := #[.pointer (some ⟨b,o,none⟩)]++Array.replicate (13 - #[Value.pointer (some ⟨b,o,none⟩)].size) undef,defers:=[] } o0.dst x) w:=by
  intro x vv cs' u' hcs hset hta hvv;rw[g2,aRD];refine aRp hf hy hm hB st sh hrc hi1 hi2 hi3 hv hx hta hvv (by simp[Act.put]) rfl (by simp[Act.put,Act.eval]) (by simp[Act.put]) (B.gi.up hB) ?_;intro a' F' w' H' r' k1 k2 k3 k4 k5;refine⟨k1,u',hcs,.tuple #[],?_,hR F' w' H' r' u' hset k2 k3 k4 k5⟩;simp[results,aUV]
 rcases hu with ⟨rfl,rfl,hc⟩|⟨rfl,rfl,rfl⟩
 ·cases hc with
  | ifc _ _ vv hvv =>
  have hrec:recoverD (c₀::cs)=some (.iface 110 vv,{ c₀ with mode:=.panicking [{ v:=.iface 110 vv,recovered:=true }] }::cs):=by
   simp[recoverD,hc0,pnc]
  rw[hrec];exact fin _ vv _ _ rfl rfl (aGt vv) hvv
 ·have hrec:recoverD (c₀::cs)=none:=by simp[recoverD,hc0]
  rw[hrec];exact fin _ (.agg #[.int .i64 0]) _ .returning (by rw[←hc0]) rfl aHH (.agg _ _ rfl (fun i v hv=>by
   match i with
   | 0=>simp at hv;subst hv;rfl
   | k+1=>simp at hv) (fun i x y hx hy=>by
   match i with
   | 0=>simp at hx hy;subst hx hy;exact .int _ _
   | k+1=>simp at hx))

def b21:XCode:=(.seq (.reg [(0,false)] false [⟨0,(some 8),(.mv (.t 0)),none⟩,⟨0,(some 9),(.callf false (.c (.fn (.func 59) [] [])) [(.t 8)] []),none⟩,⟨0,(some 10),
 (.not (.t 9)),none⟩,⟨0,(some 11),(.callf false (.c (.fn (.func 58) [] [])) [(.t 10),(.c (.int .i64 9))] []),none⟩]) (.seq (.reg [(1,false)] false
 [⟨0,(some 12),(.mv (.t 1)),none⟩,⟨0,(some 13),(.callf false (.c (.fn (.func 60) [] [])) [(.t 12)] []),none⟩,⟨0,(some 5),(.alloc [(.str ⟨#[]⟩),
 .nilsl,.nilsl]),none⟩,⟨0,none,(.store 3 (.t 5) (.t 13) []),none⟩]) (.seq (.reg [(0,false),(5,true)] false [⟨0,(some 14),(.mv (.t 0)),none⟩,⟨0,
 (some 15),(.load true 3 (.t 5)),none⟩,⟨0,(some 16),(.callf false (.c (.fn (.func 61) [] [])) [(.t 14),(.t 15)] []),none⟩,⟨0,(some 6),(.mv (.t
 16)),none⟩]) (.seq (.seq (.reg [] false [⟨0,(some 17),(.mv (.t 6)),none⟩,⟨0,(some 18),(.eqn 2 false (.t 17) (.c .nilfn)),none⟩]) (.cond (.t 18)
 (.seq (.reg [(0,false),(5,true)] false [⟨0,(some 19),(.mv (.t 0)),none⟩,⟨0,(some 20),(.load true 3 (.t 5)),none⟩,⟨0,(some 21),(.callf false (.c
 (.fn (.func 62) [] [])) [(.t 19),(.t 20)] []),none⟩,⟨0,none,(.store 1 (.t 4) (.t 21) []),none⟩]) .ret) .skip)) (.seq (.reg [] false [⟨0,(some 22),
 (.mv (.t 0)),none⟩,⟨0,(some 23),(.nilck (.t 22)),none⟩,⟨0,(some 24),(.fld 6 (.t 23)),none⟩,⟨0,(some 25),(.load false 1 (.t 24)),none⟩,⟨0,
 (some 26),(.len false (.t 25)),none⟩,⟨0,(some 27),(.bin .lss (.t 26) (.c (.int .i64 300))),none⟩,⟨0,(some 28),(.callf false (.c (.fn (.func 58) []
 [])) [(.t 27),(.c (.int .i64 15))] []),none⟩]) (.seq (.reg [] false [⟨0,(some 29),(.mv (.t 6)),none⟩,⟨0,(some 30),(.callf false (.t 29) [] []),
 none⟩]) (.seq (.reg [(1,false)] false [⟨0,(some 31),(.mv (.t 0)),none⟩,⟨0,(some 32),(.mv (.t 0)),none⟩,⟨0,(some 33),(.nilck (.t 32)),none⟩,⟨0,
 (some 34),(.fld 6 (.t 33)),none⟩,⟨0,(some 35),(.load false 1 (.t 34)),none⟩,⟨0,(some 36),(.mv (.t 1)),none⟩,⟨0,(some 37),(.bslice 1 1 [(.str
 ⟨#[]⟩)] [(0,(1,(.t 36)))]),none⟩,⟨0,(some 38),(.app 1 16 (.t 35) (.t 37)),none⟩,⟨0,(some 39),(.nilck (.t 31)),none⟩,⟨0,(some 40),(.fld 6 (.t
 39)),none⟩,⟨0,none,(.store 1 (.t 40) (.t 38) []),none⟩]) (.seq (.reg [] false [⟨0,none,(.store 1 (.t 4) (.c (.str ⟨#[111,107]⟩)) []),none⟩])
 .ret))))))))
def saySay:aCz:=⟨41,[(4,some (false,1))],[⟨0,some 4,.alloc [.str ⟨#[]⟩],none⟩],4,7,b21,110,.agg [.int .i64 0],mH++uE,8,sQ⟩
theorem sW:dM prog 41 code21=some b21.erase:=by kernel_rfl
theorem aPo:mE b21=true:=by kernel_rfl
theorem aPt:rG b21=true:=by kernel_rfl

theorem aPK{i:aCz}(sh:SH D Y r h H){r1:Nat→Option Nat}{e1 env1:aH}{h1:XH}{H1:Hp}(ha:Agree h.length r r1)(sr:SR D Y r1 e1 h1 env1 H1){v:AV}{h':XH}(hx:aAq i h.length e1 h1=some (v,h')) :
 ∃ v1,gT i.res env1 H1=some v1∧∃ v' H'',Shift (upd anyE 0 v1) H1 (upd anyE 0 v') H''∧dP D Y r v h' v' H'':=by
 unfold aAq at hx;simp only[A0]at hx;obtain⟨v0,hv0,hfin⟩:=hx;obtain⟨v0',k1,k2⟩:=zM sr hv0;refine⟨v0',k1,?_⟩;have sr2:SR D Y r1 (upd anyE 0 v0) h1 (upd anyE 0 v0') H1:=⟨sr.sh,fun j=>by
  simp only[upd];split;·exact k2
  ·exact .any _⟩
 obtain⟨env2,H2,s1,s2⟩:=pI (iD h1 2 (zJ v0)) _ _ _ _ sr2;have hz:=(s2.re 0).nz;obtain⟨r2,m1,m2,m3⟩:=sT s2.sh hz (k:=h.length);refine⟨qE (env2 0),H2,s1.trans ?_,r2,fun b c hb=>m1 b c (sh.dom b c hb) (ha b c (sh.dom b c hb) hb),?_,?_⟩
 ·intro F w a st re
  refine⟨F,Ext.refl _ _ _,st,fun j=>?_,re.gi⟩;simp only[upd];split;·rename_i hj;subst hj;exact(re.rv 0).nz
  ·exact .any _
 ·unfold iS at hfin
  simp only[B8,AAd,B3]at hfin;rw[←hfin.2];exact m2
 ·unfold iS at hfin
  simp only[B8,AAd,B3]at hfin;rw[←hfin.1];exact m3

theorem aRF{d21:XFn}(hD:D 21=some d21)(hN:d21.N=41)(hm:prog.follows .mixedOrders=true):aNC prog D saySay 21:=by
 intro run runY runP n hall hallP B Y hY r h H xs as' v h' sh hA hx;obtain⟨hf,hy⟩:=hall B Y hY;unfold aRG at hx;split at hx
 ·rename_i hlen
  split at hx
  ·rename_i e1 h1 hx1
   split at hx
   ·rename_i c o he1
    split at hx
    ·rename_i hc
     have hA1:=hA.nz;refine FnW.nz (FnW.shift ⟨fun vs w=>call21 vs w,fun F w vs hB st hAr=>?_⟩);have hsz:(vs++Array.replicate (f21.ntmps-vs.size) undef).size=41:=by
      have h1:=hAr.1;have h2:=hA1.1;rw[gE,B0]at h2;have:xs.length≤41:=hlen;rw[aQU];simp;omega
     have hre:=wR (N:=41) (nt:=f21.ntmps-vs.size) hB hAr;have zF:=hO (P:=prog) (B:=B) hf hy saySay.pre r _ h _ H e1 h1 (fun env' H'=>∃ r',DL.Sub r r'∧SR D Y r' e1 h1 env' H') rfl ⟨sh,jG hA1⟩ hx1 (fun r' env' H' hs sr'=>⟨r',hs,sr'⟩);refine callsIn_of_wp_marks func21 aNq trivial (wpIn_seq (iV (B:=B) (r:=none) (N:=41) (draw:=false) hm aQS hsz hB st hre zF ?_));rintro a1 F1 w1 env1 H1 p1 p2 p3 p4 p5 ⟨r1,p6,p7⟩;show (Code.seq (.region 1 r21_1 false) code21).wpIn Fence.wide 0 prog _ a1 w1;have hB1:=hB.step st p3;have h4:=p7.re 4;have he1':e1 4 = .pt c o:=he1;rw[he1']at h4;obtain⟨b,hrb,henv4⟩:∃ b,r1 c=some b∧env1 4 = .pt b o:=by
      generalize env1 4=z at h4;cases h4 with
      | pt _ b _ hb=>exact⟨b,hb,rfl⟩
     refine wpIn_seq (wpIn_region ?_);rw[aTV,show List.range 2=[0,1] from rfl,wpOpsIn_cons];obtain⟨o0,g1,g2⟩:=aRZ;obtain⟨o1,k1,k2,k3,k4⟩:=aWG;refine yD (r:=none) (B:=B) (N:=41) (K:=fun env' H'=>env'=aR env1 (some 7) (.fn (.func 56) [] [.pt b o])∧H'=H1) (kP g1 g2) rfl (fun k hk=>by simp at hk;omega) p1 hB1 p4 p5 ?_ ?_
     ·rw[aFA,mZ rfl]
      simp only[aC,aD1,C4,aK,henv4,optW_some,fC];exact⟨by trivial,by trivial⟩
     rintro a2 F2 w2 env2 H2 s1 s2 s3 s4 s5 ⟨rfl,rfl⟩;rw[wpOpsIn_cons];unfold wpOpIn;simp only[k1];have hw:Region.wanted o1 (yielded r21_1 a2.tmps)=true:=by unfold Region.wanted;rw[k3]
     rw[if_pos hw];have h7:a2.eval (.tmp 7) = .func (.func 56) #[] #[.pointer (some ⟨b,o,none⟩)]:=by
      have:=s5.rv 7;simp only[aR,upd,AAe]at this;show a2.tmps.getD 7 undef=_;generalize a2.tmps.getD 7 undef=z at this;cases this with
      | fn _ _ _ fv cv hl1 hl2 q1 q2 =>
        have e1:fv = #[]:=by
         rcases fv with ⟨_|⟨a,l⟩⟩;·rfl
         ·simp at hl1
        have e2:cv = #[.pointer (some ⟨b,o,none⟩)]:=by
         rcases cv with ⟨_|⟨a,_|⟨a',l⟩⟩⟩;·simp at hl2
         ·have:=q2 0 _ a rfl rfl
          cases this;rfl
         ·simp at hl2
        rw[e1,e2]
     refine⟨fun _ _=>trivial,?_⟩;have hsem:(o1.semAt Fence.wide.round a2.eval).run prog w2 = .ok (.defer { target:=.fn (.func 56) #[.pointer (some ⟨b,o,none⟩)],args := #[] }) w2:=by
      have:Fence.wide.round=none:=rfl;rw[this,Oper.semAt_none];simp[execOp,resolve,k4,h7,Deferred.ofValue]
     rw[hsem,Oper.uponIn_defer,k2];have hdf:a2.defers=[]:=by rw[s2,p2]
     obtain⟨T,hT⟩:∃ T:List Deferred,T=[{ target:=.fn (.func 56) #[.pointer (some ⟨b,o,none⟩)],args := #[] }]:=⟨_,rfl⟩;have hact:Act.put { a2 with defers:={ target:=.fn (.func 56) #[.pointer (some ⟨b,o,none⟩)],args := #[] }::a2.defers } none undef={ tmps:=a2.tmps,defers:=T }:=by
      rw[hdf,hT];rfl
     rw[hact];show code21.wpIn Fence.wide 0 prog _ { tmps:=a2.tmps,defers:=T } w2;have hB2:=hB1.step p4 s3;have E2:=p3.trans s3;have sr2:SR D Y r1 (upd e1 7 .any) h1 (aR env1 (some 7) (.fn (.func 56) [] [.pt b o])) H2:=⟨p7.sh,fun j=>by
      simp only[upd,aR];split;·exact .any _
      ·exact p7.re j⟩
     have ag1:Agree h.length r r1:=p6.agree _
     have out:∀(F':Nat→Prop)(w':World)(H':Hp)(env':aH)(tmps:Array Value)(ds:List Deferred)(r3:Nat→Option Nat)(e2:aH)(h2 h3:XH)(u:FrameMode)(v0 v0':AV)(t:Bool)(cval:Value),u ≠ .run→Ext F w H F' w' H'→St F' w' H'→RE F' w' env' { tmps:=tmps,defers:=[] } →
      Mk w2.heap.size T F' H' w' ds→Agree h1.length r1 r3→SR D Y r3 e2 h2 env' H'→Rn D Y r3 v0 v0'→oK saySay run runY (.pt c o) v0 t h2=some h3→aAq saySay h.length e2 h3=some (v,h') →
      ((t=true∧u = .panicking (pnc cval)∧Rv F' w' (.ifc 110 v0') cval)∨(t=false∧u = .returning∧v0' = .agg [.int .i64 0])) →
      LeavesInM Fence.wide 0 prog f21 tmps (sF F w H fun v1 H1=>∃ v' H'',Shift (upd anyE 0 v1) H1 (upd anyE 0 v') H''∧dP D Y r v h' v' H'') ds u w':=by
      intro F' w' H' env' tmps ds r3 e2 h2 h3 u v0 v0' t cval hu he st' re' mk ag sr3 hv0 hh hret hcase;obtain⟨ms,q1,q2,q3⟩:=mk.ex;rw[q1];refine tQ (env:=env') (S:=fun w'=>(t=true∧u = .panicking (pnc cval)∧Rv F' w' (.ifc 110 v0') cval)∨(t=false∧u = .returning∧v0' = .agg [.int .i64 0])) (fun w w' hu hs=>?_) hu E2.le (fun w'' hs'' he' st'' re''=>?_) ms w' hcase he st' re' q2 q3
      ·rcases hs with ⟨a1,a2,a3⟩|hs
       ·exact .inl ⟨a1,a2,a3.up hu⟩
       ·exact .inr hs
      rw[hT];refine⟨hu,.inr ⟨fun hd=>by simp[Fence.wide]at hd,_,_,56,#[.pointer (some ⟨b,o,none⟩)],rfl,?_,fun _ _=>trivial,?_⟩⟩
      ·have:=call56 #[Value.pointer (some ⟨b,o,none⟩)] w''
       first|exact this|simpa [invoke]using this
      ·refine aMM hf hy hm (hB.step st he') st'' sr3.sh (ag c b hc hrb) rfl rfl rfl hv0 hh hs'' ?_
       intro F4 w4 H4 r4 u' hset t2 t3 t4 t5;show LeavesInM Fence.wide 0 prog f21 tmps _ [] (settle u') w4;rw[hset];have re4:RE F4 w4 env' { tmps:=tmps,defers:=[] }:=re''.up (t2.up st'');have sr4:SR D Y r4 e2 h3 env' H4:=⟨t5,fun j=>(sr3.re j).mono t4⟩;have ag4:Agree h.length r r4:=fun b1 c1 hb1 hr1=>t4 _ _ (ag b1 c1 (p7.sh.dom b1 c1 (p6 b1 c1 hr1)) (p6 b1 c1 hr1));obtain⟨v1,x1,x2⟩:=aPK sh ag4 sr4 hret;obtain⟨cv,y1,y2⟩:=rA t3 re4 aQC x1;exact⟨cv,y1,cv,v1,F4,H4,rfl,he'.trans t2,t3,y2,x2⟩
     split at hx;·simp at hx
     ·rename_i x e2 h2 hne hex
      simp only[D7]at hx;obtain⟨h3,hh,hret⟩:=hx;have hWD:=fV hD hm hall h1.length n none none b21 B Y r1 _ h1 _ H2 x e2 h2 (fun x' env3 H3=>x'=x∧∃ r3,Agree h1.length r1 r3∧SR D Y r3 e2 h2 env3 H3) hY aPo (aO aPt) rfl sr2 hex (fun r' env' H' ha sr'=>⟨rfl,r',ha,sr'⟩);have hW:=hWD code21 (by rw[hN];exact sW) F2 w2 { tmps:=a2.tmps,defers:=T } w2.heap.size T hB2 (B7 _) (by rw[hN];exact s1) s4 s5 Mk.nil;refine wpIn_mono hW ?_;rintro e a' w' ⟨x',env',F',H',z1,z2,z3,z4,z5,z6,rfl,r3,z7,z8⟩;have fin:=fun(hu:True)=>out F' w' H' env' a'.tmps a'.defers r3 e2 h2 h3 .returning _ _ false undef (by simp) (E2.trans z3) z4 z5 z6 z7 z8 ((tZ saySay.zero rfl)) hh hret (.inr ⟨rfl,rfl,rfl⟩);cases e with
      | normal=>exact fin trivial
      | ret=>exact fin trivial
      | exit id=>simp only at z1;subst z1;exact(hne id rfl).elim
      | goto l=>exact z1.elim
      | panic c=>exact z1.elim
      | outgrown=>exact z1.elim
     ·rename_i hex
      split at hx
      ·rename_i ty v0 e2 h2 hexP
       split at hx
       ·rename_i hty
        simp only[D7]at hx;obtain⟨h3,hh,hret⟩:=hx;have hWD:=yP hD hm hall hallP h1.length n none none b21 B Y r1 _ h1 _ H2 (.ifc ty v0) e2 h2 (fun v' env3 H3=>∃ r3,Agree h1.length r1 r3∧SR D Y r3 e2 h2 env3 H3∧Rn D Y r3 (.ifc ty v0) v') hY aPo (aO aPt) rfl sr2 hexP (fun r' v' env' H' ha sr' hv'=>⟨r',ha,sr',hv'⟩);have hW:=hWD code21 (by rw[hN];exact sW) F2 w2 { tmps:=a2.tmps,defers:=T } w2.heap.size T hB2 (B7 _) (by rw[hN];exact s1) s4 s5 Mk.nil;refine wpIn_mono hW ?_;rintro e a' w' ⟨cv,vv,env',F',H',rfl,z3,z4,z5,z9,z6,r3,z7,z8,z10⟩;have hty':ty=110:=hty;subst hty';cases z10 with
        | ifc _ _ v0' hv0' =>
        exact out F' w' H' env' a'.tmps a'.defers r3 e2 h2 h3 (.panicking (pnc cv)) v0 v0' true cv (by simp) (E2.trans z3) z4 z5 z6 z7 z8 hv0' hh hret (.inl ⟨rfl,rfl,z9⟩)
       ·simp at hx
      ·simp at hx
    ·simp at hx
   ·simp at hx
  ·simp at hx
 ·simp at hx
end
noncomputable def m58a:Array Oper:=match f58.body with
 | some (.seq (.region _ ops _) _)=>ops
 | _ => #[]
noncomputable def m58b:Array Oper:=match f58.body with
 | some (.seq _ (.cond _ (.region _ ops _) _))=>ops
 | _ => #[]
theorem aSK:f58.body=some (.seq (.region 0 m58a false) (.cond (.tmp 5) (.region 1 m58b false) .skip)):=rfl
def aSd:List DOper:=[⟨0,some 4,.mv (.t 0),none⟩,⟨0,some 5,.not (.t 4),none⟩]
def l58b:List DOper:=[⟨0,some 6,.mv (.t 1),none⟩,⟨0,some 7,.build [.int .i64 0] [(0,(1,.t 6))],none⟩,⟨0,some 8,.mkifc 110 (.t 7),none⟩]
theorem aNp:rZ prog 9 m58a false=some aSd:=by kernel_rfl
theorem aSF:((m58b.toList.take 3).mapM (aDs prog m58b))=some l58b:=by kernel_rfl
theorem p58:∃ o,m58b[3]?=some o∧o.guard=none∧o.op = .panic (.tmp 8):=⟨_,rfl,rfl,rfl⟩
theorem s58:m58b.size=4:=rfl
theorem n58:f58.ntmps=9:=rfl

section
variable{D:Nat→Option XFn}{B:Base}{Y:Nat→Option YI}{r:Nat→Option Nat}{h:XH}{H:Hp}
def aIp:cV:=fun _ _ _=>none
def aEj:dJ:=fun _ _ _=>none
theorem aFE:FnS prog B D Y aIp:=fun _ _ _ _ _ _ _ _ _ _ hx=>by simp[aIp]at hx
theorem aDc:YS prog B D Y aEj:=fun _ _ _ _ _ _ _ _ _ _ _ _ hx=>by simp[aEj]at hx

theorem aWS(k:IntKind)(n:Int):∃ e1,eE aIp aEj aSd (bM [.bool false,.int k n]) h=some (e1,h)∧e1 5 = .bool true∧e1 1 = .int k n:=⟨_,rfl,rfl,rfl⟩
theorem aWR{e:aH}{k:IntKind}{n:Int}(he:e 1 = .int k n):∃ e1,eE aIp aEj l58b e h=some (e1,h)∧e1 8 = .ifc 110 (.agg [.int k n]):=by
 refine⟨aR (aR (aR e (some 6) (.int k n)) (some 7) (.agg [.int k n])) (some 8) (.ifc 110 (.agg [.int k n])),?_,rfl⟩;have h0:aK e (.t 1) = .int k n:=he;simp only[l58b,eE,gd,cL,aC,h0,D0];rfl

theorem aJp{P:Program}{ops:Array Oper}{r:Option Nat}{N:Nat}{Q:Exit→Act→World→Prop}{tl:List Nat}{K:aH→Hp→Prop}:∀(l:List DOper)(i:Nat),(∀ j d,l[j]?=some d→Reads P ops (i+j) d)→(∀ d∈l,aDq N d) →
 ∀(F:Nat→Prop)(w:World)(H:Hp)(env:aH)(a:Act),a.tmps.size=N→B.Up F w→St F w H→RE F w env a→RS B P l K env H→DL.Ends N a F w H K (fun a' w'=>wpOpsIn (FW r) 0 P ops Q tl a' w') →
 wpOpsIn (FW r) 0 P ops Q (List.range' i l.length++tl) a w:=by
 intro l;induction l with
 | nil=>intro i _ _ F w H env a hsz hB st re h hQ;exact hQ a F w env H hsz rfl (Ext.refl _ _ _) st re h
 | cons d l ih =>
   intro i hr hd F w H env a hsz hB st re h hQ;rw[C6,aA4,M8,wpOpsIn_cons];refine yD (hr 0 d rfl) (hd d (by simp)).2 (hd d (by simp)).1 hsz hB st re h ?_;intro a' F' w' env' H' h1 h2 h3 h4 h5 h6;exact ih (i+1) (fun j d' hj=>by have:=hr (j+1) d' (by simpa using hj);rwa [aA9,aC0 1 j]) (fun d' hd'=>hd d' (by simp[hd'])) F' w' H' env' a' h1 (hB.step st h3) h4 h5 h6 (hQ.step h2 h3)

theorem aVd(hm:prog.follows .mixedOrders=true)(k:IntKind)(n:Int){as':List AV}(sh:SH D Y r h H)(hA:RnL D Y r [.bool false,.int k n] as'):FnP B prog 58 as' H (dP D Y r (.ifc 110 (.agg [.int k n])) h):=by
 have hl:as'.length=2:=by have:=hA.1;simpa using this.symm
 refine⟨fun vs w=>call58 vs w,fun F w vs hB st hAr=>?_⟩;have hsz:(vs++Array.replicate (f58.ntmps-vs.size) undef).size=9:=by
  have h1:=hAr.1;rw[n58];simp;omega
 have hre:=wR (N:=9) (nt:=f58.ntmps-vs.size) hB hAr;obtain⟨e1,hx1,he5,he1⟩:=aWS (h:=h) k n;have zF:=hO (P:=prog) (B:=B) aFE aDc aSd r _ h _ H e1 h (fun env' H'=>∃ r',DL.Sub r r'∧SR D Y r' e1 h env' H') rfl ⟨sh,jG hA⟩ hx1 (fun r' env' H' hs sr'=>⟨r',hs,sr'⟩);refine callsIn_of_wp_marks func58 aSK trivial (wpIn_seq (iV (B:=B) (r:=none) (N:=9) (draw:=false) hm aNp hsz hB st hre zF ?_));rintro a1 F1 w1 env1 H1 p1 p2 p3 p4 p5 ⟨r1,p6,p7⟩;show (Code.cond (.tmp 5) (.region 1 m58b false) .skip).wpIn Fence.wide 0 prog _ a1 w1;have hev:a1.eval (.tmp 5) = .bool true:=by
  have h5:=p7.re 5;rw[he5]at h5;have:=p5.rv 5;rw[dU h5]at this;show a1.tmps.getD 5 undef=_;generalize a1.tmps.getD 5 undef=z at this;cases this;rfl
 refine wpIn_cond (t:=true) hev (wpIn_region ?_);rw[s58,show List.range 4=List.range' 0 l58b.length++[3] from rfl];obtain⟨e2,hx2,he8⟩:=aWR (h:=h) he1;have eD:=hO (P:=prog) (B:=B) aFE aDc l58b r1 _ h _ H1 e2 h (fun env' H'=>∃ r',DL.Sub r r'∧SR D Y r' e2 h env' H') rfl p7 hx2 (fun r' env' H' hs sr'=>⟨r',p6.trans hs,sr'⟩);refine aJp (r:=none) (B:=B) (N:=9) l58b 0 (fun j d hj=>?_) (fun d hd=>?_) F1 w1 H1 env1 a1 p1 (hB.step st p3) p4 p5 eD ?_
 ·obtain⟨h1,h2⟩:=xL aSF
  obtain⟨o,h3,h4⟩:=h2 j d hj;rw[H8];refine kP (o:=o) ?_ h4;rw[H7]at h3;split at h3;·rwa [D9]at h3
  ·cases h3
 ·simp only[l58b,B4,D4,AAh]at hd
  rcases hd with rfl|rfl|rfl<;>exact⟨by intro k hk;simp at hk<;>omega,rfl⟩
 rintro a2 F2 w2 env2 H2 q1 q2 q3 q4 q5 ⟨r2,q6,q7⟩;obtain⟨o,g1,g2,g3⟩:=p58;rw[wpOpsIn_cons];unfold wpOpIn;simp only[g1];have hw:Region.wanted o (yielded m58b a2.tmps)=true:=by unfold Region.wanted;rw[g2]
 rw[if_pos hw];refine⟨fun _ _=>trivial,?_⟩;have h8:=q7.re 8;rw[he8]at h8;have hrv:=q5.rv 8;cases hz:env2 8<;>rw[hz]at h8<;>cases h8
 rename_i v8 h8;rw[hz]at hrv;obtain⟨cv,hcv⟩:∃ cv,a2.tmps.getD 8 undef=cv:=⟨_,rfl⟩;rw[hcv]at hrv;have hev8:a2.eval (.tmp 8)=cv:=hcv;have hrv0:=hrv;cases hrv with
 | ifc _ _ vv hvv =>
 have hsem:(o.semAt (FW none).round a2.eval).run prog w2 = .halt (.panic (.iface 110 vv)) w2:=by
  rw[Oper.semAt_eq _ _ _ (by rw[g3];simp)];simp[execOp,g3,hev8,Instr.panic,goPanic]
 rw[hsem,Oper.uponIn_panic];show LeavesInM Fence.wide 0 prog f58 a2.tmps _ a2.defers (.panicking _) w2;have hd2:a2.defers=[]:=by rw[q2,p2]
 rw[hd2];exact⟨.iface 110 vv,_,F2,H2,rfl,p3.trans q3,q4,hrv0,r2,q6,q7.sh,.ifc _ _ _ h8⟩
end
end Go.Proofs.YtmapgnepfgnphaaGreatDoor
namespace Go.Proofs.YtmapgnepfgnphaaGreatDoor
open Go Go.DL Go.Proofs.Tryz

def nZ(f:List AV→XH→Option (AV×XH)):XFn:=⟨10,[],false,false,.skip,none,some f⟩
def aRS(n:Nat):XFn:=⟨n,[],false,false,.skip,none,some fun _ _=>none⟩
def aL(K:Nat):Option XFn:=match K with
 | 37=>some (nZ aAX)
 | 47=>some (nZ aMd)
 | 57=>some (nZ aBb)
 | 71=>some (nZ aMc)
 | 72=>some (nZ aAZ)
 | 74=>some (nZ aMb)
 | 80=>some (nZ aGU)
 | 83=>some (nZ zP)
 | 99=>some (nZ aBa)
 | 115=>some (nZ aGV)
 | 143=>some (nZ aAY)
 | 21=>some (aRS 41)
 | K=>aLO K

theorem aLQ{D:Nat→Option XFn}{K:Nat}:iT D K (fun _ _=>none):=fun _ _ _ _ _ _ _ _ _ _ _ hx=>by cases hx
theorem XOk.over{D D':Nat→Option XFn}(ok:XOk prog D)(h:∀ K d,D' K=some d→(D K=some d∧d.prm=none)∨∃ n f,d=⟨n,[],false,false,.skip,none,some f⟩∧iT D' K f):XOk prog D' where
 mixed:=ok.mixed
 is K d hd hp:=by
  rcases h K d hd with ⟨h1,_⟩|⟨n,f,rfl,_⟩;·exact ok.is K d h1 hp
  ·cases hp
 prm K d f hd hp B Y _ r hh H xs ys v h' sh hr hx:=by
  rcases h K d hd with ⟨_,h2⟩|⟨n,f',rfl,h2⟩;·rw[h2]at hp;cases hp
  ·cases hp
   exact h2 B Y r hh H xs ys v h' sh hr hx
 ok K d hd:=by
  rcases h K d hd with ⟨h1,_⟩|⟨n,f,rfl,_⟩;·exact ok.ok K d h1
  ·rfl
 sites K d hd:=by
  rcases h K d hd with ⟨h1,_⟩|⟨n,f,rfl,_⟩;·exact ok.sites K d h1
  ·trivial

theorem aFx:XOk prog aL:=by
 refine XOk.over progX_ok fun K d hd=>?_;unfold aL at hd;split at hd;·cases hd;exact .inr ⟨_,_,rfl,aLZ⟩
 ·cases hd;exact .inr ⟨_,_,rfl,aLY⟩
 ·cases hd;exact .inr ⟨_,_,rfl,aLX⟩
 ·cases hd;exact .inr ⟨_,_,rfl,aLW⟩
 ·cases hd;exact .inr ⟨_,_,rfl,aLV⟩
 ·cases hd;exact .inr ⟨_,_,rfl,aLU⟩
 ·cases hd;exact .inr ⟨_,_,rfl,aLT⟩
 ·cases hd;exact .inr ⟨_,_,rfl,aLS⟩
 ·cases hd;exact .inr ⟨_,_,rfl,aLR⟩
 ·cases hd;exact .inr ⟨_,_,rfl,aGT⟩
 ·cases hd;exact .inr ⟨_,_,rfl,aGS⟩
 ·cases hd;exact .inr ⟨_,_,rfl,aLQ⟩
 ·exact .inl ⟨hd,aPn hd⟩

def specZ:lG:=⟨fun K xs=>match K,xs with
 | 58,[.bool false,.int k e]=>some (.ifc 110 (.agg [.int k e]))
 | _,_=>none,fun K=>if K=21 then some saySay else none,fun _ _ _=>none⟩
theorem aEY{D:Nat→Option XFn}:aSR prog D specZ:=by
 intro K xs v hx B Y r h H ys sh hA;unfold specZ at hx;dsimp only at hx;split at hx
 ·cases hx
  exact aVd progX_ok.mixed _ _ sh hA
 ·cases hx
theorem aCJ{D:Nat→Option XFn}(hD:D 21=some (aRS 41)):∀ K i,specZ.say K=some i→aNC prog D i K:=by
 intro K i hi;unfold specZ at hi;dsimp only at hi;split at hi
 ·rename_i hK
  cases hi;subst hK;exact aRF hD rfl progX_ok.mixed
 ·cases hi
end Go.Proofs.YtmapgnepfgnphaaGreatDoor
namespace Go.Proofs.YtmapgnepfgnphaaGreatDoor
open Go Go.DL
theorem rf0:aV aL specZ 400 rw0.K rw0.as rw0.h=some (rw0.v,rw0.h'):=by kernel_rfl
theorem rf1:aV aL specZ 400 rw1.K rw1.as rw1.h=some (rw1.v,rw1.h'):=by kernel_rfl
theorem rf2:aV aL specZ 400 rw2.K rw2.as rw2.h=some (rw2.v,rw2.h'):=by kernel_rfl
theorem rf3:aV aL specZ 400 rw3.K rw3.as rw3.h=some (rw3.v,rw3.h'):=by kernel_rfl
theorem rf6:aV aL specZ 400 rw6.K rw6.as rw6.h=some (rw6.v,rw6.h'):=by kernel_rfl
theorem rf7:aV aL specZ 400 rw7.K rw7.as rw7.h=some (rw7.v,rw7.h'):=by kernel_rfl
theorem rf8:aV aL specZ 400 rw8.K rw8.as rw8.h=some (rw8.v,rw8.h'):=by kernel_rfl
theorem rf9:aV aL specZ 400 rw9.K rw9.as rw9.h=some (rw9.v,rw9.h'):=by kernel_rfl
theorem aYZ:aV aL specZ 400 rw10.K rw10.as rw10.h=some (rw10.v,rw10.h'):=by kernel_rfl
theorem aYX:aV aL specZ 400 rw12.K rw12.as rw12.h=some (rw12.v,rw12.h'):=by kernel_rfl
theorem aYW:aV aL specZ 400 rw13.K rw13.as rw13.h=some (rw13.v,rw13.h'):=by kernel_rfl
theorem aYU:aV aL specZ 400 rw15.K rw15.as rw15.h=some (rw15.v,rw15.h'):=by kernel_rfl
theorem aYT:aV aL specZ 400 rw16.K rw16.as rw16.h=some (rw16.v,rw16.h'):=by kernel_rfl
theorem aYS:aV aL specZ 400 rw17.K rw17.as rw17.h=some (rw17.v,rw17.h'):=by kernel_rfl
theorem aYR:aV aL specZ 400 rw18.K rw18.as rw18.h=some (rw18.v,rw18.h'):=by kernel_rfl
theorem aYQ:aV aL specZ 400 rw19.K rw19.as rw19.h=some (rw19.v,rw19.h'):=by kernel_rfl
theorem aYP:aV aL specZ 400 rw20.K rw20.as rw20.h=some (rw20.v,rw20.h'):=by kernel_rfl
theorem aYO:aV aL specZ 400 rw21.K rw21.as rw21.h=some (rw21.v,rw21.h'):=by kernel_rfl
theorem aYN:aV aL specZ 400 rw22.K rw22.as rw22.h=some (rw22.v,rw22.h'):=by kernel_rfl
theorem aYM:aV aL specZ 400 rw23.K rw23.as rw23.h=some (rw23.v,rw23.h'):=by kernel_rfl
theorem aYL:aV aL specZ 400 rw24.K rw24.as rw24.h=some (rw24.v,rw24.h'):=by kernel_rfl
theorem aYK:aV aL specZ 400 rw25.K rw25.as rw25.h=some (rw25.v,rw25.h'):=by kernel_rfl
theorem aYJ:aV aL specZ 400 rw26.K rw26.as rw26.h=some (rw26.v,rw26.h'):=by kernel_rfl
theorem aYI:aV aL specZ 400 rw27.K rw27.as rw27.h=some (rw27.v,rw27.h'):=by kernel_rfl
theorem aYH:aV aL specZ 400 rw28.K rw28.as rw28.h=some (rw28.v,rw28.h'):=by kernel_rfl
theorem aYG:aV aL specZ 400 rw29.K rw29.as rw29.h=some (rw29.v,rw29.h'):=by kernel_rfl
theorem aYF:aV aL specZ 400 rw30.K rw30.as rw30.h=some (rw30.v,rw30.h'):=by kernel_rfl
theorem aYE:aV aL specZ 400 rw31.K rw31.as rw31.h=some (rw31.v,rw31.h'):=by kernel_rfl
theorem aYD:aV aL specZ 400 rw32.K rw32.as rw32.h=some (rw32.v,rw32.h'):=by kernel_rfl
theorem aYC:aV aL specZ 400 rw33.K rw33.as rw33.h=some (rw33.v,rw33.h'):=by kernel_rfl
theorem aYB:aV aL specZ 400 rw34.K rw34.as rw34.h=some (rw34.v,rw34.h'):=by kernel_rfl
theorem aYA:aV aL specZ 400 rw35.K rw35.as rw35.h=some (rw35.v,rw35.h'):=by kernel_rfl
theorem aYz:aV aL specZ 400 rw36.K rw36.as rw36.h=some (rw36.v,rw36.h'):=by kernel_rfl
theorem aYy:aV aL specZ 400 rw37.K rw37.as rw37.h=some (rw37.v,rw37.h'):=by kernel_rfl
theorem aYx:aV aL specZ 400 rw38.K rw38.as rw38.h=some (rw38.v,rw38.h'):=by kernel_rfl
theorem aYw:aV aL specZ 400 rw39.K rw39.as rw39.h=some (rw39.v,rw39.h'):=by kernel_rfl
theorem aYv:aV aL specZ 400 rw40.K rw40.as rw40.h=some (rw40.v,rw40.h'):=by kernel_rfl
theorem aYu:aV aL specZ 400 rw41.K rw41.as rw41.h=some (rw41.v,rw41.h'):=by kernel_rfl
theorem aYt:aV aL specZ 400 rw42.K rw42.as rw42.h=some (rw42.v,rw42.h'):=by kernel_rfl
theorem aYs:aV aL specZ 400 rw43.K rw43.as rw43.h=some (rw43.v,rw43.h'):=by kernel_rfl
theorem aYr:aV aL specZ 400 rw44.K rw44.as rw44.h=some (rw44.v,rw44.h'):=by kernel_rfl
theorem aYq:aV aL specZ 400 rw45.K rw45.as rw45.h=some (rw45.v,rw45.h'):=by kernel_rfl
theorem aYp:aV aL specZ 400 rw46.K rw46.as rw46.h=some (rw46.v,rw46.h'):=by kernel_rfl
theorem aYo:aV aL specZ 400 rw47.K rw47.as rw47.h=some (rw47.v,rw47.h'):=by kernel_rfl
theorem aYm:aV aL specZ 400 rw49.K rw49.as rw49.h=some (rw49.v,rw49.h'):=by kernel_rfl
theorem aYl:aV aL specZ 400 rw50.K rw50.as rw50.h=some (rw50.v,rw50.h'):=by kernel_rfl
theorem aYk:aV aL specZ 400 rw51.K rw51.as rw51.h=some (rw51.v,rw51.h'):=by kernel_rfl
theorem aYj:aV aL specZ 400 rw52.K rw52.as rw52.h=some (rw52.v,rw52.h'):=by kernel_rfl
theorem aYi:aV aL specZ 400 rw53.K rw53.as rw53.h=some (rw53.v,rw53.h'):=by kernel_rfl
theorem aYh:aV aL specZ 400 rw54.K rw54.as rw54.h=some (rw54.v,rw54.h'):=by kernel_rfl
theorem aYg:aV aL specZ 400 rw55.K rw55.as rw55.h=some (rw55.v,rw55.h'):=by kernel_rfl
theorem aYe:aV aL specZ 400 rw57.K rw57.as rw57.h=some (rw57.v,rw57.h'):=by kernel_rfl
theorem aYd:aV aL specZ 400 rw58.K rw58.as rw58.h=some (rw58.v,rw58.h'):=by kernel_rfl
theorem aYc:aV aL specZ 400 rw59.K rw59.as rw59.h=some (rw59.v,rw59.h'):=by kernel_rfl
theorem aYb:aV aL specZ 400 rw60.K rw60.as rw60.h=some (rw60.v,rw60.h'):=by kernel_rfl
theorem aYa:aV aL specZ 400 rw61.K rw61.as rw61.h=some (rw61.v,rw61.h'):=by kernel_rfl
theorem aXZ:aV aL specZ 400 rw62.K rw62.as rw62.h=some (rw62.v,rw62.h'):=by kernel_rfl
theorem aXY:aV aL specZ 400 rw63.K rw63.as rw63.h=some (rw63.v,rw63.h'):=by kernel_rfl
theorem aXV:aV aL specZ 400 rw66.K rw66.as rw66.h=some (rw66.v,rw66.h'):=by kernel_rfl
theorem aXU:aV aL specZ 400 rw68.K rw68.as rw68.h=some (rw68.v,rw68.h'):=by kernel_rfl
theorem aXT:aV aL specZ 400 rw69.K rw69.as rw69.h=some (rw69.v,rw69.h'):=by kernel_rfl
theorem aXS:aV aL specZ 400 rw70.K rw70.as rw70.h=some (rw70.v,rw70.h'):=by kernel_rfl
theorem aXR:aV aL specZ 400 rw71.K rw71.as rw71.h=some (rw71.v,rw71.h'):=by kernel_rfl
theorem aXQ:aV aL specZ 400 rw72.K rw72.as rw72.h=some (rw72.v,rw72.h'):=by kernel_rfl
theorem aXP:aV aL specZ 400 rw73.K rw73.as rw73.h=some (rw73.v,rw73.h'):=by kernel_rfl
theorem aXO:aV aL specZ 400 rw74.K rw74.as rw74.h=some (rw74.v,rw74.h'):=by kernel_rfl
theorem aXM:aV aL specZ 400 rw76.K rw76.as rw76.h=some (rw76.v,rw76.h'):=by kernel_rfl
theorem aXL:aV aL specZ 400 rw77.K rw77.as rw77.h=some (rw77.v,rw77.h'):=by kernel_rfl
theorem aXK:aV aL specZ 400 rw78.K rw78.as rw78.h=some (rw78.v,rw78.h'):=by kernel_rfl
theorem aXJ:aV aL specZ 400 rw79.K rw79.as rw79.h=some (rw79.v,rw79.h'):=by kernel_rfl
theorem aXI:aV aL specZ 400 rw80.K rw80.as rw80.h=some (rw80.v,rw80.h'):=by kernel_rfl
theorem aXH:aV aL specZ 400 rw81.K rw81.as rw81.h=some (rw81.v,rw81.h'):=by kernel_rfl
theorem aXG:aV aL specZ 400 rw82.K rw82.as rw82.h=some (rw82.v,rw82.h'):=by kernel_rfl
theorem aXD:aV aL specZ 400 rw85.K rw85.as rw85.h=some (rw85.v,rw85.h'):=by kernel_rfl
def aEV:List dT:=[rw0,rw1,rw2,rw3,rw6,rw7,rw8,rw9,rw10,rw12,rw13,rw15,rw16,rw17,rw18,rw19,rw20,rw21,rw22,rw23,rw24,rw25,rw26,rw27,rw28,rw29,rw30,rw31,rw32,rw33,rw34,rw35,rw36,rw37,rw38,rw39,rw40,rw41,rw42,rw43,rw44,rw45,rw46,rw47,rw49,rw50,rw51,rw52,rw53,rw54,rw55,rw57,rw58,rw59,rw60,rw61,rw62,rw63,rw66,rw68,rw69,rw70,rw71,rw72,rw73,rw74,rw76,rw77,rw78,rw79,rw80,rw81,rw82,rw85]
theorem aOs:∀ q∈aEV,∃ n,aV aL specZ n q.K q.as q.h=some (q.v,q.h'):=by
 intro q hq;simp only[aEV,B4,D4,AAh]at hq;rcases hq with rfl|rfl|rfl|rfl|rfl|rfl|rfl|rfl|rfl|rfl|rfl|rfl|rfl|rfl|rfl|rfl|rfl|rfl|rfl|rfl|rfl|rfl|rfl|rfl|rfl|rfl|rfl|rfl|rfl|rfl|rfl|rfl|rfl|rfl|rfl|rfl|rfl|rfl|rfl|rfl|rfl|rfl|rfl|rfl|rfl|rfl|rfl|rfl|rfl|rfl|rfl|rfl|rfl|rfl|rfl|rfl|rfl|rfl|rfl|rfl|rfl|rfl|rfl|rfl|rfl|rfl|rfl|rfl|rfl|rfl|rfl|rfl|rfl|rfl;·exact⟨400,rf0⟩
 ·exact⟨400,rf1⟩
 ·exact⟨400,rf2⟩
 ·exact⟨400,rf3⟩
 ·exact⟨400,rf6⟩
 ·exact⟨400,rf7⟩
 ·exact⟨400,rf8⟩
 ·exact⟨400,rf9⟩
 ·exact⟨400,aYZ⟩
 ·exact⟨400,aYX⟩
 ·exact⟨400,aYW⟩
 ·exact⟨400,aYU⟩
 ·exact⟨400,aYT⟩
 ·exact⟨400,aYS⟩
 ·exact⟨400,aYR⟩
 ·exact⟨400,aYQ⟩
 ·exact⟨400,aYP⟩
 ·exact⟨400,aYO⟩
 ·exact⟨400,aYN⟩
 ·exact⟨400,aYM⟩
 ·exact⟨400,aYL⟩
 ·exact⟨400,aYK⟩
 ·exact⟨400,aYJ⟩
 ·exact⟨400,aYI⟩
 ·exact⟨400,aYH⟩
 ·exact⟨400,aYG⟩
 ·exact⟨400,aYF⟩
 ·exact⟨400,aYE⟩
 ·exact⟨400,aYD⟩
 ·exact⟨400,aYC⟩
 ·exact⟨400,aYB⟩
 ·exact⟨400,aYA⟩
 ·exact⟨400,aYz⟩
 ·exact⟨400,aYy⟩
 ·exact⟨400,aYx⟩
 ·exact⟨400,aYw⟩
 ·exact⟨400,aYv⟩
 ·exact⟨400,aYu⟩
 ·exact⟨400,aYt⟩
 ·exact⟨400,aYs⟩
 ·exact⟨400,aYr⟩
 ·exact⟨400,aYq⟩
 ·exact⟨400,aYp⟩
 ·exact⟨400,aYo⟩
 ·exact⟨400,aYm⟩
 ·exact⟨400,aYl⟩
 ·exact⟨400,aYk⟩
 ·exact⟨400,aYj⟩
 ·exact⟨400,aYi⟩
 ·exact⟨400,aYh⟩
 ·exact⟨400,aYg⟩
 ·exact⟨400,aYe⟩
 ·exact⟨400,aYd⟩
 ·exact⟨400,aYc⟩
 ·exact⟨400,aYb⟩
 ·exact⟨400,aYa⟩
 ·exact⟨400,aXZ⟩
 ·exact⟨400,aXY⟩
 ·exact⟨400,aXV⟩
 ·exact⟨400,aXU⟩
 ·exact⟨400,aXT⟩
 ·exact⟨400,aXS⟩
 ·exact⟨400,aXR⟩
 ·exact⟨400,aXQ⟩
 ·exact⟨400,aXP⟩
 ·exact⟨400,aXO⟩
 ·exact⟨400,aXM⟩
 ·exact⟨400,aXL⟩
 ·exact⟨400,aXK⟩
 ·exact⟨400,aXJ⟩
 ·exact⟨400,aXI⟩
 ·exact⟨400,aXH⟩
 ·exact⟨400,aXG⟩
 ·exact⟨400,aXD⟩
def yC:lG:={ specZ with orc:=aCu aEV }
theorem rf4:aV aL yC 400 rw4.K rw4.as rw4.h=some (rw4.v,rw4.h'):=by kernel_rfl
theorem aYY:aV aL yC 400 rw11.K rw11.as rw11.h=some (rw11.v,rw11.h'):=by kernel_rfl
theorem aYV:aV aL yC 400 rw14.K rw14.as rw14.h=some (rw14.v,rw14.h'):=by kernel_rfl
theorem aYf:aV aL yC 400 rw56.K rw56.as rw56.h=some (rw56.v,rw56.h'):=by kernel_rfl
theorem aXX:aV aL yC 400 rw64.K rw64.as rw64.h=some (rw64.v,rw64.h'):=by kernel_rfl
theorem aXN:aV aL yC 400 rw75.K rw75.as rw75.h=some (rw75.v,rw75.h'):=by kernel_rfl
theorem aXF:aV aL yC 400 rw83.K rw83.as rw83.h=some (rw83.v,rw83.h'):=by kernel_rfl
def aJa:List dT:=[rw4,rw11,rw14,rw56,rw64,rw75,rw83]
theorem aOr:∀ q∈aJa,∃ n,aV aL yC n q.K q.as q.h=some (q.v,q.h'):=by
 intro q hq;simp only[aJa,B4,D4,AAh]at hq;rcases hq with rfl|rfl|rfl|rfl|rfl|rfl|rfl;·exact⟨400,rf4⟩
 ·exact⟨400,aYY⟩
 ·exact⟨400,aYV⟩
 ·exact⟨400,aYf⟩
 ·exact⟨400,aXX⟩
 ·exact⟨400,aXN⟩
 ·exact⟨400,aXF⟩
def aCK:lG:={ specZ with orc:=aCu (aJa++aEV) }
theorem rf5:aV aL aCK 400 rw5.K rw5.as rw5.h=some (rw5.v,rw5.h'):=by kernel_rfl
theorem aYn:aV aL aCK 400 rw48.K rw48.as rw48.h=some (rw48.v,rw48.h'):=by kernel_rfl
theorem aXW:aV aL aCK 400 rw65.K rw65.as rw65.h=some (rw65.v,rw65.h'):=by kernel_rfl
theorem aXE:aV aL aCK 400 rw84.K rw84.as rw84.h=some (rw84.v,rw84.h'):=by kernel_rfl
theorem aXC:aV aL aCK 400 rw86.K rw86.as rw86.h=some (rw86.v,rw86.h'):=by kernel_rfl
def aOq:List dT:=[rw5,rw48,rw65,rw84,rw86]
theorem aOp:∀ q∈aOq,∃ n,aV aL aCK n q.K q.as q.h=some (q.v,q.h'):=by
 intro q hq;simp only[aOq,B4,D4,AAh]at hq;rcases hq with rfl|rfl|rfl|rfl|rfl;·exact⟨400,rf5⟩
 ·exact⟨400,aYn⟩
 ·exact⟨400,aXW⟩
 ·exact⟨400,aXE⟩
 ·exact⟨400,aXC⟩
def aUP:lG:={ specZ with orc:=aCu (aOq++(aJa++aEV)) }
end Go.Proofs.YtmapgnepfgnphaaGreatDoor
namespace Go.Proofs.YtmapgnepfgnphaaGreatDoor
open Go Go.DL Go.Proofs.Tryz

def aBX(q:dT):Prop:=∀(B:Base)(Y:Nat→Option YI),YOk prog B aL Y→∀(r:Nat→Option Nat)(H:Hp)(ys:List AV),SH aL Y r q.h H→RnL aL Y r q.as ys→FnW B prog q.K ys H (dP aL Y r q.v q.h')
theorem aJt{S:lG}{T:List dT}(h:∀ q∈T,aBX q)(hS:S.orc=aCu T):aRa prog aL S:=by
 intro K xs hh q hq B Y hY r H ys sh hA;rw[hS]at hq;obtain⟨u,hu,rfl,rfl,rfl,rfl⟩:=aFz hq;exact h u hu B Y hY r H ys sh hA
def aNB(S:lG):Prop:=∀(n:Nat)(B:Base)(Y:Nat→Option YI),YOk prog B aL Y→FnS prog B aL Y (aV aL S n)
theorem vN{S:lG}(hz:aNB S){q:dT}(h:∃ n,aV aL S n q.K q.as q.h=some (q.v,q.h')):aBX q:=by
 obtain⟨n,hn⟩:=h;exact fun B Y hY r H ys sh hA=>hz n B Y hY r q.h H q.K q.as ys q.v q.h' sh hA hn
theorem aAo{T:List dT}(h:∀ q∈T,aBX q):aNB { specZ with orc:=aCu T }:=fun n B Y hY =>
 ((aAJ (S:={ specZ with orc:=aCu T }) aFx (aEY (D:=aL)) (aCJ (D:=aL) rfl) (aJt h rfl) n).1 B Y hY).1
theorem aOH:aNB specZ:=fun n B Y hY =>
 ((aAJ (S:=specZ) aFx (aEY (D:=aL)) (aCJ (D:=aL) rfl) (fun K xs hh q hq=>by cases hq) n).1 B Y hY).1
theorem aQB:∀ q∈aEV,aBX q:=fun q hq=>vN aOH (aOs q hq)
theorem aQA:∀ q∈aJa++aEV,aBX q:=fun q hq=>(B2.1 hq).elim (fun hq=>vN (aAo aQB) (aOr q hq)) (aQB q)
theorem aUT:∀ q∈aOq++(aJa++aEV),aBX q:=fun q hq=>(B2.1 hq).elim (fun hq=>vN (aAo aQA) (aOp q hq)) (aQA q)
theorem aIU:aV aL aUP 400 13 [] []=some (.bool true,[]):=by kernel_rfl
theorem aKp:aBX ⟨13,[],[],.bool true,[]⟩:=vN (aAo aUT) ⟨400,aIU⟩
end Go.Proofs.YtmapgnepfgnphaaGreatDoor
namespace Go.Proofs.YtmapgnepfgnphaaGreatDoor
open Go Go.DL Go.RowKit Go.Proofs.Tryz
variable{D:Nat→Option XFn}{Y:Nat→Option YI}{r:Nat→Option Nat}{h:XH}{H:Hp}{B:Base}
def aBU(s:ByteArray):AV:=match Lib.atoiAll s.data.toList with
 | .ok v=>.tup [.int .i64 v,.nilifc]
 | Lib.NumEnd.syntax=>.tup [.int .i64 0,.ifc 232 .any]
 | .range=>.tup [.int .i64 (Lib.atoiSat s.data.toList),.ifc 232 .any]
def aEe:List AV→XH→Option (AV×XH):=fun xs h=>match xs with
 | [.str s]=>if s.size≤100000 then some (aBU s,h) else none
 | _=>none
theorem aDE{F:Nat→Prop}{w:World}{a b:AV}{x y:Value}(h1:Rv F w a x)(h2:Rv F w b y):Rv F w (.tup [a,b]) (.tuple #[x,y]):=by
 refine .tup _ _ rfl fun i c v hc hv=>?_;match i,hc,hv with
 | 0,hc,hv =>
   simp at hc hv;rw[←hc,←hv];exact h1
 | 1,hc,hv =>
   simp at hc hv;rw[←hc,←hv];exact h2
 | i+2,hc,_=>simp at hc
theorem aDF{a b x y:AV}(h1:Rn D Y r a x)(h2:Rn D Y r b y):Rn D Y r (.tup [a,b]) (.tup [x,y]):=by
 refine .tup _ _ rfl fun i c v hc hv=>?_;match i,hc,hv with
 | 0,hc,hv =>
   simp at hc hv;rw[←hc,←hv];exact h1
 | 1,hc,hv =>
   simp at hc hv;rw[←hc,←hv];exact h2
 | i+2,hc,_=>simp at hc
theorem aQQ:iT D 86 aEe:=by
 intro B Y r h H xs ys v h' sh hr hx;unfold aEe at hx;split at hx
 ·rename_i s
  split at hx
  ·rename_i hn
   cases hx;obtain⟨a,as1,rfl,h1,h2⟩:=hr.inv;rw[dG h1,h2.nil_inv];have hrn:Rn D Y r (aBU s) (aBU s):=by
    unfold aBU;split;·exact aDF (.int _ _) .nilifc
    ·exact aDF (.int _ _) (.ifc _ _ _ (.any _))
    ·exact aDF (.int _ _) (.ifc _ _ _ (.any _))
   refine FnW.shelfG (fun vs w=>call86 vs w) (fun F w vs gi hl ha=>?_) ⟨r,DL.Sub.refl r,sh,hrn⟩;obtain⟨b,bs,rfl,h3,h4⟩:=ha.cons1;cases h3;rw[h4.nil1];obtain⟨_,ev1,hv1,he1⟩:=gi.2.2.2 1 (by simp[zU]);obtain⟨_,ev2,hv2,he2⟩:=gi.2.2.2 2 (by simp[zU]);unfold aBU;cases hA:Lib.atoiAll s.data.toList with
   | ok v =>
     refine(Tryz.strconv_Atoi_ok s (by omega) v hA w).mono ?_;rintro e w' ⟨rfl,hw⟩;have hbel:Below w.heap.size w w':=by
      rcases hw with rfl|⟨t,rfl⟩;·exact Below.refl _ _
      ·exact Lib.bytesWorld_below _ _ _
     exact⟨_,F,rfl,hbel,fun _ h=>h,fun _ h=>.inl h,fun b hb=>E7 (hl b hb) hbel.size,aDE (.int _ _) .nilifc⟩
   | range =>
     refine(Tryz.strconv_Atoi_range s (by omega) hA ev2 w hv2 he2).mono ?_;rintro e w' ⟨N,rfl,_,_,hbel⟩;exact⟨_,F,rfl,hbel,fun _ h=>h,fun _ h=>.inl h,fun b hb=>E7 (hl b hb) hbel.size,aDE (.int _ _) (.ifc _ _ _ (.any _))⟩
   | _ =>
     refine(Tryz.strconv_Atoi_syntax s (by omega) hA ev1 w hv1 he1).mono ?_;rintro e w' ⟨N,rfl,_,_,hbel⟩;exact⟨_,F,rfl,hbel,fun _ h=>h,fun _ h=>.inl h,fun b hb=>E7 (hl b hb) hbel.size,aDE (.int _ _) (.ifc _ _ _ (.any _))⟩
  ·cases hx
 ·cases hx
end Go.Proofs.YtmapgnepfgnphaaGreatDoor
namespace Go.Proofs.YtmapgnepfgnphaaGreatDoor
open Go Go.DL Go.Proofs.Tryz

def zO:List AV→XH→Option (AV×XH):=fun xs h=>match xs with
 | []=>some (.bool true,h)
 | _=>none
theorem aQR{D:Nat→Option XFn}:iT D 13 zO:=by
 intro B Y r h H xs ys v h' sh hr hx;unfold zO at hx;split at hx
 ·cases hx
  rw[hr.nil_inv];have h0:=aKp B (fun _=>none) (fun l i h=>by simp at h) (fun _=>none) noH [] SH.none (RnL.self fun a ha=>by cases ha);have h1:CallV B prog (.fn (.func 13) [] []) [] (fun c=>if (fun _:Nat=>False) c then H c else none) (dP aL (fun _=>none) (fun _=>none) (.bool true) []):=by
   have e:(fun c=>if (fun _:Nat=>False) c then H c else none)=noH:=by funext c;exact if_neg (fun h=>h)
   rw[e];exact h0
  refine CallV.mono (CallV.frameS (H:=H) (fun _=>False) h1) ?_;rintro v' H'' ⟨H',⟨r',k1,k2,k3⟩,e1,e2⟩;obtain⟨rfl,_⟩:=k3.same (Gd.bool true).gr;obtain⟨G,hG⟩:=sh.gh;refine⟨r,DL.Sub.refl r,⟨sh.dom,sh.inj,fun b x hb=>?_,_,hG.via id (fun b st p hb=>⟨hb,rfl⟩) (fun b x hb=>.inl ⟨x,hb,rfl,fun st p e=>e⟩) (fun _ _ _ _ _ _ _ hne=>hne) fun b st p n y _ _ hy=>(e2 n (fun h=>h) y hy).1⟩,(Gd.bool true).rn⟩;obtain⟨c,y,a1,a2,a3⟩:=sh.blk b x hb;exact⟨c,y,a1,(e2 c (fun h=>h) y a2).1,a3⟩
 ·cases hx
def aD(K:Nat):Option XFn:=match K with
 | 13=>some (nZ zO)
 | 86=>some (nZ aEe)
 | K=>aL K
theorem aA:XOk prog aD:=by
 refine XOk.over progX_ok fun K d hd=>?_;unfold aD at hd;split at hd;·cases hd;exact .inr ⟨_,_,rfl,aQR⟩
 ·cases hd;exact .inr ⟨_,_,rfl,aQQ⟩
 ·unfold aL at hd
  split at hd;·cases hd;exact .inr ⟨_,_,rfl,aLZ⟩
  ·cases hd;exact .inr ⟨_,_,rfl,aLY⟩
  ·cases hd;exact .inr ⟨_,_,rfl,aLX⟩
  ·cases hd;exact .inr ⟨_,_,rfl,aLW⟩
  ·cases hd;exact .inr ⟨_,_,rfl,aLV⟩
  ·cases hd;exact .inr ⟨_,_,rfl,aLU⟩
  ·cases hd;exact .inr ⟨_,_,rfl,aLT⟩
  ·cases hd;exact .inr ⟨_,_,rfl,aLS⟩
  ·cases hd;exact .inr ⟨_,_,rfl,aLR⟩
  ·cases hd;exact .inr ⟨_,_,rfl,aGT⟩
  ·cases hd;exact .inr ⟨_,_,rfl,aGS⟩
  ·cases hd;exact .inr ⟨_,_,rfl,aLQ⟩
  ·exact .inl ⟨hd,aPn hd⟩
theorem qX(K:Nat)(d:XFn)(hD:aD K=some d){vs:List AV}{h:XH}(hl:vs.length≤d.N:=by exact J2 rfl)(hdf:d.dfr=none:=by rfl)(hpr:d.prm=none:=by rfl)(hg:gH K=false:=by rfl):runW aD K vs h=qA none d.res d.ownR h.length (execW aD K h.length none d.body (bM (if d.ownA then vs else qD vs)) h):=vM hD hl h hdf hpr hg
theorem qY(K:Nat)(d:XFn)(hD:aD K=some d){vs:List AV}{h:XH}(hl:vs.length≤d.N:=by exact J2 rfl)(hdf:d.dfr=none:=by rfl)(hg:gH K=true:=by rfl)(hpr:d.prm=none:=by rfl):runW aD K vs h=aCr d.res (execW aD K h.length none d.body (bM (if d.ownA then vs else qD vs)) h):=aLm hD hl h hdf hg hpr
end Go.Proofs.YtmapgnepfgnphaaGreatDoor
namespace Go.Proofs.YtmapgnepfgnphaaGreatDoor
open Go Go.DL

def aZd(s:List Nat):List Nat:=s.take 40++List.replicate (40-s.length) 32
def bN(s:ByteArray):List Nat:=s.data.toList.map UInt8.toNat
end Go.Proofs.YtmapgnepfgnphaaGreatDoor
namespace Go.Proofs.YtmapgnepfgnphaaGreatDoor
open Go Go.DL
theorem ptf(p:Prop):p=True∨p=False:=by
 by_cases h:p;·exact .inl (AAm h)
 ·exact .inr (AAn h)
theorem pP{n i:Nat}(h:i<n)(hn:n≤9223372036854775807):IntKind.i64.wrap ((i:Int)+1)=(i:Int)+1:=aJ (by omega) (by omega)
theorem p57{xs:List AV}{h:XH}:runW aD 57 xs h=aBb xs h:=mC rfl rfl xs h
def nf(i:Nat):List Nat:=List.replicate i 32++List.replicate (40-i) 0
def mR(a b:Int):Int:=Int.tmod a b
def uV(a b:Int):Int:=Int.tdiv a b
def aLz(z:Bool)(k:IntKind)(v:Int):Option AV:=if z then none else some (.int k v)
theorem lI(k:IntKind)(v:Int):aLz false k v=some (.int k v):=rfl
theorem fH{k:IntKind}{a b:Int}:fL .rem k a k b=aLz (decide (b=0)) k (mR a b):=by
 by_cases h:b=0<;>simp[fL,aLz,h,mR]
theorem fI{k:IntKind}{a b:Int}:fL .quo k a k b=aLz (decide (b=0)) k (k.wrap (uV a b)):=by
 by_cases h:b=0<;>simp[fL,aLz,h,uV]
theorem fR(a b:Nat):mR (a:Int) (b:Int)=((a%b:Nat):Int):=by rw[mR,aD8 (by omega)];exact(Int.natCast_emod a b).symm

theorem aEW{a b:ByteArray}(h:a.size+b.size≤1000000):aP BinOp.add a b=some (.str (a++b)):=by
 have e:IntKind.i64.max=9223372036854775807:=by decide
 simp only[aP];rw[if_neg (by rw[e];omega)]
theorem pQ(l:List UInt8):(⟨⟨l⟩⟩:ByteArray).size=l.length:=rfl
end Go.Proofs.YtmapgnepfgnphaaGreatDoor
namespace Go.Proofs.YtmapgnepfgnphaaGreatDoor
open Go Go.DL
theorem mN{q0 q1 q2 q3 q4 q5 q6 q7 q8 q9 q10 q11 q12 q13 q14 q15 q16 q17 q18 q19 q20 q21 q22 q23 q24 q25 p:Prop}(x0:q0)(x1:q1)(x2:q2)(x3:q3)(x4:q4)(x5:q5)(x6:q6)(x7:q7)(x8:q8)(x9:q9)(x10:q10)(x11:q11)(x12:q12)(x13:q13)(x14:q14)(x15:q15)(x16:q16)(x17:q17)(x18:q18)(x19:q19)(x20:q20)(x21:q21)(x22:q22)(x23:q23)(x24:q24)(x25:q25)(h:q0→q1→q2→q3→q4→q5→q6→q7→q8→q9→q10→q11→q12→q13→q14→q15→q16→q17→q18→q19→q20→q21→q22→q23→q24→q25→p:=by intro x0 x1 x2 x3 x4 x5 x6 x7 x8 x9 x10 x11 x12 x13 x14 x15 x16 x17 x18 x19 x20 x21 x22 x23 x24 x25; (sym=>(simp[x0,x1,x2,x3,x4,x5,x6,x7,x8,x9,x10,x11,x12,x13,x14,x15,x16,x17,x18,x19,x20,x21,x22,x23,x24,x25,fH,fI,lI,Za,Zb,Zc,Zd,Ze,Zf,Zg,Zh,Zi,Zj,Zk,Zl,Zm,Zn,Zo,Zp,Zq,Zr,Zs,Zt,Zu,Zv,Zw,Zx,Zy,Zz,Z0,Z8,Z9,ZA,ZB,ZC,ZD,ZE,ZF,ZG,ZH,ZI,ZJ,ZK,ZL,ZM,ZN,ZO,ZP,ZQ,ZR,ZS,ZT,ZU,ZV,ZW,ZX,ZY,ZZ,Ya,Yb,Yc,Ye,Yf,Yg,Yh,Yi,Yj,Yk,Yl,Ym,Yn,Yo,Yp,Yq,Ys,Yt,Yu,Yv,Yw,Yx,Yy,Yz,Y4,Y5,Y6,Y7,Y8,Y9,YA,YB,YD,YE,YF,YG,YH,YJ,YK,YL,YM,YO,YP,YQ,YR,YU,YV,YX,YY,YZ,Xa,Xb,Xc,Xd,Xe,Xf,Xg,Xh,Xi,Xj,Xk,Xl,Xm,Xn,Xo,Xp,Xq,Xr,Xs,Xt,Xu,Xv,Xw,Xx,Xy,Xz,XI,XJ,XL,XM,XN,XO,XW,XX,XY,XZ,Wa,Wb,We,Wf,Wg,Wh,Wi,Wj,Wk,Wl,Wm,Wn,Wo,Wp,Wq,Wr,Wt,Wu,Wv,Ww,Wx,Wy,Wz,WB,WC,WE,WF,WG,WH,WI,WJ,WK,WL,WM,WN,WO,WP,WQ,WR,WT,WU,WV,WW,WX,Va,Vb,Vc,Vd,Ve,Vf,Vg,Vh,Vi,Vj,Vk,Vl,Vm,Vo,Vp,Vq,Vr,Vs,Vt,Vu,Vv,Vw,Vx,Vy,Vz,V0,V4,V5,V6,V7,V8,V9,VA,VB,VC,VD,VE,VF,VG,VH,VI,VJ,VK,VL,VM,VN,VO,VP,VQ,VR,VS,VT,VU,VV,VW,VX,VY,VZ,Ua,Ub,Uc,Ud,Ue,Uf,Ug,Uh,Ui,Uj,Uk,Ul,Um,Un,Uo,Ur,Us,Ut,Uu,Uv,Uw,Ux,Uy,Uz,U0,U1,U2,U3,U4,U5,U6,U7,U8,U9,UA,UB,UC,UD,UE,UF,UG,UH,UI,UJ,UK,UL,UM,UN,UO,UP,UQ,UR,US,UT,UU,UV,UW,UX,UY,UZ,Ta,Tb,Tc,Td,Te,Tf,Tg,Th,Ti,Tj,Tl,Tm,Tn,Tp,Tq,Tr,Ts,Tt,Tu,Tv,Tw,Tx,Ty,Tz,TA,TB,TC,TD,TE,TF,TG,TH,TI,TJ,TK,TL,TM,TN,TO,TP,TQ,TR,TS,TT,TU,TV,TW,TX,TY,TZ,Sa,Sc,Sd,Se,Sf,Sg,Si,Sj,Sk,Sl,Sm,Sn,Sp,Sq,Sr,Ss,Su,Sv,Sw,Sx,Sy,Sz,S2,S3,S4,S5,S6,S7,S8,S9,SA,SB,SC,SD,SE,SF,SG,SI,SJ,SK,SL,SM,SN,SO,SP,SQ,SS,SU,SV,SW,SX,SY,SZ,Ra,Rb,Rc,Re,Rf,Rg,Rh,Ri,Rj,Rk,Rl,Rm,Ro,Rp,Rq,Rr,Rs,Rt,Ru,Rw,Rx,Ry,Rz,R0,RA,RC,RF,RG,RH,RI,RJ,RK,RN,RO,RP,RQ,RR,RU,RV,RW,RX,RY,RZ,Qa,Qb,Qd,Qe,Qf,Qg,Qh,Qi,Qj,Qk,Ql,Qm,Qn,Qo,Qp,Qq,Qr,Qs,Qt,Qu,Qw,Qx,Qy,Qz,Q0,QA,QB,QD,QE,QF,QG,QH,QI,QJ,QK,QL,QM,QN,QO,QQ,QR,QS,QT,QU,QV,QW,QX,QY,QZ,Pa,Pb,Pc,Pd,Pe,Pf,Pg,Ph,Pj,Pk,Pl,Pm,Pn,Po,Pp,Pq,Pr,Ps,Pt,Pu,Pv,Pw,Px,Py,Pz,P0,P8,aID,aEx];all_goals tactic=>exact rfl))):p:=h x0 x1 x2 x3 x4 x5 x6 x7 x8 x9 x10 x11 x12 x13 x14 x15 x16 x17 x18 x19 x20 x21 x22 x23 x24 x25
theorem RT0{p:Prop}(h:p:=by exact mN aE aE aE aE aE aE aE aE aE aE aE aE aE aE aE aE aE aE aE aE aE aE aE aE aE aE):p:=h
theorem RT1{q0 p:Prop}(x0:q0)(h:q0→p:=by intro x0;exact mN @x0 aE aE aE aE aE aE aE aE aE aE aE aE aE aE aE aE aE aE aE aE aE aE aE aE aE):p:=h x0
theorem RT2{q0 q1 p:Prop}(x0:q0)(x1:q1)(h:q0→q1→p:=by intro x0 x1;exact mN @x0 @x1 aE aE aE aE aE aE aE aE aE aE aE aE aE aE aE aE aE aE aE aE aE aE aE aE):p:=h x0 x1
theorem RT3{q0 q1 q2 p:Prop}(x0:q0)(x1:q1)(x2:q2)(h:q0→q1→q2→p:=by intro x0 x1 x2;exact mN @x0 @x1 @x2 aE aE aE aE aE aE aE aE aE aE aE aE aE aE aE aE aE aE aE aE aE aE aE):p:=h x0 x1 x2
theorem RT4{q0 q1 q2 q3 p:Prop}(x0:q0)(x1:q1)(x2:q2)(x3:q3)(h:q0→q1→q2→q3→p:=by intro x0 x1 x2 x3;exact mN @x0 @x1 @x2 @x3 aE aE aE aE aE aE aE aE aE aE aE aE aE aE aE aE aE aE aE aE aE aE):p:=h x0 x1 x2 x3
theorem RT5{q0 q1 q2 q3 q4 p:Prop}(x0:q0)(x1:q1)(x2:q2)(x3:q3)(x4:q4)(h:q0→q1→q2→q3→q4→p:=by intro x0 x1 x2 x3 x4;exact mN @x0 @x1 @x2 @x3 @x4 aE aE aE aE aE aE aE aE aE aE aE aE aE aE aE aE aE aE aE aE aE):p:=h x0 x1 x2 x3 x4
theorem RT7{q0 q1 q2 q3 q4 q5 q6 p:Prop}(x0:q0)(x1:q1)(x2:q2)(x3:q3)(x4:q4)(x5:q5)(x6:q6)(h:q0→q1→q2→q3→q4→q5→q6→p:=by intro x0 x1 x2 x3 x4 x5 x6;exact mN @x0 @x1 @x2 @x3 @x4 @x5 @x6 aE aE aE aE aE aE aE aE aE aE aE aE aE aE aE aE aE aE aE):p:=h x0 x1 x2 x3 x4 x5 x6
theorem RT9{q0 q1 q2 q3 q4 q5 q6 q7 q8 p:Prop}(x0:q0)(x1:q1)(x2:q2)(x3:q3)(x4:q4)(x5:q5)(x6:q6)(x7:q7)(x8:q8)(h:q0→q1→q2→q3→q4→q5→q6→q7→q8→p:=by intro x0 x1 x2 x3 x4 x5 x6 x7 x8;exact mN @x0 @x1 @x2 @x3 @x4 @x5 @x6 @x7 @x8 aE aE aE aE aE aE aE aE aE aE aE aE aE aE aE aE aE):p:=h x0 x1 x2 x3 x4 x5 x6 x7 x8
theorem aWN{q0 q1 q2 q3 q4 q5 q6 q7 q8 q9 p:Prop}(x0:q0)(x1:q1)(x2:q2)(x3:q3)(x4:q4)(x5:q5)(x6:q6)(x7:q7)(x8:q8)(x9:q9)(h:q0→q1→q2→q3→q4→q5→q6→q7→q8→q9→p:=by intro x0 x1 x2 x3 x4 x5 x6 x7 x8 x9;exact mN @x0 @x1 @x2 @x3 @x4 @x5 @x6 @x7 @x8 @x9 aE aE aE aE aE aE aE aE aE aE aE aE aE aE aE aE):p:=h x0 x1 x2 x3 x4 x5 x6 x7 x8 x9
theorem xW{q0 q1 q2 q3 q4 q5 q6 q7 q8 q9 q10 q11 q12 p:Prop}(x0:q0)(x1:q1)(x2:q2)(x3:q3)(x4:q4)(x5:q5)(x6:q6)(x7:q7)(x8:q8)(x9:q9)(x10:q10)(x11:q11)(x12:q12)(h:q0→q1→q2→q3→q4→q5→q6→q7→q8→q9→q10→q11→q12→p:=by intro x0 x1 x2 x3 x4 x5 x6 x7 x8 x9 x10 x11 x12;exact mN @x0 @x1 @x2 @x3 @x4 @x5 @x6 @x7 @x8 @x9 @x10 @x11 @x12 aE aE aE aE aE aE aE aE aE aE aE aE aE):p:=h x0 x1 x2 x3 x4 x5 x6 x7 x8 x9 x10 x11 x12
theorem aKb{q0 q1 q2 q3 q4 q5 q6 q7 q8 q9 q10 q11 q12 q13 q14 q15 q16 q17 q18 q19 p:Prop}(x0:q0)(x1:q1)(x2:q2)(x3:q3)(x4:q4)(x5:q5)(x6:q6)(x7:q7)(x8:q8)(x9:q9)(x10:q10)(x11:q11)(x12:q12)(x13:q13)(x14:q14)(x15:q15)(x16:q16)(x17:q17)(x18:q18)(x19:q19)(h:q0→q1→q2→q3→q4→q5→q6→q7→q8→q9→q10→q11→q12→q13→q14→q15→q16→q17→q18→q19→p:=by intro x0 x1 x2 x3 x4 x5 x6 x7 x8 x9 x10 x11 x12 x13 x14 x15 x16 x17 x18 x19;exact mN @x0 @x1 @x2 @x3 @x4 @x5 @x6 @x7 @x8 @x9 @x10 @x11 @x12 @x13 @x14 @x15 @x16 @x17 @x18 @x19 aE aE aE aE aE aE):p:=h x0 x1 x2 x3 x4 x5 x6 x7 x8 x9 x10 x11 x12 x13 x14 x15 x16 x17 x18 x19
end Go.Proofs.YtmapgnepfgnphaaGreatDoor
namespace Go.Proofs.YtmapgnepfgnphaaGreatDoor
open Go Go.DL
section
variable{t:Nat}{f o:List Nat}
end

def txB(s:ByteArray):ByteArray:=qF s 4 44
def rdF(s:ByteArray):List Nat:=aZd (bN (txB s))
theorem aKO(a b:ByteArray):aP BinOp.eql a b=some (.bool (a.toList==b.toList)):=rfl
def aDM(s:ByteArray):List AV:=s.data.toList.map fun b=>.int .u8 (b.toNat:Int)
theorem aKM(s:ByteArray):s.data.toList.map (fun b=>AV.int .u8 (b.toNat:Int))=aDM s:=rfl
theorem aKN(s:ByteArray):(aDM s).length=s.size:=by
 unfold aDM;rw[B0,D5];rfl
theorem aOC(s:ByteArray):lA (aDM s)=true:=eL fun v hv=>by
 obtain⟨n,_,rfl⟩:=D8.1 hv;rfl
theorem aSa{α:Type}{g:α→AV}(hg:∀ a,iP (g a)=[])(l:List α):kW (l.map g)=[]:=by
 induction l with
 | nil=>rfl
 | cons a l ih=>show iP _++kW (l.map g)=[];rw[ih,hg];rfl
theorem aHS(s:ByteArray):kW (aDM s)=[]:=aSa (fun _=>rfl) _
theorem q35{vs:List AV}{h:XH}(hl:vs.length≤15):runW aD 35 vs h=qA none x35.res x35.ownR h.length (execW aD 35 h.length none x35.body (bM (if x35.ownA then vs else qD vs)) h):=vM rfl hl h rfl
theorem w35(lo n hi:Int):runW aD 35 [I lo,I n,I hi] []=some (.bool (decide (lo≤n)&&decide (n≤hi)),[]):=by
 rw[q35 (by simp)];unfold x35;dsimp only;rcases ptf (lo≤n)with h1|h1
 ·have d1:decide (lo≤n)=true:=by simp[h1]
  (exact RS2 h1 d1)
 ·have d1:decide (lo≤n)=false:=by simp[h1]
  (exact RS2 h1 d1)
theorem aQx(s:ByteArray):s.toList=s.data.toList:=ByteArray.toList_eq s
theorem aRo(a b:Nat):uV (a:Int) (b:Int)=((a/b:Nat):Int):=by
 rw[uV,aA2 (by omega)];exact(Int.natCast_ediv a b).symm
def rwS(s:ByteArray)(i:Nat):ByteArray:=qF s (i*45) ((i+1)*45)
def FnS(s:ByteArray):Nat→List Nat
 | 0=>[]
 | i+1=>FnS s i++rdF (rwS s i)
def setC(C:List Nat)(k:Nat)(f:List Nat):List Nat:=C.take (k*40)++(f++C.drop (k*40+40))
def tB(p i:Nat):AV:=if i=0 then .sl 0 0 40 p else .sl 1 0 40 p
theorem uY(a b:ByteArray):aP BinOp.neq a b=some (.bool (!decide (a=b))):=by
 show some (AV.bool (!(a.toList==b.toList)))=_;rw[aQx,aQx];congr 3;cases a with
 | mk x =>
   cases b with
   | mk y =>
     cases x with
     | mk x =>
       cases y with
       | mk y =>
         show (x==y)=decide ((⟨⟨x⟩⟩:ByteArray)=⟨⟨y⟩⟩);by_cases h:x=y;·subst h;simp
         ·have:¬((⟨⟨x⟩⟩:ByteArray)=⟨⟨y⟩⟩):=fun hh=>h (by injection hh with h1;injection h1)
          simp[h]
theorem aSM(s:ByteArray):(bN s).length=s.size:=by
 unfold bN;rw[B0,D5];rfl
end Go.Proofs.YtmapgnepfgnphaaGreatDoor
namespace Go.Proofs.YtmapgnepfgnphaaGreatDoor
open Go Go.DL
section
variable{ls:List ByteArray}{n:Nat}{s:ByteArray}
end
section
variable{ls:List ByteArray}{n:Nat}
end
end Go.Proofs.YtmapgnepfgnphaaGreatDoor
namespace Go.Proofs.YtmapgnepfgnphaaGreatDoor
open Go Go.DL
theorem oT(a b:ByteArray):aP BinOp.eql a b=some (.bool (decide (a=b))):=by
 have:=uY a b;rw[show aP BinOp.neq a b=some (AV.bool (!(a.toList==b.toList))) from rfl]at this;rw[aKO];simp only[oSI,AV.bool.injEq,Bool.not_inj_iff]at this;rw[this]
end Go.Proofs.YtmapgnepfgnphaaGreatDoor
namespace Go.Proofs.YtmapgnepfgnphaaGreatDoor
open Go Go.DL Go.ChangeShapes Go.WideShapes Go.ChangeAt Go.RowKit
theorem aAQ{H:Type}{enc:TypeId×Value→H}{a:Assume}{C:Checked}{os:Os}{f:FuncId}{fn:Func}{s:ChangeSpec}{X:World→Array Value→Prop}
 (hX:∀(w w':World)(args:Array Value),w.heap=w'.heap→X w args→X w' args)
 (own:ownKnob C.prog.godebug=none) (started:os.Started) (noInit:C.prog.inits.idxOf? f=none) (hfn:C.prog.funcs[f]?=some fn)
 (witness:∃(w:World)(tape:Tape)(i:Input),w.os=os∧(w.forCall tape i).Shaped C.prog∧i.vars=[]∧Input.okWide C.prog (w.forCall tape i) .any w.heap.size f i ∧
  ((s.pre enc C.prog fn [] false (w.forCall tape i).memory i.args∧X (w.forCall tape i).memory i.args)∧sizedMet enc C.prog fn (OpenSpec.ofChange s) false (w.forCall tape i).memory i.args)∧a.holds C.prog (lone (Frame.enter C.prog f i.args .normal) [] (w.forCall tape i)))
 (contract:∀(W:World)(base:Nat)(args:Array Value)(ds gs:List (DataW H))(before:List MemPlace),
  (∀(j:Nat) t v,fn.params[j]?=some t→args[j]?=some v→Value.okWide C.prog W .any base t v) →
  DataW.Whole enc C.prog fn.params.toList s.vars false W args.toList ds gs before→X W args→W.ShapedOpen C.prog →
  Calls C.prog f args W fun e W'=>∃ v,e = .returned v∧s.post enc C.prog fn false true false false W args v W') :
 ReturnsInHanded a C os f .any (fun w args=>(s.pre enc C.prog fn [] false w args∧X w args)∧sizedMet enc C.prog fn (OpenSpec.ofChange s) false w args) (s.post enc C.prog fn false true false false):=by
 refine returnsInHanded_of_calls own started noInit witness ?_;rintro w tape i _ hsh _ ⟨_,_,_,fn',hfn',_,_,_,_,hval⟩ ⟨⟨⟨ds,gs,before,hw,_⟩,hx⟩,_⟩ _;cases hfn'.symm.trans hfn;exact(contract _ _ _ ds gs before hval (DataW.Whole.of_heap (by rfl) hw) (hX _ _ _ (by rfl) hx) hsh).mono fun e W' ⟨v,he,hp⟩=>by
  subst he;exact ChangeSpec.post_blind hp
theorem aWB:Flat Tryz.prog 5 [.int .u8]:=.int Tryz.underlying5
theorem aHN{n:Int}(h:(Lit.int .u8 n).wf=true):∃ m:Nat,n=(m:Int)∧m<256:=by
 simp[Lit.wf,IntKind.bits,IntKind.signed,IntKind.min,IntKind.max]at h;exact⟨n.toNat,by omega,by omega⟩
theorem aFj{α:Type}{f:α→List AV}{r:List CT}(key:∀ row:List AV,row.length=r.length→(∀(i:Nat)(c:CT)(a:AV),r[i]?=some c→row[i]?=some a→Sh c a)→∃ x,row=f x):∀{rows:List (List AV)},(∀ row∈rows,row.length=r.length) →
 (∀ row∈rows,∀(i:Nat)(c:CT)(a:AV),r[i]?=some c→row[i]?=some a→Sh c a)→∃ l:List α,rows=l.map f
 | [],_,_=>⟨[],rfl⟩
 | a::rows,h1,h2=>by
   obtain⟨l,rfl⟩:=aFj key (rows:=rows) (fun row hr=>h1 row (by simp[hr])) (fun row hr=>h2 row (by simp[hr]));obtain⟨x,rfl⟩:=key a (h1 a (by simp)) (h2 a (by simp));exact⟨x::l,rfl⟩
theorem aUS{α:Type}{f:α→List AV}{r:List CT}(key:∀ row:List AV,row.length=r.length→(∀(i:Nat)(c:CT)(a:AV),r[i]?=some c→row[i]?=some a→Sh c a)→∃ x,row=f x){a:AV}(h:Sh (.sl r) a):∃ l:List α,a = .fs (l.map f)∧l.length≤maxLen:=by
 cases h with
 | sl _ rows h1 hn h2 =>
   obtain⟨l,rfl⟩:=aFj key h1 h2;exact⟨l,rfl,by simpa using hn⟩
theorem aNw{F:Nat→Prop}{w:World}:Args F w [] #[]:=⟨rfl,fun i a' v' h1 h2=>by simp at h1⟩
theorem aJZ{F:Nat→Prop}{w:World}{a:AV}{v:Value}{xs:List AV}{vs:List Value}(h:Rv F w a v)(hs:Args F w xs vs.toArray):Args F w (a::xs) (v::vs).toArray:=by
 refine⟨by have:=hs.1;simp at this ⊢;exact this,fun i a' v' h1 h2=>?_⟩;match i with
 | 0=>simp at h1 h2;rw[←h1,←h2];exact h
 | i+1 =>
   simp at h1 h2;exact hs.2 i a' v' h1 (by simpa using h2)
end Go.Proofs.YtmapgnepfgnphaaGreatDoor
namespace Go.Proofs.YtmapgnepfgnphaaGreatDoor
open Go Go.DL
section
variable{ls:List ByteArray}{n:Nat}
end
end Go.Proofs.YtmapgnepfgnphaaGreatDoor
namespace Go.Proofs.YtmapgnepfgnphaaGreatDoor
open Go Go.DL
theorem aDm(p:Nat→Bool):∀ n,∃ m,m≤n∧(∀ i,i<m→p i=true)∧(m=n∨(m<n∧p m=false))
 | 0=>⟨0,B7 _,fun i hi=>absurd hi (by omega),.inl rfl⟩
 | n+1=>by
   obtain⟨m,h1,h2,h3⟩:=aDm p n;rcases h3 with rfl|⟨h3,h4⟩
   ·cases hp:p m with
    | true=>exact⟨m+1,B7 _,fun i hi=>by
     by_cases him:i=m;·subst him;exact hp
     ·exact h2 i (by omega),.inl rfl⟩
    | false=>exact⟨m,by omega,h2,.inr ⟨by omega,hp⟩⟩
   ·exact⟨m,by omega,h2,.inr ⟨by omega,h4⟩⟩
theorem aWJ{s:ByteArray}{i:Nat}(h:i<s.size):∃ x,(bN s)[i]?=some x∧x<256∧((s.data.toList.getD i 0).toNat:Int)=(x:Int):=by
 have hl:i<s.data.toList.length:=by rw[D5];exact h
 have h0:s.data.toList[i]?=some (s.data.toList[i]'hl):=A7 hl;refine⟨(s.data.toList[i]'hl).toNat,?_,UInt8.toNat_lt _,?_⟩;·unfold bN;rw[A9,h0];rfl
 ·rw[A6,h0];rfl
def uB(i x:Nat):Bool:=(decide (97≤x)&&decide (x≤122))||(decide (i≠0)&&(decide (48≤x)&&decide (x≤57)))
def eZ(s:ByteArray):Bool:=decide (1≤s.size)&&(decide (s.size≤10)&&(List.range s.size).all fun i=>uB i ((bN s).getD i 0))
theorem aVg{s:ByteArray}{m:Nat}(h1:m≤s.size)(h2:∀ i,i<m→uB i ((bN s).getD i 0)=true)(h3:m=s.size∨(m<s.size∧uB m ((bN s).getD m 0)=false)):((List.range s.size).all fun i=>uB i ((bN s).getD i 0))=decide (m=s.size):=by
 rcases h3 with h3|⟨h3,h4⟩
 ·rw[AAk h3,C3]
  intro i hi;exact h2 i (by rw[h3];exact G4.1 hi)
 ·rw[AAl (by omega),List.all_eq_false]
  exact⟨m,G4.2 h3,by rw[h4];decide⟩
theorem aOD{s:ByteArray}{i x:Nat}(h:i<s.size)(hx:((s.data.toList.getD i 0).toNat:Int)=(x:Int)):(aDM s)[i]?=some (.int .u8 (x:Int)):=by
 unfold aDM;have hl:i<s.data.toList.length:=by rw[D5];exact h
 rw[A9,A7 hl];rw[A6,A7 hl]at hx;simp only[B9,F6]at hx ⊢;rw[hx]
theorem w85{s:ByteArray}(hs:s.size≤1000000):runW aD 85 [.str s] []=some (.bool (eZ s),[]):=by
 rw[qX 85 x85 rfl];unfold x85;dsimp only;have bl:=aSM s;obtain⟨m,m1,m2,m3⟩:=aDm (fun i=>uB i ((bN s).getD i 0)) s.size;have hp:=aVg m1 m2 m3;have e0:((s.size:Int)<(s.size:Int))=False:=AAb;have at0:∀ i,i<s.size→∃ x,(bN s).getD i 0=x∧x<256∧(aDM s)[i]?=some (.int .u8 (x:Int)):=fun i hi=>by
  obtain⟨x,h1,h2,h3⟩:=aWJ hi;exact⟨x,by rw[A6,h1];rfl,h2,aOD hi h3⟩
 have bad:m<s.size→uB m ((bN s).getD m 0)=false:=fun h=>m3.elim (fun e=>by omega) fun h=>h.2;have lc:=aKN s;have gr:=aOC s;have raw:=aKM s;have hv:eZ s=(decide (1≤s.size)&&(decide (s.size≤10)&&decide (m=s.size))):=by unfold eZ;rw[hp]
 rw[hv];sym =>
  simp[Za,Zb,Zf,Zh,Zl,Zm,Zo,Zv,ZS,ZV,Yy,Vh,VI,UV,Te,Ti,Tp,TU,TV,SB,SJ,SN,SO,SX,SY,Ru,Rw,raw]
  tactic =>
   unfold aQn;rw[cS m (fun i=>[.str s,.sl 0 0 1 s.size,I (s.size:Nat),I (i:Nat)]) (fun _=>[some (.blk true (.cells true (aDM s)))])]
   ·by_cases hm:m=s.size
    ·rw[AAk hm,hm]
     by_cases z:s.size=0
     ·have d1:decide (1≤s.size)=false:=AAl (by omega)
      have z1:((0:Int)<(s.size:Int))=False:=AAb;rw[d1];(exact zY e0 z1 lc gr)
     ·have d1:decide (1≤s.size)=true:=AAk (by omega)
      have z1:((0:Int)<(s.size:Int))=True:=AAa;rw[d1];by_cases z2:s.size≤10
      ·have d2:decide (s.size≤10)=true:=AAk z2
       have z3:((s.size:Int)≤10)=True:=AAa;rw[d2];(exact RS5 e0 z1 z3 lc gr)
      ·have d2:decide (s.size≤10)=false:=AAl z2
       have z3:((s.size:Int)≤10)=False:=AAb;rw[d2];(exact RS5 e0 z1 z3 lc gr)
    ·rw[AAl hm,aF7,aF7]
     have hm':m<s.size:=by omega
     obtain⟨x,x1,x2,x3⟩:=at0 m hm';have hb:=bad hm';rw[x1]at hb;have i1:((m:Int)<(s.size:Int))=True:=AAa;have i2:(m<s.size)=True:=AAm hm';by_cases cA:x<97
     ·skip
      by_cases cC:m=0
      ·skip
       have tA:((x:Int)<97)=True:=AAa;have tC:((m:Int)=0)=True:=AAa;(exact RS7 i1 i2 x3 lc gr tA tC)
      ·skip
       by_cases cD:x<48
       ·skip
        have tA:((x:Int)<97)=True:=AAa;have tC:((m:Int)=0)=False:=AAb;have tD:((x:Int)<48)=True:=AAa;(exact RS9 i1 i2 x3 lc gr tA tC tD aE)
       ·skip
        by_cases cE:57<x
        ·skip
         have tA:((x:Int)<97)=True:=AAa;have tC:((m:Int)=0)=False:=AAb;have tD:((x:Int)<48)=False:=AAb;have tE:((57:Int)<(x:Int))=True:=AAa;(exact RS9 i1 i2 x3 lc gr tA tC tD tE)
        ·skip
         have tA:((x:Int)<97)=True:=AAa;have tC:((m:Int)=0)=False:=AAb;have tD:((x:Int)<48)=False:=AAb;have tE:((57:Int)<(x:Int))=False:=AAb;exfalso;revert hb;simp[uB]<;>(intros;omega)
     ·skip
      by_cases cB:122<x
      ·skip
       by_cases cC:m=0
       ·skip
        have tA:((x:Int)<97)=False:=AAb;have tB:((122:Int)<(x:Int))=True:=AAa;have tC:((m:Int)=0)=True:=AAa;(exact RS9 i1 i2 x3 lc gr tA tB tC aE)
       ·skip
        by_cases cD:x<48
        ·skip
         exfalso;omega
        ·skip
         by_cases cE:57<x
         ·skip
          have tA:((x:Int)<97)=False:=AAb;have tB:((122:Int)<(x:Int))=True:=AAa;have tC:((m:Int)=0)=False:=AAb;have tD:((x:Int)<48)=False:=AAb;have tE:((57:Int)<(x:Int))=True:=AAa;(exact xY i1 i2 x3 lc gr tA tB tC tD tE)
         ·skip
          exfalso;omega
      ·skip
       have tA:((x:Int)<97)=False:=AAb;have tB:((122:Int)<(x:Int))=False:=AAb;exfalso;revert hb;simp[uB]<;>(intros;omega)
   ·have n0:=aHS s
    (exact zY raw lc gr n0)
   ·intro i hi
    have hi':i<s.size:=by omega
    obtain⟨x,x1,x2,x3⟩:=at0 i hi';have hb:=m2 i hi;rw[x1]at hb;have i1:((i:Int)<(s.size:Int))=True:=AAa;have i2:(i<s.size)=True:=AAm hi';have a2:=pP (n:=s.size) (i:=i) (by omega) (by omega);have n0:=aHS s;by_cases cA:x<97
    ·skip
     by_cases cC:i=0
     ·skip
      have tA:((x:Int)<97)=True:=AAa;have tC:((i:Int)=0)=True:=AAa;exfalso;revert hb;simp[uB]<;>(intros;omega)
     ·skip
      by_cases cD:x<48
      ·skip
       have tA:((x:Int)<97)=True:=AAa;have tC:((i:Int)=0)=False:=AAb;have tD:((x:Int)<48)=True:=AAa;exfalso;revert hb;simp[uB]<;>(intros;omega)
      ·skip
       by_cases cE:57<x
       ·skip
        have tA:((x:Int)<97)=True:=AAa;have tC:((i:Int)=0)=False:=AAb;have tD:((x:Int)<48)=False:=AAb;have tE:((57:Int)<(x:Int))=True:=AAa;exfalso;revert hb;simp[uB]<;>(intros;omega)
       ·skip
        have tA:((x:Int)<97)=True:=AAa;have tC:((i:Int)=0)=False:=AAb;have tD:((x:Int)<48)=False:=AAb;have tE:((57:Int)<(x:Int))=False:=AAb;(exact aBY i1 i2 a2 x3 lc gr n0 tA tC tD tE aE aE)
    ·skip
     by_cases cB:122<x
     ·skip
      by_cases cC:i=0
      ·skip
       have tA:((x:Int)<97)=False:=AAb;have tB:((122:Int)<(x:Int))=True:=AAa;have tC:((i:Int)=0)=True:=AAa;exfalso;revert hb;simp[uB]<;>(intros;omega)
      ·skip
       by_cases cD:x<48
       ·skip
        exfalso;omega
       ·skip
        by_cases cE:57<x
        ·skip
         have tA:((x:Int)<97)=False:=AAb;have tB:((122:Int)<(x:Int))=True:=AAa;have tC:((i:Int)=0)=False:=AAb;have tD:((x:Int)<48)=False:=AAb;have tE:((57:Int)<(x:Int))=True:=AAa;exfalso;revert hb;simp[uB]<;>(intros;omega)
        ·skip
         exfalso;omega
     ·skip
      have tA:((x:Int)<97)=False:=AAb;have tB:((122:Int)<(x:Int))=False:=AAb;(exact RS9 i1 i2 a2 x3 lc gr n0 tA tB)
   ·by_cases hm:m=s.size
    ·rw[hm]
     (exact eD e0)
    ·have hm':m<s.size:=by omega
     obtain⟨x,x1,x2,x3⟩:=at0 m hm';have hb:=bad hm';rw[x1]at hb;have i1:((m:Int)<(s.size:Int))=True:=AAa;have i2:(m<s.size)=True:=AAm hm';by_cases cA:x<97
     ·skip
      by_cases cC:m=0
      ·skip
       have tA:((x:Int)<97)=True:=AAa;have tC:((m:Int)=0)=True:=AAa;(exact RS7 i1 i2 x3 lc gr tA tC)
      ·skip
       by_cases cD:x<48
       ·skip
        have tA:((x:Int)<97)=True:=AAa;have tC:((m:Int)=0)=False:=AAb;have tD:((x:Int)<48)=True:=AAa;(exact RS9 i1 i2 x3 lc gr tA tC tD aE)
       ·skip
        by_cases cE:57<x
        ·skip
         have tA:((x:Int)<97)=True:=AAa;have tC:((m:Int)=0)=False:=AAb;have tD:((x:Int)<48)=False:=AAb;have tE:((57:Int)<(x:Int))=True:=AAa;(exact RS9 i1 i2 x3 lc gr tA tC tD tE)
        ·skip
         have tA:((x:Int)<97)=True:=AAa;have tC:((m:Int)=0)=False:=AAb;have tD:((x:Int)<48)=False:=AAb;have tE:((57:Int)<(x:Int))=False:=AAb;exfalso;revert hb;simp[uB]<;>(intros;omega)
     ·skip
      by_cases cB:122<x
      ·skip
       by_cases cC:m=0
       ·skip
        have tA:((x:Int)<97)=False:=AAb;have tB:((122:Int)<(x:Int))=True:=AAa;have tC:((m:Int)=0)=True:=AAa;(exact RS9 i1 i2 x3 lc gr tA tB tC aE)
       ·skip
        by_cases cD:x<48
        ·skip
         exfalso;omega
        ·skip
         by_cases cE:57<x
         ·skip
          have tA:((x:Int)<97)=False:=AAb;have tB:((122:Int)<(x:Int))=True:=AAa;have tC:((m:Int)=0)=False:=AAb;have tD:((x:Int)<48)=False:=AAb;have tE:((57:Int)<(x:Int))=True:=AAa;(exact xY i1 i2 x3 lc gr tA tB tC tD tE)
         ·skip
          exfalso;omega
      ·skip
       have tA:((x:Int)<97)=False:=AAb;have tB:((122:Int)<(x:Int))=False:=AAb;exfalso;revert hb;simp[uB]<;>(intros;omega)
theorem uQ(n:Int):runW aD 58 [.bool true,I n] []=some (.tup [],[]):=by
 rw[qX 58 x58 rfl];unfold x58;dsimp only;(exact zF)
theorem c58(n:Int)(h:XH):CalP Tryz.prog aD 58 [.bool false,I n] h (.ifc 110 (.agg [I n])) h:=fun B Y r H as' _ sh hA=>aVd progX_ok.mixed .i64 n sh hA
def ent(ks:List ByteArray)(es:List Nat):List (AV×AV):=List.zipWith (fun k e=>(AV.str k,AV.pt e 0)) ks es
def dE:List ByteArray→ByteArray→Option Nat
 | [],_=>none
 | k::r,x=>if k=x then some 0 else (dE r x).map (· + 1)
theorem eY{x:ByteArray}:∀{ks:List ByteArray}{i:Nat},dE ks x=some i→ks[i]?=some x
 | [],_,h=>by cases h
 | k::r,i,h=>by
   unfold dE at h;split at h;·rename_i hk;cases h;rw[hk];rfl
   ·rw[A0]at h
    obtain⟨j,hj,rfl⟩:=h;rw[E9];exact eY hj
theorem iM{x:ByteArray}:∀{ks:List ByteArray},dE ks x=none↔x∉ks
 | []=>by simp[dE]
 | k::r=>by
   unfold dE;split;·rename_i hk;simp[hk]
   ·rename_i hk
    rw[O5,iM,B4,not_or];exact⟨fun h=>⟨fun e=>hk e.symm,h⟩,fun h=>h.2⟩
theorem aEm{x:ByteArray}{ks:List ByteArray}(h:x∈ks):∃ i,dE ks x=some i:=by
 cases hn:dE ks x with
 | none=>exact absurd h (iM.1 hn)
 | some i=>exact⟨i,rfl⟩
theorem aIM(a b:ByteArray):(a==b)=decide (a=b):=by
 by_cases h:a=b;·rw[AAk h];exact(sX a b).2 h
 ·rw[AAl h];exact aE0.2 fun e=>h ((sX a b).1 e)
theorem mJ{x:ByteArray}:∀{ks:List ByteArray}{es:List Nat},ks.length=es.length→bK true (.str x) (ent ks es)=some (((dE ks x).bind fun i=>es[i]?).map fun e=>.pt e 0)
 | [],[],_=>rfl
 | k::ks,e::es,h=>by
   have ih:=mJ (x:=x) (ks:=ks) (es:=es) (by simpa using h);show (match iZ true (.str x) (.str k)with
    | some true=>some (some (AV.pt e 0))
    | some false=>bK true (.str x) (ent ks es)
    | none=>none)=_
   have hk:iZ true (.str x) (.str k)=some (decide (x=k)):=AAq some (aIM x k);rw[hk];unfold dE;by_cases hx:x=k;·rw[AAk hx,if_pos hx.symm];rfl
   ·rw[AAl hx,if_neg (fun e=>hx e.symm),ih]
    cases dE ks x<;>rfl
theorem vR{x:ByteArray}{v:AV}:∀{ks:List ByteArray}{es:List Nat},ks.length=es.length→dE ks x=none→iK true (.str x) v (ent ks es)=some (ent ks es++[(.str x,v)])
 | [],[],_,_=>rfl
 | k::ks,e::es,h,hn=>by
   have hx:¬x=k:=fun e=>(iM.1 hn) (by simp[e]);have hn2:dE ks x=none:=iM.2 fun hm=>(iM.1 hn) (by simp[hm]);have ih:=vR (x:=x) (v:=v) (ks:=ks) (es:=es) (by simpa using h) hn2;show (match iZ true (.str x) (.str k)with
    | some true=>some ((AV.str k,v)::ent ks es)
    | some false=>(iK true (.str x) v (ent ks es)).map ((AV.str k,AV.pt e 0) :: ·)
    | none=>none)=_
   have hk:iZ true (.str x) (.str k)=some (decide (x=k)):=AAq some (aIM x k);rw[hk,AAl hx,ih];rfl
theorem rX{ks:List ByteArray}{es:List Nat}(h:ks.length=es.length)(x:ByteArray)(e:Nat):ent (ks++[x]) (es++[e])=ent ks es++[(.str x,.pt e 0)]:=by
 unfold ent;rw[List.zipWith_append h];rfl
def iC(b n:Nat):AV:=if n=0 then .nilsl else .sl b 0 1 n

theorem w95{h:XH}{o m e:Nat}{g g2:Bool}{a b:AV}{es:List (AV×AV)}{x:ByteArray}(ho:hat h o=some (.blk g (.cells true [a,.mp m,b])))(hm:hat h m=some (.blk g2 (.map true es)))(hf:bK true (.str x) es=some (some (.pt e 0))) :
 runW aD 95 [.pt o 0,.str x] h=some (.pt e 0,h):=by
 rw[qY 95 x95 rfl];unfold x95;dsimp only;have c:=uQ 5;(exact zY ho hm hf c)
theorem c95{h:XH}{o m:Nat}{g g2:Bool}{a b:AV}{es:List (AV×AV)}{x:ByteArray}(ho:hat h o=some (.blk g (.cells true [a,.mp m,b])))(hm:hat h m=some (.blk g2 (.map true es)))(hf:bK true (.str x) es=some none) :
 CalP Tryz.prog aD 95 [.pt o 0,.str x] h (.ifc 110 (.agg [I 5])) h:=by
 refine CalP.of (d:=x95) (e':=bW [] []) aA rfl (by simp[x95]) rfl ?_;unfold x95;dsimp only;refine PanX.seqR (K:=95) aA rfl [0,1] (vs:=[.pt o 0,.str x]) (h1:=h) (by (exact zF)) ?_;refine PanX.seqR (K:=95) aA rfl [5] (vs:=[.nilpt]) (h1:=h) (by (exact RS3 ho hm hf)) ?_;refine PanX.seqL ?_;exact PanX.reg (p:=[⟨0,some 12,.mv (.t 5),none⟩,⟨0,some 13,.eqn 3 true (.t 12) (.c .nilpt),none⟩]) (post:=[]) aA [] (g:=58) (first:=[]) (cap:=[]) (args:=[.bool false,I 5]) (vs:=[]) (h1:=h) rfl rfl (by (exact zF)) (c58 5 h)
theorem w96{h:XH}{o m e:Nat}{g g2:Bool}{a b:AV}{es:List (AV×AV)}{x:ByteArray}(ho:hat h o=some (.blk g (.cells true [a,.mp m,b])))(hm:hat h m=some (.blk g2 (.map true es)))(hf:bK true (.str x) es=some (some (.pt e 0))) :
 runW aD 96 [.pt o 0,.str x] h=some (.pt e 0,h):=by
 rw[qY 96 x96 rfl];unfold x96;dsimp only;have c:=uQ 5;(exact zY ho hm hf c)
theorem c96{h:XH}{o m:Nat}{g g2:Bool}{a b:AV}{es:List (AV×AV)}{x:ByteArray}(ho:hat h o=some (.blk g (.cells true [a,.mp m,b])))(hm:hat h m=some (.blk g2 (.map true es)))(hf:bK true (.str x) es=some none) :
 CalP Tryz.prog aD 96 [.pt o 0,.str x] h (.ifc 110 (.agg [I 5])) h:=by
 refine CalP.of (d:=x96) (e':=bW [] []) aA rfl (by simp[x96]) rfl ?_;unfold x96;dsimp only;refine PanX.seqR (K:=96) aA rfl [0,1] (vs:=[.pt o 0,.str x]) (h1:=h) (by (exact zF)) ?_;refine PanX.seqR (K:=96) aA rfl [5] (vs:=[.nilpt]) (h1:=h) (by (exact RS3 ho hm hf)) ?_;refine PanX.seqL ?_;exact PanX.reg (p:=[⟨0,some 12,.mv (.t 5),none⟩,⟨0,some 13,.eqn 3 true (.t 12) (.c .nilpt),none⟩]) (post:=[]) aA [] (g:=58) (first:=[]) (cap:=[]) (args:=[.bool false,I 5]) (vs:=[]) (h1:=h) rfl rfl (by (exact zF)) (c58 5 h)
theorem w97{h:XH}{o m e:Nat}{g g2:Bool}{a b:AV}{es:List (AV×AV)}{x:ByteArray}(ho:hat h o=some (.blk g (.cells true [a,.mp m,b])))(hm:hat h m=some (.blk g2 (.map true es)))(hf:bK true (.str x) es=some (some (.pt e 0))) :
 runW aD 97 [.pt o 0,.str x] h=some (.pt e 0,h):=by
 rw[qY 97 x97 rfl];unfold x97;dsimp only;have c:=uQ 5;(exact zY ho hm hf c)
theorem c97{h:XH}{o m:Nat}{g g2:Bool}{a b:AV}{es:List (AV×AV)}{x:ByteArray}(ho:hat h o=some (.blk g (.cells true [a,.mp m,b])))(hm:hat h m=some (.blk g2 (.map true es)))(hf:bK true (.str x) es=some none) :
 CalP Tryz.prog aD 97 [.pt o 0,.str x] h (.ifc 110 (.agg [I 5])) h:=by
 refine CalP.of (d:=x97) (e':=bW [] []) aA rfl (by simp[x97]) rfl ?_;unfold x97;dsimp only;refine PanX.seqR (K:=97) aA rfl [0,1] (vs:=[.pt o 0,.str x]) (h1:=h) (by (exact zF)) ?_;refine PanX.seqR (K:=97) aA rfl [5] (vs:=[.nilpt]) (h1:=h) (by (exact RS3 ho hm hf)) ?_;refine PanX.seqL ?_;exact PanX.reg (p:=[⟨0,some 12,.mv (.t 5),none⟩,⟨0,some 13,.eqn 3 true (.t 12) (.c .nilpt),none⟩]) (post:=[]) aA [] (g:=58) (first:=[]) (cap:=[]) (args:=[.bool false,I 5]) (vs:=[]) (h1:=h) rfl rfl (by (exact zF)) (c58 5 h)
def qB(h:XH)(o m:Nat)(t:AV)(x:ByteArray)(es:List (AV×AV))(z:List AV):XH :=
 (h.set o (some (.blk false (.cells true [.sl (h.length+1) 0 1 1,.mp m,t])))).set m (some (.blk false (.map true (es++[(.str x,.pt (h.length+2) 0)]))))++[some (.blk true (.cells true [.str x])),some (.blk true (.cells true [.str x])),some (.blk true (.cells true z))]
def qC(h:XH)(o m b:Nat)(t:AV)(x:ByteArray)(cs:List AV)(g3:Bool)(es:List (AV×AV))(z:List AV):XH :=
 ((h.set b none).set o (some (.blk false (.cells true [.sl (h.length+1) 0 1 (cs.length+1),.mp m,t])))).set m (some (.blk false (.map true (es++[(.str x,.pt (h.length+2) 0)]))))++[some (.blk true (.cells true [.str x])),some (.blk g3 (.cells true (cs++[.str x]))),some (.blk true (.cells true z))]
theorem aWW{h:XH}{o m e:Nat}{g g2:Bool}{a b:AV}{es:List (AV×AV)}{x:ByteArray}(ho:hat h o=some (.blk g (.cells true [a,.mp m,b])))(hm:hat h m=some (.blk g2 (.map true es)))(hf:bK true (.str x) es=some (some (.pt e 0))) :
 runW aD 87 [.pt o 0,.str x] h=some (.bool false,h):=by
 rw[qY 87 x87 rfl];unfold x87;dsimp only;(exact RS3 ho hm hf)
theorem aWV{h:XH}{o m:Nat}{g g2:Bool}{t:Int}{es:List (AV×AV)}{x:ByteArray}(ho:hat h o=some (.blk g (.cells true [.nilsl,.mp m,I t])))(hm:hat h m=some (.blk g2 (.map true es)))(hf:bK true (.str x) es=some none)(ht:((0:Int)=t)=False) :
 runW aD 87 [.pt o 0,.str x] h=some (.bool false,h):=by
 rw[qY 87 x87 rfl];unfold x87;dsimp only;(exact zY ho hm hf ht)
theorem aTx{h:XH}{o m b n:Nat}{g g2:Bool}{t:Int}{es:List (AV×AV)}{x:ByteArray}{w:Bool}(ho:hat h o=some (.blk g (.cells true [.sl b 0 1 n,.mp m,I t])))(hm:hat h m=some (.blk g2 (.map true es)))(hf:bK true (.str x) es=some none)(ht:((n:Int)=t)=if w then True else False) :
 runW aD 87 [.pt o 0,.str x] h=some (.bool w,h):=by
 rw[qY 87 x87 rfl];unfold x87;dsimp only;cases w<;>(exact zY ho hm hf ht)

theorem aWT{h:XH}{o m n:Nat}{g g2:Bool}{t:AV}{es:List (AV×AV)}{x:ByteArray}(hn:h.length=n)(on:(o<n)=True)(mn:(m<n)=True)(om:(o=m)=False)(mo:(m=o)=False)
 (ho:hat h o=some (.blk g (.cells true [.nilsl,.mp m,t]))) (hm:hat h m=some (.blk g2 (.map true es))) (hf:bK true (.str x) es=some none) (hp:iK true (.str x) (.pt (n+2) 0) es=some (es++[(.str x,.pt (n+2) 0)])) (hf2:bK true (.str x) (es++[(.str x,.pt (n+2) 0)])=some (some (.pt (n+2) 0))) :
 runW aD 89 [.pt o 0,.str x] h=some (.tup [.pt (n+2) 0,.bool true],qB h o m t x es [I 0]):=by
 rw[qY 89 x89 rfl];unfold x89 qB;dsimp only;(exact xY ho hm hf hn on mn om mo hp hf2)
theorem aWU{h:XH}{o m n b z:Nat}{g g2 g3:Bool}{t:AV}{cs:List AV}{es:List (AV×AV)}{x:ByteArray}(hn:h.length=n)(on:(o<n)=True)(mn:(m<n)=True)(bn:(b<n)=True)(om:(o=m)=False)(mo:(m=o)=False)(ob:(o=b)=False)(bo:(b=o)=False)(bm:(b=m)=False)(mb:(m=b)=False)
 (ho:hat h o=some (.blk g (.cells true [.sl b 0 1 z,.mp m,t]))) (hb:hat h b=some (.blk g3 (.cells true cs))) (hz:cs.length=z) (hz1:((z+1)*16≤1099511627776)=True) (hz2:(z+1≤1099511627776)=True) (hm:hat h m=some (.blk g2 (.map true es))) (hf:bK true (.str x) es=some none) (hp:iK true (.str x) (.pt (n+2) 0) es=some (es++[(.str x,.pt (n+2) 0)])) (hf2:bK true (.str x) (es++[(.str x,.pt (n+2) 0)])=some (some (.pt (n+2) 0))) :
 runW aD 89 [.pt o 0,.str x] h=some (.tup [.pt (n+2) 0,.bool true],qC h o m b t x cs g3 es [I 0]):=by
 rw[qY 89 x89 rfl];unfold x89 qC;dsimp only;(exact xX ho hm hf hn on mn om mo hp hf2 bn ob bo bm mb hb hz hz1 hz2 aE)
theorem aTO{h:XH}{o m e:Nat}{g g2:Bool}{a b:AV}{es:List (AV×AV)}{x:ByteArray}(ho:hat h o=some (.blk g (.cells true [a,.mp m,b])))(hm:hat h m=some (.blk g2 (.map true es)))(hf:bK true (.str x) es=some (some (.pt e 0))) :
 runW aD 131 [.pt o 0,.str x] h=some (.bool false,h):=by
 rw[qY 131 aEO rfl];unfold aEO;dsimp only;(exact RS3 ho hm hf)
theorem aTN{h:XH}{o m:Nat}{g g2:Bool}{t:Int}{es:List (AV×AV)}{x:ByteArray}(ho:hat h o=some (.blk g (.cells true [.nilsl,.mp m,I t])))(hm:hat h m=some (.blk g2 (.map true es)))(hf:bK true (.str x) es=some none)(ht:((0:Int)=t)=False) :
 runW aD 131 [.pt o 0,.str x] h=some (.bool false,h):=by
 rw[qY 131 aEO rfl];unfold aEO;dsimp only;(exact zY ho hm hf ht)
theorem aQw{h:XH}{o m b n:Nat}{g g2:Bool}{t:Int}{es:List (AV×AV)}{x:ByteArray}{w:Bool}(ho:hat h o=some (.blk g (.cells true [.sl b 0 1 n,.mp m,I t])))(hm:hat h m=some (.blk g2 (.map true es)))(hf:bK true (.str x) es=some none)(ht:((n:Int)=t)=if w then True else False) :
 runW aD 131 [.pt o 0,.str x] h=some (.bool w,h):=by
 rw[qY 131 aEO rfl];unfold aEO;dsimp only;cases w<;>(exact zY ho hm hf ht)

theorem aTM{h:XH}{o m e:Nat}{g g2:Bool}{a b:AV}{es:List (AV×AV)}{x:ByteArray}(ho:hat h o=some (.blk g (.cells true [a,.mp m,b])))(hm:hat h m=some (.blk g2 (.map true es)))(hf:bK true (.str x) es=some (some (.pt e 0))) :
 runW aD 133 [.pt o 0,.str x] h=some (.tup [.pt e 0,.bool false],h):=by
 rw[qY 133 aEN rfl];unfold aEN;dsimp only;(exact RS3 ho hm hf)
theorem aTK{h:XH}{o m n:Nat}{g g2:Bool}{t:AV}{es:List (AV×AV)}{x:ByteArray}(hn:h.length=n)(on:(o<n)=True)(mn:(m<n)=True)(om:(o=m)=False)(mo:(m=o)=False)
 (ho:hat h o=some (.blk g (.cells true [.nilsl,.mp m,t]))) (hm:hat h m=some (.blk g2 (.map true es))) (hf:bK true (.str x) es=some none) (hp:iK true (.str x) (.pt (n+2) 0) es=some (es++[(.str x,.pt (n+2) 0)])) (hf2:bK true (.str x) (es++[(.str x,.pt (n+2) 0)])=some (some (.pt (n+2) 0))) :
 runW aD 133 [.pt o 0,.str x] h=some (.tup [.pt (n+2) 0,.bool true],qB h o m t x es [I 0,I 0]):=by
 rw[qY 133 aEN rfl];unfold aEN qB;dsimp only;(exact xY ho hm hf hn on mn om mo hp hf2)
theorem aTL{h:XH}{o m n b z:Nat}{g g2 g3:Bool}{t:AV}{cs:List AV}{es:List (AV×AV)}{x:ByteArray}(hn:h.length=n)(on:(o<n)=True)(mn:(m<n)=True)(bn:(b<n)=True)(om:(o=m)=False)(mo:(m=o)=False)(ob:(o=b)=False)(bo:(b=o)=False)(bm:(b=m)=False)(mb:(m=b)=False)
 (ho:hat h o=some (.blk g (.cells true [.sl b 0 1 z,.mp m,t]))) (hb:hat h b=some (.blk g3 (.cells true cs))) (hz:cs.length=z) (hz1:((z+1)*16≤1099511627776)=True) (hz2:(z+1≤1099511627776)=True) (hm:hat h m=some (.blk g2 (.map true es))) (hf:bK true (.str x) es=some none) (hp:iK true (.str x) (.pt (n+2) 0) es=some (es++[(.str x,.pt (n+2) 0)])) (hf2:bK true (.str x) (es++[(.str x,.pt (n+2) 0)])=some (some (.pt (n+2) 0))) :
 runW aD 133 [.pt o 0,.str x] h=some (.tup [.pt (n+2) 0,.bool true],qC h o m b t x cs g3 es [I 0,I 0]):=by
 rw[qY 133 aEN rfl];unfold aEN qC;dsimp only;(exact xX ho hm hf hn on mn om mo hp hf2 bn ob bo bm mb hb hz hz1 hz2 aE)
theorem aTJ{h:XH}{o m e:Nat}{g g2:Bool}{a b:AV}{es:List (AV×AV)}{x:ByteArray}(ho:hat h o=some (.blk g (.cells true [a,.mp m,b])))(hm:hat h m=some (.blk g2 (.map true es)))(hf:bK true (.str x) es=some (some (.pt e 0))) :
 runW aD 134 [.pt o 0,.str x] h=some (.bool false,h):=by
 rw[qY 134 aEM rfl];unfold aEM;dsimp only;(exact RS3 ho hm hf)
theorem aTI{h:XH}{o m:Nat}{g g2:Bool}{t:Int}{es:List (AV×AV)}{x:ByteArray}(ho:hat h o=some (.blk g (.cells true [.nilsl,.mp m,I t])))(hm:hat h m=some (.blk g2 (.map true es)))(hf:bK true (.str x) es=some none)(ht:((0:Int)=t)=False) :
 runW aD 134 [.pt o 0,.str x] h=some (.bool false,h):=by
 rw[qY 134 aEM rfl];unfold aEM;dsimp only;(exact zY ho hm hf ht)
theorem aQv{h:XH}{o m b n:Nat}{g g2:Bool}{t:Int}{es:List (AV×AV)}{x:ByteArray}{w:Bool}(ho:hat h o=some (.blk g (.cells true [.sl b 0 1 n,.mp m,I t])))(hm:hat h m=some (.blk g2 (.map true es)))(hf:bK true (.str x) es=some none)(ht:((n:Int)=t)=if w then True else False) :
 runW aD 134 [.pt o 0,.str x] h=some (.bool w,h):=by
 rw[qY 134 aEM rfl];unfold aEM;dsimp only;cases w<;>(exact zY ho hm hf ht)

theorem aTH{h:XH}{o m e:Nat}{g g2:Bool}{a b:AV}{es:List (AV×AV)}{x:ByteArray}(ho:hat h o=some (.blk g (.cells true [a,.mp m,b])))(hm:hat h m=some (.blk g2 (.map true es)))(hf:bK true (.str x) es=some (some (.pt e 0))) :
 runW aD 136 [.pt o 0,.str x] h=some (.tup [.pt e 0,.bool false],h):=by
 rw[qY 136 aEL rfl];unfold aEL;dsimp only;(exact RS3 ho hm hf)
theorem aTF{h:XH}{o m n:Nat}{g g2:Bool}{t:AV}{es:List (AV×AV)}{x:ByteArray}(hn:h.length=n)(on:(o<n)=True)(mn:(m<n)=True)(om:(o=m)=False)(mo:(m=o)=False)
 (ho:hat h o=some (.blk g (.cells true [.nilsl,.mp m,t]))) (hm:hat h m=some (.blk g2 (.map true es))) (hf:bK true (.str x) es=some none) (hp:iK true (.str x) (.pt (n+2) 0) es=some (es++[(.str x,.pt (n+2) 0)])) (hf2:bK true (.str x) (es++[(.str x,.pt (n+2) 0)])=some (some (.pt (n+2) 0))) :
 runW aD 136 [.pt o 0,.str x] h=some (.tup [.pt (n+2) 0,.bool true],qB h o m t x es [I 0]):=by
 rw[qY 136 aEL rfl];unfold aEL qB;dsimp only;(exact xY ho hm hf hn on mn om mo hp hf2)
theorem aTG{h:XH}{o m n b z:Nat}{g g2 g3:Bool}{t:AV}{cs:List AV}{es:List (AV×AV)}{x:ByteArray}(hn:h.length=n)(on:(o<n)=True)(mn:(m<n)=True)(bn:(b<n)=True)(om:(o=m)=False)(mo:(m=o)=False)(ob:(o=b)=False)(bo:(b=o)=False)(bm:(b=m)=False)(mb:(m=b)=False)
 (ho:hat h o=some (.blk g (.cells true [.sl b 0 1 z,.mp m,t]))) (hb:hat h b=some (.blk g3 (.cells true cs))) (hz:cs.length=z) (hz1:((z+1)*16≤1099511627776)=True) (hz2:(z+1≤1099511627776)=True) (hm:hat h m=some (.blk g2 (.map true es))) (hf:bK true (.str x) es=some none) (hp:iK true (.str x) (.pt (n+2) 0) es=some (es++[(.str x,.pt (n+2) 0)])) (hf2:bK true (.str x) (es++[(.str x,.pt (n+2) 0)])=some (some (.pt (n+2) 0))) :
 runW aD 136 [.pt o 0,.str x] h=some (.tup [.pt (n+2) 0,.bool true],qC h o m b t x cs g3 es [I 0]):=by
 rw[qY 136 aEL rfl];unfold aEL qC;dsimp only;(exact xX ho hm hf hn on mn om mo hp hf2 bn ob bo bm mb hb hz hz1 hz2 aE)
theorem aTR{h:XH}{o m e:Nat}{g g2:Bool}{a b:AV}{es:List (AV×AV)}{x:ByteArray}(ho:hat h o=some (.blk g (.cells true [a,.mp m,b])))(hm:hat h m=some (.blk g2 (.map true es)))(hf:bK true (.str x) es=some (some (.pt e 0))) :
 runW aD 129 [.pt o 0,.str x] h=some (.tup [.pt e 0,.bool false],h):=by
 rw[qY 129 aEP rfl];unfold aEP;dsimp only;(exact RS3 ho hm hf)
theorem aTP{h:XH}{o m n:Nat}{g g2:Bool}{t:AV}{es:List (AV×AV)}{x:ByteArray}(hn:h.length=n)(on:(o<n)=True)(mn:(m<n)=True)(om:(o=m)=False)(mo:(m=o)=False)
 (ho:hat h o=some (.blk g (.cells true [.nilsl,.mp m,t]))) (hm:hat h m=some (.blk g2 (.map true es))) (hf:bK true (.str x) es=some none) (hp:iK true (.str x) (.pt (n+2) 0) es=some (es++[(.str x,.pt (n+2) 0)])) (hf2:bK true (.str x) (es++[(.str x,.pt (n+2) 0)])=some (some (.pt (n+2) 0))) :
 runW aD 129 [.pt o 0,.str x] h=some (.tup [.pt (n+2) 0,.bool true],qB h o m t x es [I 0]):=by
 rw[qY 129 aEP rfl];unfold aEP qB;dsimp only;(exact xY ho hm hf hn on mn om mo hp hf2)
theorem aTQ{h:XH}{o m n b z:Nat}{g g2 g3:Bool}{t:AV}{cs:List AV}{es:List (AV×AV)}{x:ByteArray}(hn:h.length=n)(on:(o<n)=True)(mn:(m<n)=True)(bn:(b<n)=True)(om:(o=m)=False)(mo:(m=o)=False)(ob:(o=b)=False)(bo:(b=o)=False)(bm:(b=m)=False)(mb:(m=b)=False)
 (ho:hat h o=some (.blk g (.cells true [.sl b 0 1 z,.mp m,t]))) (hb:hat h b=some (.blk g3 (.cells true cs))) (hz:cs.length=z) (hz1:((z+1)*16≤1099511627776)=True) (hz2:(z+1≤1099511627776)=True) (hm:hat h m=some (.blk g2 (.map true es))) (hf:bK true (.str x) es=some none) (hp:iK true (.str x) (.pt (n+2) 0) es=some (es++[(.str x,.pt (n+2) 0)])) (hf2:bK true (.str x) (es++[(.str x,.pt (n+2) 0)])=some (some (.pt (n+2) 0))) :
 runW aD 129 [.pt o 0,.str x] h=some (.tup [.pt (n+2) 0,.bool true],qC h o m b t x cs g3 es [I 0]):=by
 rw[qY 129 aEP rfl];unfold aEP qC;dsimp only;(exact xX ho hm hf hn on mn om mo hp hf2 bn ob bo bm mb hb hz hz1 hz2 aE)
structure OL where
 o:Nat
 m:Nat
 b:Nat
 es:List Nat
def sBk(b:Nat)(cs:List AV):List (Nat×ABlk):=if cs.length=0 then [] else [(b,.cells true cs)]
def eB(es:List Nat)(vs:List (List AV)):List (Nat×ABlk):=List.zipWith (fun e v=>(e,ABlk.cells true v)) es vs
def tY(l:OL)(ks:List ByteArray)(vs:List (List AV))(t:Int):List (Nat×ABlk) :=
 (l.o,.cells true [iC l.b ks.length,.mp l.m,I t])::(l.m,.map true (ent ks l.es))::(sBk l.b (ks.map .str)++eB l.es vs)
def Hd(h:XH)(l:List (Nat×ABlk)):Prop:=(∀ p∈l,aG h p.1=some p.2)∧(l.map (·.1)).Nodup
structure Od(h:XH)(l:OL)(ks:List ByteArray)(vs:List (List AV))(t:Int):Prop where
 hd:Hd h (tY l ks vs t)
 ek:l.es.length=ks.length
 vk:vs.length=ks.length
structure Fr(J:List Nat)(h h':XH):Prop where
 keep:∀ b,b<h.length→b∉J→aG h' b=aG h b
 len:h.length≤h'.length
theorem Fr.refl(J:List Nat)(h:XH):Fr J h h:=⟨fun _ _ _=>rfl,B7 _⟩
theorem Fr.trans{J:List Nat}{h h1 h2:XH}(a:Fr J h h1)(b:Fr J h1 h2):Fr J h h2:=⟨fun x hx hn=>(b.keep x (E7 hx a.len) hn).trans (a.keep x hx hn),F8 a.len b.len⟩
theorem Fr.mono{J K:List Nat}{h h1:XH}(a:Fr J h h1)(s:∀ b,b∈J→b∈K):Fr K h h1:=⟨fun x hx hn=>a.keep x hx fun hm=>hn (s x hm),a.len⟩
theorem Fr.app(h k:XH):Fr [] h (h++k):=⟨fun b hb _=>by simp only[aG,cF];rw[if_pos hb],by simp⟩
theorem aB{h:XH}{b:Nat}{x:ABlk}(hb:aG h b=some x):∃ g,hat h b=some (.blk g x):=by
 unfold aG at hb;split at hb;·rename_i g y hy;cases hb;exact⟨g,hy⟩
 ·cases hb
theorem aMJ{h:XH}{b:Nat}{g:Bool}{x:ABlk}(hb:hat h b=some (.blk g x)):aG h b=some x:=by
 unfold aG;rw[hb]
theorem aF{h:XH}{b:Nat}{x:ABlk}(hb:aG h b=some x):b<h.length:=by
 obtain⟨g,hg⟩:=aB hb;exact Classical.byContradiction fun hn=>by
  unfold hat at hg;rw[A6,G5 (by omega)]at hg;cases hg
theorem cJ{h:XH}{b j:Nat}{g:Bool}{x:ABlk}:aG (h.set b (some (.blk g x))) j=if j=b then (if b<h.length then some x else aG h j) else aG h j:=by
 simp only[aG,Pq];by_cases e:j=b
 ·by_cases l:b<h.length
  ·simp[e,l]
  ·simp[e,l]
 ·simp[e]
theorem aDi{h:XH}{b j:Nat}(hj:j≠b):aG (h.set b none) j=aG h j:=by
 simp only[aG,Pq,if_neg hj]
theorem fA{h k:XH}{j:Nat}:aG (h++k) j=if j<h.length then aG h j else aG k (j-h.length):=by
 simp only[aG,Pr];by_cases e:j<h.length;·simp[e]
 ·simp[e]
theorem aSx{es:List Nat}:∀{vs:List (List AV)},es.length=vs.length→(eB es vs).map (·.1)=es:=by
 induction es with
 | nil=>intro vs h;cases vs with
   | nil=>rfl
   | cons v r=>cases h
 | cons e r ih=>intro vs h;cases vs with
   | nil=>cases h
   | cons v w=>exact AAq (e :: ·) (ih (by simpa using h))
theorem aNc{es:List Nat}{vs:List (List AV)}{i e:Nat}{v:List AV}(he:es[i]?=some e)(hv:vs[i]?=some v):(e,ABlk.cells true v)∈eB es vs:=by
 refine A8 (i:=i) ?_;unfold eB;rw[List.getElem?_zipWith,he,hv]
theorem aPO{es:List Nat}{vs:List (List AV)}(h:es.length=vs.length)(e:Nat)(v:List AV):eB (es++[e]) (vs++[v])=eB es vs++[(e,.cells true v)]:=by
 unfold eB;rw[List.zipWith_append h];rfl
theorem aHv{es:List Nat}{vs:List (List AV)}{p:Nat×ABlk}(h:p∈eB es vs):∃(i:Nat)(e:Nat)(v:List AV),es[i]?=some e∧vs[i]?=some v∧p=(e,.cells true v):=by
 obtain⟨i,hi⟩:=G7 h;unfold eB at hi;rw[List.getElem?_zipWith]at hi;split at hi;·rename_i e v he hv;cases hi;exact⟨i,e,v,he,hv,rfl⟩
 ·cases hi
def idx(l:OL)(n:Nat):List Nat:=l.o::l.m::((if n=0 then [] else [l.b])++l.es)
theorem oC{l:OL}{ks:List ByteArray}{vs:List (List AV)}{t:Int}(h:l.es.length=vs.length):(tY l ks vs t).map (·.1)=idx l ks.length:=by
 unfold tY idx sBk;rw[C4,C4,F7,aSx h,B0];split<;>rfl
variable{h h':XH}{l:OL}{ks:List ByteArray}{vs:List (List AV)}{t:Int}{x:ByteArray}{i:Nat}
namespace Od
theorem ho(od:Od h l ks vs t):∃ g,hat h l.o=some (.blk g (.cells true [iC l.b ks.length,.mp l.m,I t])):=aB (od.hd.1 (l.o,_) (by simp[tY]))
theorem hm(od:Od h l ks vs t):∃ g,hat h l.m=some (.blk g (.map true (ent ks l.es))):=aB (od.hd.1 (l.m,_) (by simp[tY]))
theorem hb(od:Od h l ks vs t)(hk:0<ks.length):∃ g,hat h l.b=some (.blk g (.cells true (ks.map .str))):=aB (od.hd.1 (l.b,_) (by
 have:¬ks.length=0:=by omega
 simp[tY,sBk,this]))
theorem he(od:Od h l ks vs t){e:Nat}{v:List AV}(he:l.es[i]?=some e)(hv:vs[i]?=some v):aG h e=some (.cells true v):=od.hd.1 (e,.cells true v) (by
 unfold tY;exact C8 _ (C8 _ (E5 _ (aNc he hv))))
theorem nd(od:Od h l ks vs t):(idx l ks.length).Nodup:=by
 rw[←oC (t:=t) (od.ek.trans od.vk.symm)];exact od.hd.2
theorem lt(od:Od h l ks vs t){b:Nat}(hb:b∈idx l ks.length):b<h.length:=by
 rw[←oC (ks:=ks) (t:=t) (od.ek.trans od.vk.symm)]at hb;obtain⟨p,hp,rfl⟩:=D8.1 hb;exact aF (od.hd.1 p hp)
theorem lts(od:Od h l ks vs t):l.o<h.length∧l.m<h.length∧(0<ks.length→l.b<h.length)∧∀ e∈l.es,e<h.length :=
 ⟨od.lt (by simp[idx]),od.lt (by simp[idx]),fun hk=>od.lt (by
  have:¬ks.length=0:=by omega
  simp[idx,this]),fun e he=>od.lt (by simp[idx,he])⟩
theorem nes(od:Od h l ks vs t):l.o≠l.m∧(0<ks.length→l.o≠l.b∧l.m≠l.b∧l.b∉l.es)∧l.o∉l.es∧l.m∉l.es∧l.es.Nodup:=by
 have:=od.nd;unfold idx at this;rw[G1,G1,I3]at this;obtain⟨n1,n2,n3,n4,n5⟩:=this;refine⟨fun e=>n1 (by simp[e]),fun hk=>?_,fun e=>n1 (by simp[e]),fun e=>n2 (by simp[e]),n4⟩;have hz:¬ks.length=0:=by omega
 rw[if_neg hz]at n1 n2 n5;exact⟨fun e=>n1 (by simp[e]),fun e=>n2 (by simp[e]),fun e=>n5 l.b (by simp) l.b e rfl⟩
theorem found(od:Od h l ks vs t)(hx:dE ks x=some i):∃ e v,l.es[i]?=some e∧vs[i]?=some v∧bK true (.str x) (ent ks l.es)=some (some (.pt e 0))∧aG h e=some (.cells true v):=by
 have h1:=eY hx;have h2:i<ks.length:=(A5.1 h1).1;have h3:=mJ (x:=x) od.ek.symm;rw[hx]at h3;have k1:=A7 (l:=l.es) (i:=i) (by rw[od.ek];exact h2);have k2:=A7 (l:=vs) (i:=i) (by rw[od.vk];exact h2);rw[D0,k1]at h3;exact⟨_,_,k1,k2,h3,od.he k1 k2⟩
theorem miss(od:Od h l ks vs t)(hx:dE ks x=none):bK true (.str x) (ent ks l.es)=some none:=by
 have h3:=mJ (x:=x) od.ek.symm;rw[hx]at h3;exact h3
theorem fr(od:Od h l ks vs t){J:List Nat}(f:Fr J h h')(hd:∀ b,b∈idx l ks.length→b∉J):Od h' l ks vs t:=by
 refine⟨⟨fun p hp=>?_,od.hd.2⟩,od.ek,od.vk⟩;have h1:=od.hd.1 p hp;have h2:p.1∈idx l ks.length:=by
  rw[←oC (ks:=ks) (t:=t) (od.ek.trans od.vk.symm)];exact M4 hp
 rw[f.keep p.1 (aF h1) (hd _ h2)];exact h1
theorem upd(od:Od h l ks vs t){e:Nat}{v:List AV}{g:Bool}(he:l.es[i]?=some e):Od (h.set e (some (.blk g (.cells true v)))) l ks (vs.set i v) t∧Fr [e] h (h.set e (some (.blk g (.cells true v)))):=by
 have hi:i<l.es.length:=(A5.1 he).1;have hm:e∈l.es:=A8 he;obtain⟨n1,n2,n3,n4,n5⟩:=od.nes;obtain⟨t1,t2,t3,t4⟩:=od.lts;have el:=t4 e hm;refine⟨⟨⟨fun p hp=>?_,?_⟩,od.ek,by rw[C0];exact od.vk⟩,⟨fun b _ hb=>by rw[cJ,if_neg (by simpa using hb)],by simp⟩⟩
 ·unfold tY at hp
  rw[B4,B4,B2]at hp;have keep:∀ p,p∈tY l ks vs t→p.1≠e→aG (h.set e (some (.blk g (.cells true v)))) p.1=some p.2:=fun p hp hne=>by
   rw[cJ,if_neg hne];exact od.hd.1 p hp
  rcases hp with rfl|rfl|hp|hp;·exact keep _ (by simp[tY]) fun q=>n3 (by rw[show l.o=e from q];exact hm)
  ·exact keep _ (by simp[tY]) fun q=>n4 (by rw[show l.m=e from q];exact hm)
  ·have hz:0<ks.length:=Nat.pos_of_ne_zero fun q=>by simp[sBk,q]at hp
   have hb:p=(l.b,.cells true (ks.map .str)):=by
    have hz2:¬ks.length=0:=by omega
    simpa [sBk,hz2]using hp
   subst hb;exact keep _ (by simp[tY,hp]) fun q=>(n2 hz).2.2 (by rw[show l.b=e from q];exact hm)
  ·obtain⟨j,e2,v2,k1,k2,rfl⟩:=aHv hp
   by_cases hj:j=i
   ·subst hj
    rw[he]at k1;cases k1;have hv:v2=v:=by
     rw[M5 (by rw[od.vk,←od.ek];exact hi)]at k2;cases k2;rfl
    subst hv;rw[cJ,if_pos rfl,if_pos el]
   ·rw[aA3 (fun q=>hj q.symm)]at k2
    refine keep _ (by unfold tY;exact C8 _ (C8 _ (E5 _ (aNc k1 k2)))) fun q=>hj ?_;have q1:e2=e:=q;subst q1;exact(aE1 (by exact(A5.1 k1).1) n5).1 (k1.trans he.symm)
 ·have h1:=od.nd
  rw[oC (by rw[C0];exact od.ek.trans od.vk.symm)];exact h1
end Od
end Go.Proofs.YtmapgnepfgnphaaGreatDoor
namespace Go.Proofs.YtmapgnepfgnphaaGreatDoor
open Go Go.DL
variable{h h':XH}{l:OL}{ks:List ByteArray}{vs:List (List AV)}{t:Int}{x:ByteArray}{i:Nat}{z:List AV}
theorem sO{o m:Nat}{tv:AV}{es:List (AV×AV)}(ho:o<h.length)(hm:m<h.length)(om:o≠m)(j:Nat):aG (qB h o m tv x es z) j =
 if j=m then some (.map true (es++[(.str x,.pt (h.length+2) 0)])) else if j=o then some (.cells true [.sl (h.length+1) 0 1 1,.mp m,tv]) else if j<h.length then aG h j else
 if j=h.length then some (.cells true [.str x]) else if j=h.length+1 then some (.cells true [.str x]) else if j=h.length+2 then some (.cells true z) else none:=by
 unfold qB;rw[fA,cJ,cJ];simp only[C0];by_cases jm:j=m;·subst jm;simp[hm]
 ·by_cases jo:j=o
  ·subst jo;simp[om,ho]
  ·by_cases jl:j<h.length
   ·simp[jm,jo,jl]
   ·simp only[jm,jo,jl,AAd]
    by_cases j0:j=h.length;·subst j0;simp[aG,hat]
    ·by_cases j1:j=h.length+1
     ·subst j1;simp[aG,hat]
     ·by_cases j2:j=h.length+2
      ·subst j2;simp[aG,hat]
      ·simp only[j0,j1,j2,AAd]
       unfold aG hat;rw[A6,G5 (by simp;omega)];rfl
theorem sP{o m b:Nat}{tv:AV}{cs:List AV}{g3:Bool}{es:List (AV×AV)}(ho:o<h.length)(hm:m<h.length)(om:o≠m)(j:Nat)(jb:j≠b):aG (qC h o m b tv x cs g3 es z) j =
 if j=m then some (.map true (es++[(.str x,.pt (h.length+2) 0)])) else if j=o then some (.cells true [.sl (h.length+1) 0 1 (cs.length+1),.mp m,tv]) else if j<h.length then aG h j else
 if j=h.length then some (.cells true [.str x]) else if j=h.length+1 then some (.cells true (cs++[.str x])) else if j=h.length+2 then some (.cells true z) else none:=by
 unfold qC;rw[fA,cJ,cJ,aDi jb];simp only[C0];by_cases jm:j=m;·subst jm;simp[hm]
 ·by_cases jo:j=o
  ·subst jo;simp[om,ho]
  ·by_cases jl:j<h.length
   ·simp[jm,jo,jl]
   ·simp only[jm,jo,jl,AAd]
    by_cases j0:j=h.length;·subst j0;simp[aG,hat]
    ·by_cases j1:j=h.length+1
     ·subst j1;simp[aG,hat]
     ·by_cases j2:j=h.length+2
      ·subst j2;simp[aG,hat]
      ·simp only[j0,j1,j2,AAd]
       unfold aG hat;rw[A6,G5 (by simp;omega)];rfl
theorem Od.putG(od:Od h l ks vs t)(hl:h'.length=h.length+3)
 (hp:∀ j,(0<ks.length→j≠l.b)→aG h' j=if j=l.m then some (.map true (ent ks l.es++[(.str x,.pt (h.length+2) 0)])) else if j=l.o then some (.cells true [.sl (h.length+1) 0 1 (ks.length+1),.mp l.m,I t]) else if j<h.length then aG h j else
 if j=h.length then some (.cells true [.str x]) else if j=h.length+1 then some (.cells true (ks.map .str++[.str x])) else if j=h.length+2 then some (.cells true z) else none) :
 Od h' ⟨l.o,l.m,h.length+1,l.es++[h.length+2]⟩ (ks++[x]) (vs++[z]) t∧Fr (idx l ks.length) h h':=by
 obtain⟨n1,n2,n3,n4,n5⟩:=od.nes;obtain⟨t1,t2,t3,t4⟩:=od.lts;have ev:=od.ek.trans od.vk.symm;refine⟨⟨⟨fun p hp'=>?_,?_⟩,by simp[od.ek],by simp[od.vk]⟩,⟨fun b hb hn=>?_,by omega⟩⟩
 ·unfold tY at hp'
  rw[aPO ev,rX od.ek.symm]at hp';rw[B4,B4,B2,B2]at hp';rcases hp' with rfl|rfl|hp'|hp'|hp'
  ·have:iC (h.length+1) (ks++[x]).length = .sl (h.length+1) 0 1 (ks.length+1):=by simp[iC]
   rw[this,hp l.o (fun hk=>(n2 hk).1),if_neg n1,if_pos rfl]
  ·rw[hp l.m (fun hk=>(n2 hk).2.1),if_pos rfl]
  ·have hb:p=(h.length+1,.cells true (ks.map .str++[.str x])):=by simpa [sBk]using hp'
   subst hb;rw[hp _ (fun hk=>by have:=t3 hk;show h.length+1≠l.b;omega)];rw[if_neg (by show h.length+1≠l.m;omega),if_neg (by show h.length+1≠l.o;omega),if_neg (by show ¬h.length+1<h.length;omega),if_neg (by show ¬h.length+1=h.length;omega),if_pos rfl]
  ·obtain⟨j,e2,v2,k1,k2,rfl⟩:=aHv hp'
   have me:=A8 k1;have le:=t4 _ me;rw[hp e2 (fun hk q=>(n2 hk).2.2 (by rw[←q];exact me)),if_neg (fun q:e2=l.m=>n4 (by rw[←q];exact me)),if_neg (fun q:e2=l.o=>n3 (by rw[←q];exact me)),if_pos le];exact od.he k1 k2
  ·rw[B5]at hp'
   subst hp';rw[hp _ (fun hk=>by have:=t3 hk;show h.length+2≠l.b;omega)];rw[if_neg (by show h.length+2≠l.m;omega),if_neg (by show h.length+2≠l.o;omega),if_neg (by show ¬h.length+2<h.length;omega),if_neg (by show ¬h.length+2=h.length;omega),if_neg (by show ¬h.length+2=h.length+1;omega),if_pos rfl]
 ·rw[oC (by simp[ev])]
  unfold idx;simp only[C2,J1,Nat.add_eq_zero_iff,Nat.succ_ne_self,and_false,AAd,G1,I3,B2,B5,B4,not_or,D4,AAo,AAj,aA1,AAi];refine⟨⟨n1,by omega,n3,by omega⟩,⟨by omega,n4,by omega⟩,⟨n5,fun a ha b hb=>?_⟩,fun a ha b hb=>?_⟩
  ·rcases hb with rfl|hb
   ·have:=t4 a ha;omega
   ·exact hb.elim
  ·rcases ha with rfl|ha
   ·rcases hb with hb|hb|hb
    ·have:=t4 b hb;omega
    ·omega
    ·exact hb.elim
   ·exact ha.elim
 ·have hb1:b≠l.o∧b≠l.m∧(0<ks.length→b≠l.b):=by
   unfold idx at hn;refine⟨fun q=>hn (by simp[q]),fun q=>hn (by simp[q]),fun hk q=>hn ?_⟩;have:¬ks.length=0:=by omega
   simp[q,this]
  rw[hp b hb1.2.2,if_neg hb1.2.1,if_neg hb1.1,if_pos hb]
theorem rH:∀{ks:List ByteArray},dE ks x=none→dE (ks++[x]) x=some ks.length
 | [],_=>by simp[dE]
 | k::r,h=>by
   unfold dE at h;split at h;·cases h
   ·rename_i hk
    rw[O5]at h;show (if k=x then some 0 else (dE (r++[x]) x).map (· + 1))=_;rw[if_neg hk,rH h];rfl
theorem aHf{α:Type}{l:List α}(h:¬0<l.length):l=[]:=C5 (by omega)
theorem wV{p:Prop}(h:p):p=True:=AAm h
theorem tR{p:Prop}(h:¬p):p=False:=AAn h
theorem Od.getf(od:Od h l ks vs t)(hx:dE ks x=some i):∃ e v,l.es[i]?=some e∧vs[i]?=some v∧aG h e=some (.cells true v)∧runW aD 95 [.pt l.o 0,.str x] h=some (.pt e 0,h):=by
 obtain⟨g1,ho⟩:=od.ho;obtain⟨g2,hm⟩:=od.hm;obtain⟨e,v,k1,k2,k3,k4⟩:=od.found hx;exact⟨e,v,k1,k2,k4,w95 ho hm k3⟩
theorem Od.nonef(od:Od h l ks vs t)(hx:dE ks x=none):CalP Tryz.prog aD 95 [.pt l.o 0,.str x] h (.ifc 110 (.agg [I 5])) h:=by
 obtain⟨g1,ho⟩:=od.ho;obtain⟨g2,hm⟩:=od.hm;exact c95 ho hm (od.miss hx)
theorem Od.fullf(od:Od h l ks vs t)(ht:0<t):runW aD 87 [.pt l.o 0,.str x] h=some (.bool (decide (dE ks x=none)&&decide ((ks.length:Int)=t)),h):=by
 obtain⟨g1,ho⟩:=od.ho;obtain⟨g2,hm⟩:=od.hm;cases hx:dE ks x with
 | some i =>
   obtain⟨e,v,k1,k2,k3,k4⟩:=od.found hx;rw[aWW ho hm k3];rfl
 | none =>
   by_cases hk:0<ks.length
   ·have hv:iC l.b ks.length = .sl l.b 0 1 ks.length:=by unfold iC;rw[if_neg (by omega)]
    rw[hv]at ho;by_cases hw:(ks.length:Int)=t;·rw[aTx (w:=true) ho hm (od.miss hx) (by simp[hw])];simp[hw]
    ·rw[aTx (w:=false) ho hm (od.miss hx) (by simp[hw])];simp[hw]
   ·have h0:ks=[]:=aHf hk
    have hz:((0:Int)=t)=False:=AAb;subst h0;rw[aWV (t:=t) (by simpa [iC]using ho) hm (od.miss hx) hz];have:decide (((([]:List ByteArray).length:Nat):Int)=t)=false:=AAl (by simpa using hz);rw[this];simp
theorem Od.newf(od:Od h l ks vs t)(hx:dE ks x=none)(hk:ks.length≤1000):∃ h',runW aD 89 [.pt l.o 0,.str x] h=some (.tup [.pt (h.length+2) 0,.bool true],h')∧h'.length=h.length+3∧Od h' ⟨l.o,l.m,h.length+1,l.es++[h.length+2]⟩ (ks++[x]) (vs++[[I 0]]) t∧Fr (idx l ks.length) h h':=by
 obtain⟨n1,n2,n3,n4,n5⟩:=od.nes;obtain⟨t1,t2,t3,t4⟩:=od.lts;obtain⟨g1,ho⟩:=od.ho;obtain⟨g2,hm⟩:=od.hm;have hf:=od.miss hx;have hp:=vR (v:=.pt (h.length+2) 0) od.ek.symm hx;have hf2:bK true (.str x) (ent ks l.es++[(.str x,.pt (h.length+2) 0)])=some (some (.pt (h.length+2) 0)):=by
  rw[←rX od.ek.symm,mJ (by simp[od.ek])];rw[rH hx];simp[←od.ek]
 by_cases k0:0<ks.length
 ·have hv:iC l.b ks.length = .sl l.b 0 1 ks.length:=by unfold iC;rw[if_neg (by omega)]
  rw[hv]at ho;obtain⟨g3,hb⟩:=od.hb k0;obtain⟨n6,n7,n8⟩:=n2 k0;have t5:=t3 k0;refine⟨_,aWU rfl (wV t1) (wV t2) (wV t5) (tR n1) (tR (Ne.symm n1)) (tR n6) (tR (Ne.symm n6)) (tR (Ne.symm n7)) (tR n7) ho hb (by simp) (wV (by omega)) (wV (by omega)) hm hf hp hf2,by simp[qC],?_⟩;exact Od.putG od (by simp[qC]) fun j hj=>by
   rw[sP t1 t2 n1 j (hj k0)];simp
 ·have h0:ks=[]:=aHf k0
  subst h0;refine⟨_,aWT rfl (wV t1) (wV t2) (tR n1) (tR (Ne.symm n1)) (by simpa [iC]using ho) hm hf hp hf2,by simp[qB],?_⟩;exact Od.putG od (by simp[qB]) fun j hj=>by
   rw[sO t1 t2 n1 j];rfl
theorem Od.getm(od:Od h l ks vs t)(hx:dE ks x=some i):∃ e v,l.es[i]?=some e∧vs[i]?=some v∧aG h e=some (.cells true v)∧runW aD 96 [.pt l.o 0,.str x] h=some (.pt e 0,h):=by
 obtain⟨g1,ho⟩:=od.ho;obtain⟨g2,hm⟩:=od.hm;obtain⟨e,v,k1,k2,k3,k4⟩:=od.found hx;exact⟨e,v,k1,k2,k4,w96 ho hm k3⟩
theorem Od.nonem(od:Od h l ks vs t)(hx:dE ks x=none):CalP Tryz.prog aD 96 [.pt l.o 0,.str x] h (.ifc 110 (.agg [I 5])) h:=by
 obtain⟨g1,ho⟩:=od.ho;obtain⟨g2,hm⟩:=od.hm;exact c96 ho hm (od.miss hx)
theorem Od.fullm(od:Od h l ks vs t)(ht:0<t):runW aD 131 [.pt l.o 0,.str x] h=some (.bool (decide (dE ks x=none)&&decide ((ks.length:Int)=t)),h):=by
 obtain⟨g1,ho⟩:=od.ho;obtain⟨g2,hm⟩:=od.hm;cases hx:dE ks x with
 | some i =>
   obtain⟨e,v,k1,k2,k3,k4⟩:=od.found hx;rw[aTO ho hm k3];rfl
 | none =>
   by_cases hk:0<ks.length
   ·have hv:iC l.b ks.length = .sl l.b 0 1 ks.length:=by unfold iC;rw[if_neg (by omega)]
    rw[hv]at ho;by_cases hw:(ks.length:Int)=t;·rw[aQw (w:=true) ho hm (od.miss hx) (by simp[hw])];simp[hw]
    ·rw[aQw (w:=false) ho hm (od.miss hx) (by simp[hw])];simp[hw]
   ·have h0:ks=[]:=aHf hk
    have hz:((0:Int)=t)=False:=AAb;subst h0;rw[aTN (t:=t) (by simpa [iC]using ho) hm (od.miss hx) hz];have:decide (((([]:List ByteArray).length:Nat):Int)=t)=false:=AAl (by simpa using hz);rw[this];simp
theorem Od.oldm(od:Od h l ks vs t)(hx:dE ks x=some i):∃ e v,l.es[i]?=some e∧vs[i]?=some v∧aG h e=some (.cells true v)∧runW aD 133 [.pt l.o 0,.str x] h=some (.tup [.pt e 0,.bool false],h):=by
 obtain⟨g1,ho⟩:=od.ho;obtain⟨g2,hm⟩:=od.hm;obtain⟨e,v,k1,k2,k3,k4⟩:=od.found hx;exact⟨e,v,k1,k2,k4,aTM ho hm k3⟩
theorem Od.newm(od:Od h l ks vs t)(hx:dE ks x=none)(hk:ks.length≤1000):∃ h',runW aD 133 [.pt l.o 0,.str x] h=some (.tup [.pt (h.length+2) 0,.bool true],h')∧h'.length=h.length+3∧Od h' ⟨l.o,l.m,h.length+1,l.es++[h.length+2]⟩ (ks++[x]) (vs++[[I 0,I 0]]) t∧Fr (idx l ks.length) h h':=by
 obtain⟨n1,n2,n3,n4,n5⟩:=od.nes;obtain⟨t1,t2,t3,t4⟩:=od.lts;obtain⟨g1,ho⟩:=od.ho;obtain⟨g2,hm⟩:=od.hm;have hf:=od.miss hx;have hp:=vR (v:=.pt (h.length+2) 0) od.ek.symm hx;have hf2:bK true (.str x) (ent ks l.es++[(.str x,.pt (h.length+2) 0)])=some (some (.pt (h.length+2) 0)):=by
  rw[←rX od.ek.symm,mJ (by simp[od.ek])];rw[rH hx];simp[←od.ek]
 by_cases k0:0<ks.length
 ·have hv:iC l.b ks.length = .sl l.b 0 1 ks.length:=by unfold iC;rw[if_neg (by omega)]
  rw[hv]at ho;obtain⟨g3,hb⟩:=od.hb k0;obtain⟨n6,n7,n8⟩:=n2 k0;have t5:=t3 k0;refine⟨_,aTL rfl (wV t1) (wV t2) (wV t5) (tR n1) (tR (Ne.symm n1)) (tR n6) (tR (Ne.symm n6)) (tR (Ne.symm n7)) (tR n7) ho hb (by simp) (wV (by omega)) (wV (by omega)) hm hf hp hf2,by simp[qC],?_⟩;exact Od.putG od (by simp[qC]) fun j hj=>by
   rw[sP t1 t2 n1 j (hj k0)];simp
 ·have h0:ks=[]:=aHf k0
  subst h0;refine⟨_,aTK rfl (wV t1) (wV t2) (tR n1) (tR (Ne.symm n1)) (by simpa [iC]using ho) hm hf hp hf2,by simp[qB],?_⟩;exact Od.putG od (by simp[qB]) fun j hj=>by
   rw[sO t1 t2 n1 j];rfl
theorem Od.getp(od:Od h l ks vs t)(hx:dE ks x=some i):∃ e v,l.es[i]?=some e∧vs[i]?=some v∧aG h e=some (.cells true v)∧runW aD 97 [.pt l.o 0,.str x] h=some (.pt e 0,h):=by
 obtain⟨g1,ho⟩:=od.ho;obtain⟨g2,hm⟩:=od.hm;obtain⟨e,v,k1,k2,k3,k4⟩:=od.found hx;exact⟨e,v,k1,k2,k4,w97 ho hm k3⟩
theorem Od.nonep(od:Od h l ks vs t)(hx:dE ks x=none):CalP Tryz.prog aD 97 [.pt l.o 0,.str x] h (.ifc 110 (.agg [I 5])) h:=by
 obtain⟨g1,ho⟩:=od.ho;obtain⟨g2,hm⟩:=od.hm;exact c97 ho hm (od.miss hx)
theorem Od.fullp(od:Od h l ks vs t)(ht:0<t):runW aD 134 [.pt l.o 0,.str x] h=some (.bool (decide (dE ks x=none)&&decide ((ks.length:Int)=t)),h):=by
 obtain⟨g1,ho⟩:=od.ho;obtain⟨g2,hm⟩:=od.hm;cases hx:dE ks x with
 | some i =>
   obtain⟨e,v,k1,k2,k3,k4⟩:=od.found hx;rw[aTJ ho hm k3];rfl
 | none =>
   by_cases hk:0<ks.length
   ·have hv:iC l.b ks.length = .sl l.b 0 1 ks.length:=by unfold iC;rw[if_neg (by omega)]
    rw[hv]at ho;by_cases hw:(ks.length:Int)=t;·rw[aQv (w:=true) ho hm (od.miss hx) (by simp[hw])];simp[hw]
    ·rw[aQv (w:=false) ho hm (od.miss hx) (by simp[hw])];simp[hw]
   ·have h0:ks=[]:=aHf hk
    have hz:((0:Int)=t)=False:=AAb;subst h0;rw[aTI (t:=t) (by simpa [iC]using ho) hm (od.miss hx) hz];have:decide (((([]:List ByteArray).length:Nat):Int)=t)=false:=AAl (by simpa using hz);rw[this];simp
theorem Od.oldp(od:Od h l ks vs t)(hx:dE ks x=some i):∃ e v,l.es[i]?=some e∧vs[i]?=some v∧aG h e=some (.cells true v)∧runW aD 136 [.pt l.o 0,.str x] h=some (.tup [.pt e 0,.bool false],h):=by
 obtain⟨g1,ho⟩:=od.ho;obtain⟨g2,hm⟩:=od.hm;obtain⟨e,v,k1,k2,k3,k4⟩:=od.found hx;exact⟨e,v,k1,k2,k4,aTH ho hm k3⟩
theorem Od.newp(od:Od h l ks vs t)(hx:dE ks x=none)(hk:ks.length≤1000):∃ h',runW aD 136 [.pt l.o 0,.str x] h=some (.tup [.pt (h.length+2) 0,.bool true],h')∧h'.length=h.length+3∧Od h' ⟨l.o,l.m,h.length+1,l.es++[h.length+2]⟩ (ks++[x]) (vs++[[I 0]]) t∧Fr (idx l ks.length) h h':=by
 obtain⟨n1,n2,n3,n4,n5⟩:=od.nes;obtain⟨t1,t2,t3,t4⟩:=od.lts;obtain⟨g1,ho⟩:=od.ho;obtain⟨g2,hm⟩:=od.hm;have hf:=od.miss hx;have hp:=vR (v:=.pt (h.length+2) 0) od.ek.symm hx;have hf2:bK true (.str x) (ent ks l.es++[(.str x,.pt (h.length+2) 0)])=some (some (.pt (h.length+2) 0)):=by
  rw[←rX od.ek.symm,mJ (by simp[od.ek])];rw[rH hx];simp[←od.ek]
 by_cases k0:0<ks.length
 ·have hv:iC l.b ks.length = .sl l.b 0 1 ks.length:=by unfold iC;rw[if_neg (by omega)]
  rw[hv]at ho;obtain⟨g3,hb⟩:=od.hb k0;obtain⟨n6,n7,n8⟩:=n2 k0;have t5:=t3 k0;refine⟨_,aTG rfl (wV t1) (wV t2) (wV t5) (tR n1) (tR (Ne.symm n1)) (tR n6) (tR (Ne.symm n6)) (tR (Ne.symm n7)) (tR n7) ho hb (by simp) (wV (by omega)) (wV (by omega)) hm hf hp hf2,by simp[qC],?_⟩;exact Od.putG od (by simp[qC]) fun j hj=>by
   rw[sP t1 t2 n1 j (hj k0)];simp
 ·have h0:ks=[]:=aHf k0
  subst h0;refine⟨_,aTF rfl (wV t1) (wV t2) (tR n1) (tR (Ne.symm n1)) (by simpa [iC]using ho) hm hf hp hf2,by simp[qB],?_⟩;exact Od.putG od (by simp[qB]) fun j hj=>by
   rw[sO t1 t2 n1 j];rfl
theorem Od.oldw(od:Od h l ks vs t)(hx:dE ks x=some i):∃ e v,l.es[i]?=some e∧vs[i]?=some v∧aG h e=some (.cells true v)∧runW aD 129 [.pt l.o 0,.str x] h=some (.tup [.pt e 0,.bool false],h):=by
 obtain⟨g1,ho⟩:=od.ho;obtain⟨g2,hm⟩:=od.hm;obtain⟨e,v,k1,k2,k3,k4⟩:=od.found hx;exact⟨e,v,k1,k2,k4,aTR ho hm k3⟩
theorem Od.neww(od:Od h l ks vs t)(hx:dE ks x=none)(hk:ks.length≤1000):∃ h',runW aD 129 [.pt l.o 0,.str x] h=some (.tup [.pt (h.length+2) 0,.bool true],h')∧h'.length=h.length+3∧Od h' ⟨l.o,l.m,h.length+1,l.es++[h.length+2]⟩ (ks++[x]) (vs++[[I 0]]) t∧Fr (idx l ks.length) h h':=by
 obtain⟨n1,n2,n3,n4,n5⟩:=od.nes;obtain⟨t1,t2,t3,t4⟩:=od.lts;obtain⟨g1,ho⟩:=od.ho;obtain⟨g2,hm⟩:=od.hm;have hf:=od.miss hx;have hp:=vR (v:=.pt (h.length+2) 0) od.ek.symm hx;have hf2:bK true (.str x) (ent ks l.es++[(.str x,.pt (h.length+2) 0)])=some (some (.pt (h.length+2) 0)):=by
  rw[←rX od.ek.symm,mJ (by simp[od.ek])];rw[rH hx];simp[←od.ek]
 by_cases k0:0<ks.length
 ·have hv:iC l.b ks.length = .sl l.b 0 1 ks.length:=by unfold iC;rw[if_neg (by omega)]
  rw[hv]at ho;obtain⟨g3,hb⟩:=od.hb k0;obtain⟨n6,n7,n8⟩:=n2 k0;have t5:=t3 k0;refine⟨_,aTQ rfl (wV t1) (wV t2) (wV t5) (tR n1) (tR (Ne.symm n1)) (tR n6) (tR (Ne.symm n6)) (tR (Ne.symm n7)) (tR n7) ho hb (by simp) (wV (by omega)) (wV (by omega)) hm hf hp hf2,by simp[qC],?_⟩;exact Od.putG od (by simp[qC]) fun j hj=>by
   rw[sP t1 t2 n1 j (hj k0)];simp
 ·have h0:ks=[]:=aHf k0
  subst h0;refine⟨_,aTP rfl (wV t1) (wV t2) (tR n1) (tR (Ne.symm n1)) (by simpa [iC]using ho) hm hf hp hf2,by simp[qB],?_⟩;exact Od.putG od (by simp[qB]) fun j hj=>by
   rw[sO t1 t2 n1 j];rfl
structure CL where
 c:Nat
 tb:Nat
 kb:Nat
 te:List Nat
 f:OL
 m:OL
 p:OL
 w:OL
def tkC(k:CTk):List AV:=[.str k.wagon,.str k.farmer,I k.net,.bool k.void,.bool false]
def cG(L:CL)(s:dD):List AV:=[.pt L.f.o 0,.pt L.m.o 0,.pt L.p.o 0,.pt L.w.o 0,iC L.tb s.tickets.length,I s.closed,iC L.kb s.book.length]
def mO(b n:Nat):List Nat:=if n=0 then [] else [b]
def px(L:CL)(s:dD):Nat→List Nat
 | 0=>[L.c]
 | 1=>mO L.tb s.tickets.length++L.te
 | 2=>mO L.kb s.book.length
 | 3=>idx L.f s.farmers.length
 | 4=>idx L.m s.meters.length
 | 5=>idx L.p s.pans.length
 | 6=>idx L.w s.wagons.length
 | _=>[]
structure Tk(h:XH)(tb:Nat)(te:List Nat)(ks:List CTk):Prop where
 el:te.length=ks.length
 hb:0<ks.length→aG h tb=some (.cells true (te.map fun e=>.pt e 0))
 he:∀(i e:Nat)(k:CTk),te[i]?=some e→ks[i]?=some k→aG h e=some (.cells true (tkC k))
 nd:te.Nodup
 nb:0<ks.length→tb∉te
structure Lays(h:XH)(L:CL)(s:dD):Prop where
 hc:aG h L.c=some (.cells true (cG L s))
 tk:Tk h L.tb L.te s.tickets
 bk:0<s.book.length→aG h L.kb=some (.cells true (s.book.map .str))
 f:Od h L.f (s.farmers.map (·.1)) (s.farmers.map fun p=>[I p.2]) 9
 m:Od h L.m (s.meters.map (·.1)) (s.meters.map fun p=>[I p.2.1,I p.2.2]) 5
 p:Od h L.p (s.pans.map (·.1)) (s.pans.map fun p=>[I p.2]) 5
 w:Od h L.w (s.wagons.map (·.1)) (s.wagons.map fun p=>[I p.2]) 300
 dj:∀ i j b,b∈px L s i→b∈px L s j→i=j
variable{h h':XH}{L:CL}{s:dD}
theorem bQ{b n x:Nat}:x∈mO b n↔0<n∧x=b:=by
 unfold mO;split;·rename_i h;simp[h]
 ·rename_i h;simp[Nat.pos_of_ne_zero h]
theorem wJ{P P':Nat→List Nat}(J:Nat→Prop)[DecidablePred J]{n:Nat}(dj:∀ i j b,b∈P i→b∈P j→i=j)(lt:∀ j b,b∈P j→b<n)(same:∀ j,¬J j→P' j=P j)(sub:∀ j b,J j→b∈P' j→b∈P j∨n≤b)(own:∀ i j b,J i→J j→b∈P' i→b∈P' j→n≤b→i=j):∀ i j b,b∈P' i→b∈P' j→i=j:=by
 intro i j b hi hj;by_cases ii:J i
 ·by_cases jj:J j
  ·rcases sub i b ii hi with h1|h1
   ·rcases sub j b jj hj with h2|h2
    ·exact dj i j b h1 h2
    ·have:=lt i b h1;omega
   ·exact own i j b ii jj hi hj h1
  ·rw[same j jj]at hj
   rcases sub i b ii hi with h1|h1;·exact dj i j b h1 hj
   ·have:=lt j b hj;omega
 ·rw[same i ii]at hi
  by_cases jj:J j
  ·rcases sub j b jj hj with h2|h2
   ·exact dj i j b hi h2
   ·have:=lt i b hi;omega
  ·rw[same j jj]at hj
   exact dj i j b hi hj
namespace Tk
variable{tb:Nat}{te:List Nat}{ks:List CTk}
theorem lts(t:Tk h tb te ks):(0<ks.length→tb<h.length)∧∀ e∈te,e<h.length:=by
 refine⟨fun hk=>aF (t.hb hk),fun e he=>?_⟩;obtain⟨i,hi⟩:=G7 he;have h2:i<ks.length:=by rw[←t.el];exact(A5.1 hi).1
 exact aF (t.he i e _ hi (A7 h2))
theorem lt(t:Tk h tb te ks){b:Nat}(hb:b∈mO tb ks.length++te):b<h.length:=by
 rw[B2,bQ]at hb;rcases hb with ⟨hk,rfl⟩|hb;·exact t.lts.1 hk
 ·exact t.lts.2 b hb
theorem fr(t:Tk h tb te ks){J:List Nat}(f:Fr J h h')(hd:∀ b,b∈mO tb ks.length++te→b∉J):Tk h' tb te ks:=by
 refine⟨t.el,fun hk=>?_,fun i e k hi hk=>?_,t.nd,t.nb⟩;·rw[f.keep tb (t.lts.1 hk) (hd tb (by rw[B2,bQ];exact .inl ⟨hk,rfl⟩))];exact t.hb hk
 ·have he:=A8 hi
  rw[f.keep e (t.lts.2 e he) (hd e (E5 _ he))];exact t.he i e k hi hk
end Tk
namespace Lays
theorem lt(ly:Lays h L s):∀ j b,b∈px L s j→b<h.length:=by
 intro j b hb;unfold px at hb;split at hb;·rw[B5]at hb;subst hb;exact aF ly.hc
 ·exact ly.tk.lt hb
 ·rw[bQ]at hb;obtain⟨hk,rfl⟩:=hb;exact aF (ly.bk hk)
 ·exact ly.f.lt (by rw[B0];exact hb)
 ·exact ly.m.lt (by rw[B0];exact hb)
 ·exact ly.p.lt (by rw[B0];exact hb)
 ·exact ly.w.lt (by rw[B0];exact hb)
 ·cases hb
theorem live(ly:Lays h L s):∀ j b,b∈px L s j→∃ x,aG h b=some x:=by
 have od:∀{l:OL}{ks:List ByteArray}{vs:List (List AV)}{t:Int}{b:Nat},Od h l ks vs t→b∈idx l ks.length→∃ x,aG h b=some x:=fun {l ks vs t b} od hb=>by
  rw[←oC (ks:=ks) (t:=t) (od.ek.trans od.vk.symm)]at hb;obtain⟨p,hp,rfl⟩:=D8.1 hb;exact⟨_,od.hd.1 p hp⟩
 intro j b hb;unfold px at hb;split at hb;·rw[B5]at hb;subst hb;exact⟨_,ly.hc⟩
 ·rw[B2,bQ]at hb
  rcases hb with ⟨hk,rfl⟩|hb;·exact⟨_,ly.tk.hb hk⟩
  ·obtain⟨i,hi⟩:=G7 hb
   have h2:i<s.tickets.length:=by rw[←ly.tk.el];exact(A5.1 hi).1
   exact⟨_,ly.tk.he i b _ hi (A7 h2)⟩
 ·rw[bQ]at hb;obtain⟨hk,rfl⟩:=hb;exact⟨_,ly.bk hk⟩
 ·exact od ly.f (by rw[B0];exact hb)
 ·exact od ly.m (by rw[B0];exact hb)
 ·exact od ly.p (by rw[B0];exact hb)
 ·exact od ly.w (by rw[B0];exact hb)
 ·cases hb
theorem off(ly:Lays h L s){i j:Nat}(hne:i≠j){b:Nat}(hi:b∈px L s i):b∉px L s j:=fun hj=>hne (ly.dj i j b hi hj)
theorem fr(ly:Lays h L s){J:List Nat}(f:Fr J h h')(hd:∀ j b,b∈px L s j→b∉J):Lays h' L s where
 hc:=by rw[f.keep L.c (aF ly.hc) (hd 0 L.c (by simp[px]))];exact ly.hc
 tk:=ly.tk.fr f fun b hb=>hd 1 b hb
 bk hk:=by rw[f.keep L.kb (aF (ly.bk hk)) (hd 2 L.kb (bQ.2 ⟨hk,rfl⟩))];exact ly.bk hk
 f:=ly.f.fr f fun b hb=>hd 3 b (by rw[B0]at hb;exact hb)
 m:=ly.m.fr f fun b hb=>hd 4 b (by rw[B0]at hb;exact hb)
 p:=ly.p.fr f fun b hb=>hd 5 b (by rw[B0]at hb;exact hb)
 w:=ly.w.fr f fun b hb=>hd 6 b (by rw[B0]at hb;exact hb)
 dj:=ly.dj
theorem ext(ly:Lays h L s)(k:XH):Lays (h++k) L s:=ly.fr (Fr.app h k) fun _ _ _ hb=>by cases hb
theorem setf(ly:Lays h L s){l':OL}{xs:List (ByteArray×Int)}(od:Od h' l' (xs.map (·.1)) (xs.map fun p=>[I p.2]) 9)(fr:Fr (idx L.f s.farmers.length) h h')(sub:∀ b,b∈idx l' xs.length→b∈idx L.f s.farmers.length∨h.length≤b)(ho:l'.o=L.f.o):Lays h' { L with f:=l' } { s with farmers:=xs } where
 hc:=by rw[fr.keep L.c (aF ly.hc) (ly.off (i:=0) (j:=3) (by decide) (by simp[px]))];rw[ly.hc];unfold cG;simp only[ho]
 tk:=ly.tk.fr fr fun b hb=>ly.off (i:=1) (j:=3) (by decide) hb
 bk hk:=by rw[fr.keep L.kb (aF (ly.bk hk)) (ly.off (i:=2) (j:=3) (by decide) (bQ.2 ⟨hk,rfl⟩))];exact ly.bk hk
 f:=od
 m:=ly.m.fr fr fun b hb=>by rw[B0]at hb;exact ly.off (i:=4) (j:=3) (by decide) hb
 p:=ly.p.fr fr fun b hb=>by rw[B0]at hb;exact ly.off (i:=5) (j:=3) (by decide) hb
 w:=ly.w.fr fr fun b hb=>by rw[B0]at hb;exact ly.off (i:=6) (j:=3) (by decide) hb
 dj:=wJ (· = 3) ly.dj ly.lt (fun j hj=>by
  unfold px;split<;>first|rfl|exact absurd rfl hj) (fun j b hj hb=>by subst hj;exact sub b hb) (fun i j b hi hj _ _ _=>hi.trans hj.symm)
theorem setm(ly:Lays h L s){l':OL}{xs:List (ByteArray×Int×Int)}(od:Od h' l' (xs.map (·.1)) (xs.map fun p=>[I p.2.1,I p.2.2]) 5)(fr:Fr (idx L.m s.meters.length) h h')(sub:∀ b,b∈idx l' xs.length→b∈idx L.m s.meters.length∨h.length≤b)(ho:l'.o=L.m.o):Lays h' { L with m:=l' } { s with meters:=xs } where
 hc:=by rw[fr.keep L.c (aF ly.hc) (ly.off (i:=0) (j:=4) (by decide) (by simp[px]))];rw[ly.hc];unfold cG;simp only[ho]
 tk:=ly.tk.fr fr fun b hb=>ly.off (i:=1) (j:=4) (by decide) hb
 bk hk:=by rw[fr.keep L.kb (aF (ly.bk hk)) (ly.off (i:=2) (j:=4) (by decide) (bQ.2 ⟨hk,rfl⟩))];exact ly.bk hk
 f:=ly.f.fr fr fun b hb=>by rw[B0]at hb;exact ly.off (i:=3) (j:=4) (by decide) hb
 m:=od
 p:=ly.p.fr fr fun b hb=>by rw[B0]at hb;exact ly.off (i:=5) (j:=4) (by decide) hb
 w:=ly.w.fr fr fun b hb=>by rw[B0]at hb;exact ly.off (i:=6) (j:=4) (by decide) hb
 dj:=wJ (· = 4) ly.dj ly.lt (fun j hj=>by
  unfold px;split<;>first|rfl|exact absurd rfl hj) (fun j b hj hb=>by subst hj;exact sub b hb) (fun i j b hi hj _ _ _=>hi.trans hj.symm)
theorem setp(ly:Lays h L s){l':OL}{xs:List (ByteArray×Int)}(od:Od h' l' (xs.map (·.1)) (xs.map fun p=>[I p.2]) 5)(fr:Fr (idx L.p s.pans.length) h h')(sub:∀ b,b∈idx l' xs.length→b∈idx L.p s.pans.length∨h.length≤b)(ho:l'.o=L.p.o):Lays h' { L with p:=l' } { s with pans:=xs } where
 hc:=by rw[fr.keep L.c (aF ly.hc) (ly.off (i:=0) (j:=5) (by decide) (by simp[px]))];rw[ly.hc];unfold cG;simp only[ho]
 tk:=ly.tk.fr fr fun b hb=>ly.off (i:=1) (j:=5) (by decide) hb
 bk hk:=by rw[fr.keep L.kb (aF (ly.bk hk)) (ly.off (i:=2) (j:=5) (by decide) (bQ.2 ⟨hk,rfl⟩))];exact ly.bk hk
 f:=ly.f.fr fr fun b hb=>by rw[B0]at hb;exact ly.off (i:=3) (j:=5) (by decide) hb
 m:=ly.m.fr fr fun b hb=>by rw[B0]at hb;exact ly.off (i:=4) (j:=5) (by decide) hb
 p:=od
 w:=ly.w.fr fr fun b hb=>by rw[B0]at hb;exact ly.off (i:=6) (j:=5) (by decide) hb
 dj:=wJ (· = 5) ly.dj ly.lt (fun j hj=>by
  unfold px;split<;>first|rfl|exact absurd rfl hj) (fun j b hj hb=>by subst hj;exact sub b hb) (fun i j b hi hj _ _ _=>hi.trans hj.symm)
theorem setw(ly:Lays h L s){l':OL}{xs:List (ByteArray×Int)}(od:Od h' l' (xs.map (·.1)) (xs.map fun p=>[I p.2]) 300)(fr:Fr (idx L.w s.wagons.length) h h')(sub:∀ b,b∈idx l' xs.length→b∈idx L.w s.wagons.length∨h.length≤b)(ho:l'.o=L.w.o):Lays h' { L with w:=l' } { s with wagons:=xs } where
 hc:=by rw[fr.keep L.c (aF ly.hc) (ly.off (i:=0) (j:=6) (by decide) (by simp[px]))];rw[ly.hc];unfold cG;simp only[ho]
 tk:=ly.tk.fr fr fun b hb=>ly.off (i:=1) (j:=6) (by decide) hb
 bk hk:=by rw[fr.keep L.kb (aF (ly.bk hk)) (ly.off (i:=2) (j:=6) (by decide) (bQ.2 ⟨hk,rfl⟩))];exact ly.bk hk
 f:=ly.f.fr fr fun b hb=>by rw[B0]at hb;exact ly.off (i:=3) (j:=6) (by decide) hb
 m:=ly.m.fr fr fun b hb=>by rw[B0]at hb;exact ly.off (i:=4) (j:=6) (by decide) hb
 p:=ly.p.fr fr fun b hb=>by rw[B0]at hb;exact ly.off (i:=5) (j:=6) (by decide) hb
 w:=od
 dj:=wJ (· = 6) ly.dj ly.lt (fun j hj=>by
  unfold px;split<;>first|rfl|exact absurd rfl hj) (fun j b hj hb=>by subst hj;exact sub b hb) (fun i j b hi hj _ _ _=>hi.trans hj.symm)
end Lays
end Go.Proofs.YtmapgnepfgnphaaGreatDoor
namespace Go.Proofs.YtmapgnepfgnphaaGreatDoor
open Go Go.DL
variable{h h' h1:XH}{L:CL}{s:dD}
theorem Fr.set{J:List Nat}(f:Fr J h h1){b:Nat}(hb:b∈J)(x:Option XB):Fr J h (h1.set b x):=⟨fun j hj hn=>by
 have hne:j≠b:=fun q=>hn (q▸hb);have:aG (h1.set b x) j=aG h1 j:=by simp only[aG,Pq,if_neg hne]
 rw[this];exact f.keep j hj hn,by rw[C0];exact f.len⟩
theorem Fr.add{J:List Nat}(f:Fr J h h1)(k:XH):Fr J h (h1++k):=f.trans ((Fr.app h1 k).mono fun _ hb=>by cases hb)
namespace Lays
theorem setC(ly:Lays h L s){tb' kb' cl:Nat}{te':List Nat}{ks:List CTk}{bk:List ByteArray}(hc':aG h' L.c=some (.cells true [.pt L.f.o 0,.pt L.m.o 0,.pt L.p.o 0,.pt L.w.o 0,iC tb' ks.length,I cl,iC kb' bk.length]))(tk':Tk h' tb' te' ks)(bk':0<bk.length→aG h' kb'=some (.cells true (bk.map .str)))
 (fr:Fr (L.c::((mO L.tb s.tickets.length++L.te)++mO L.kb s.book.length)) h h') (s1:∀ b,b∈mO tb' ks.length++te'→b∈mO L.tb s.tickets.length++L.te∨h.length≤b) (s2:∀ b,b∈mO kb' bk.length→b∈mO L.kb s.book.length∨h.length≤b) (s12:∀ b,b∈mO tb' ks.length++te'→b∈mO kb' bk.length→b<h.length) :
 Lays h' { L with tb:=tb',te:=te',kb:=kb' } { s with tickets:=ks,closed:=cl,book:=bk }:=by
 have xV:∀ j b,3≤j→b∈px L s j→b∉L.c::((mO L.tb s.tickets.length++L.te)++mO L.kb s.book.length):=fun j b hj hb hm=>by
  rw[B4,B2]at hm;rcases hm with rfl|hm|hm;·exact ly.off (i:=j) (j:=0) (by omega) hb (by simp[px])
  ·exact ly.off (i:=j) (j:=1) (by omega) hb hm
  ·exact ly.off (i:=j) (j:=2) (by omega) hb hm
 refine⟨hc',tk',bk',ly.f.fr fr fun b hb=>xV 3 b (by decide) (by rw[B0]at hb;exact hb),ly.m.fr fr fun b hb=>xV 4 b (by decide) (by rw[B0]at hb;exact hb),ly.p.fr fr fun b hb=>xV 5 b (by decide) (by rw[B0]at hb;exact hb),ly.w.fr fr fun b hb=>xV 6 b (by decide) (by rw[B0]at hb;exact hb),?_⟩;refine wJ (· < 3) ly.dj ly.lt (fun j hj=>?_) (fun j b hj hb=>?_) (fun i j b hi hj h1 h2 hn=>?_)
 ·unfold px
  split<;>first|rfl|exact absurd (by decide) hj
 ·match j,hj with
  | 0,_=>exact .inl hb
  | 1,_=>exact s1 b hb
  | 2,_=>exact s2 b hb
 ·have c0:∀ b,b∈px { L with tb:=tb',te:=te',kb:=kb' } { s with tickets:=ks,closed:=cl,book:=bk } 0→b<h.length:=fun b hb=>by
   have hb:b=L.c:=by simpa [px]using hb
   subst hb;exact aF ly.hc
  match i,hi,j,hj with
  | 0,_,0,_=>rfl
  | 1,_,1,_=>rfl
  | 2,_,2,_=>rfl
  | 0,_,1,_=>have:=c0 b h1;omega
  | 0,_,2,_=>have:=c0 b h1;omega
  | 1,_,0,_=>have:=c0 b h2;omega
  | 2,_,0,_=>have:=c0 b h2;omega
  | 1,_,2,_=>have:=s12 b h1 h2;omega
  | 2,_,1,_=>have:=s12 b h2 h1;omega
theorem cNe(ly:Lays h L s):(∀ b∈mO L.tb s.tickets.length++L.te,b≠L.c)∧(∀ b∈mO L.kb s.book.length,b≠L.c)∧∀ b,b∈mO L.tb s.tickets.length++L.te→b∉mO L.kb s.book.length :=
 ⟨fun b hb q=>ly.off (i:=1) (j:=0) (by decide) hb (by simp[px,q]),fun b hb q=>ly.off (i:=2) (j:=0) (by decide) hb (by simp[px,q]),fun b hb=>ly.off (i:=1) (j:=2) (by decide) hb⟩
theorem bookApp(ly:Lays h L s){kb':Nat}{line:ByteArray}(hn:h.length≤kb')(hc':aG h' L.c=some (.cells true (cG { L with kb:=kb' } { s with book:=s.book++[line] })))(hb':aG h' kb'=some (.cells true (s.book.map .str++[.str line])))(fr:Fr (L.c::mO L.kb s.book.length) h h') :
 Lays h' { L with kb:=kb' } { s with book:=s.book++[line] }:=by
 have fr2:Fr (L.c::((mO L.tb s.tickets.length++L.te)++mO L.kb s.book.length)) h h':=fr.mono fun b hb=>by
  rw[B4]at hb ⊢;exact hb.imp id fun q=>E5 _ q
 refine ly.setC (tb':=L.tb) (te':=L.te) (ks:=s.tickets) (cl:=s.closed) hc' (ly.tk.fr fr fun b hb hm=>?_) (fun _=>by rw[hb'];simp) fr2 (fun b hb=>.inl hb) (fun b hb=>.inr ?_) (fun b hb hb2=>ly.tk.lt hb)
 ·rw[B4]at hm
  rcases hm with hm|hm;·exact ly.cNe.1 b hb hm
  ·exact ly.cNe.2.2 b hb hm
 ·rw[bQ]at hb;omega
theorem tickApp(ly:Lays h L s){tb' e:Nat}{k:CTk}(he:h.length≤e)(hn:h.length≤tb')(hne:tb'≠e)(hc':aG h' L.c=some (.cells true (cG { L with tb:=tb' } { s with tickets:=s.tickets++[k] })))(hb':aG h' tb'=some (.cells true (L.te.map (fun e=>.pt e 0)++[.pt e 0])))(hk':aG h' e=some (.cells true (tkC k)))(fr:Fr (L.c::mO L.tb s.tickets.length) h h') :
 Lays h' { L with tb:=tb',te:=L.te++[e] } { s with tickets:=s.tickets++[k] }:=by
 have fr2:Fr (L.c::((mO L.tb s.tickets.length++L.te)++mO L.kb s.book.length)) h h':=fr.mono fun b hb=>by
  rw[B4]at hb ⊢;exact hb.imp id fun q=>E8 _ (E8 _ q)
 have tl:=ly.tk.lts.2;have tkeep:∀ b∈L.te,aG h' b=aG h b:=fun b hb=>fr.keep b (tl b hb) fun hm=>by
  rw[B4,bQ]at hm;rcases hm with hm|⟨hk,hm⟩;·exact ly.cNe.1 b (E5 _ hb) hm
  ·exact ly.tk.nb hk (hm▸hb)
 refine ly.setC (kb':=L.kb) (cl:=s.closed) (bk:=s.book) hc' ⟨by simp[ly.tk.el],fun _=>by rw[hb'];simp,fun i e' k' hi hk=>?_,?_,fun _ hm=>?_⟩ (fun hk=>?_) fr2 (fun b hb=>?_) (fun b hb=>.inl hb) (fun b hb hb2=>?_)
 ·by_cases hl:i<L.te.length
  ·rw[F9 hl]at hi
   rw[F9 (by rw[←ly.tk.el];exact hl)]at hk;rw[tkeep e' (A8 hi)];exact ly.tk.he i e' k' hi hk
  ·rw[D1 (by omega)]at hi
   rw[D1 (by rw[←ly.tk.el];omega),←ly.tk.el]at hk;have h0:i-L.te.length=0:=by
    have:=(A5.1 hi).1;simpa using this
   rw[h0]at hi hk;cases hi;cases hk;exact hk'
 ·rw[I3]
  refine⟨ly.tk.nd,by simp,fun a ha b hb=>?_⟩;rw[B5]at hb;have:=tl a ha;omega
 ·rw[B2,B5]at hm
  rcases hm with hm|hm;·have:=tl _ hm;omega
  ·exact hne hm
 ·have hl:=aF (ly.bk hk)
  rw[fr.keep L.kb hl fun hm=>?_];·exact ly.bk hk
  ·rw[B4]at hm
   rcases hm with hm|hm;·exact ly.cNe.2.1 _ (bQ.2 ⟨hk,rfl⟩) hm
   ·exact ly.cNe.2.2 _ (E8 _ hm) (bQ.2 ⟨hk,rfl⟩)
 ·rw[B2,B2,bQ,B5]at hb
  rcases hb with ⟨_,rfl⟩|hb|rfl;·exact .inr hn
  ·exact .inl (E5 _ hb)
  ·exact .inr he
 ·rw[bQ]at hb2
  obtain⟨hk,rfl⟩:=hb2;exact aF (ly.bk hk)
theorem close(ly:Lays h L s){cl:Nat}(hc':aG h' L.c=some (.cells true (cG L { s with closed:=cl })))(fr:Fr [L.c] h h'):Lays h' L { s with closed:=cl }:=by
 have fr2:Fr (L.c::((mO L.tb s.tickets.length++L.te)++mO L.kb s.book.length)) h h':=fr.mono fun b hb=>by
  rw[B5]at hb;rw[hb];exact aB5
 refine ly.setC (tb':=L.tb) (te':=L.te) (kb':=L.kb) (ks:=s.tickets) (bk:=s.book) hc' (ly.tk.fr fr fun b hb hm=>?_) (fun hk=>?_) fr2 (fun b hb=>.inl hb) (fun b hb=>.inl hb) (fun b hb hb2=>ly.tk.lt hb);·rw[B5]at hm;exact ly.cNe.1 b hb hm
 ·rw[fr.keep L.kb (aF (ly.bk hk)) fun hm=>ly.cNe.2.1 _ (bQ.2 ⟨hk,rfl⟩) (by simpa using hm)];exact ly.bk hk
theorem tickSet(ly:Lays h L s){i e:Nat}{k:CTk}{g:Bool}(he:L.te[i]?=some e):Lays (h.set e (some (.blk g (.cells true (tkC k))))) L { s with tickets:=s.tickets.set i k }:=by
 have hm:=A8 he;have el:=ly.tk.lts.2 e hm;have fr0:Fr [e] h (h.set e (some (.blk g (.cells true (tkC k))))):=(Fr.refl [e] h).set (by simp) _;have fr2:Fr (L.c::((mO L.tb s.tickets.length++L.te)++mO L.kb s.book.length)) h (h.set e (some (.blk g (.cells true (tkC k))))):=fr0.mono fun b hb=>by
  rw[B5]at hb;rw[hb];exact C8 _ (E8 _ (E5 _ hm))
 have hne:∀ b,b≠e→aG (h.set e (some (.blk g (.cells true (tkC k))))) b=aG h b:=fun b hb=>by rw[cJ,if_neg hb]
 have hll:(s.tickets.set i k).length=s.tickets.length:=C0;refine ly.setC (tb':=L.tb) (te':=L.te) (kb':=L.kb) (ks:=s.tickets.set i k) (cl:=s.closed) (bk:=s.book) ?_ ⟨by rw[hll];exact ly.tk.el,fun hk=>?_,fun j e' k' hj hk=>?_,ly.tk.nd,fun hk=>ly.tk.nb (by rw[hll]at hk;exact hk)⟩ (fun hk=>?_) fr2 (fun b hb=>.inl (by rw[hll]at hb;exact hb)) (fun b hb=>.inl hb) (fun b hb hb2=>ly.tk.lt (by rw[hll]at hb;exact hb));·rw[hne L.c (Ne.symm (ly.cNe.1 e (E5 _ hm))),hll];exact ly.hc
 ·rw[hll]at hk
  rw[hne L.tb fun q=>ly.tk.nb hk (q▸hm)];exact ly.tk.hb hk
 ·by_cases hij:j=i
  ·subst hij
   rw[he]at hj;cases hj;have hl:j<s.tickets.length:=by rw[←ly.tk.el];exact(A5.1 he).1
   rw[M5 hl]at hk;cases hk;rw[cJ,if_pos rfl,if_pos el]
  ·rw[aA3 (fun q=>hij q.symm)]at hk
   rw[hne e' fun q=>hij ((aE1 (A5.1 hj).1 ly.tk.nd).1 (hj.trans (q▸he.symm)))];exact ly.tk.he j e' k' hj hk
 ·rw[hne L.kb fun q=>ly.cNe.2.2 e (E5 _ hm) (bQ.2 ⟨hk,q.symm⟩)];exact ly.bk hk
end Lays
end Go.Proofs.YtmapgnepfgnphaaGreatDoor
namespace Go.Proofs.YtmapgnepfgnphaaGreatDoor
open Go Go.DL
variable{h h' h1:XH}{L:CL}{s:dD}{x:ByteArray}
def eV:List (ByteArray×Int)→ByteArray→Int→List (ByteArray×Int)
 | [],x,d=>[(x,d)]
 | (k,v)::r,x,d=>if k=x then (k,v+d)::r else (k,v)::eV r x d
theorem gG{d v:Int}:∀{l:List (ByteArray×Int)}{i:Nat},dE (l.map (·.1)) x=some i→(l.map (·.2))[i]?=some v→eV l x d=l.set i (x,v+d)
 | [],i,h,_=>by cases h
 | (k,w)::r,i,h,hv=>by
   have h2:(if k=x then some 0 else (dE (r.map (·.1)) x).map (· + 1))=some i:=h;unfold eV;by_cases e:k=x
   ·rw[if_pos e]at h2 ⊢
    cases h2;have:w=v:=by simpa using hv
    rw[this,e];rfl
   ·rw[if_neg e]at h2 ⊢
    rw[A0]at h2;obtain⟨j,hj,rfl⟩:=h2;rw[gG (l:=r) hj (by simpa using hv)];rfl
theorem aDw{d:Int}:∀{l:List (ByteArray×Int)},dE (l.map (·.1)) x=none→eV l x d=l++[(x,d)]
 | [],_=>rfl
 | (k,w)::r,h=>by
   have h2:(if k=x then some 0 else (dE (r.map (·.1)) x).map (· + 1))=none:=h;unfold eV;by_cases e:k=x;·rw[if_pos e]at h2;cases h2
   ·rw[if_neg e]at h2 ⊢
    rw[O5]at h2;rw[aDw h2];rfl
theorem lK{α β:Type}{f:α→β}{l:List α}{i:Nat}{a:α}{b:β}(h:(l.map f)[i]?=some b)(hf:f a=b):(l.set i a).map f=l.map f:=by
 rw[aF0,hf];obtain⟨hl,rfl⟩:=A5.1 h;exact List.set_getElem_self hl
def sI(L:CL)(s:dD):List Nat:=px L s 0++(px L s 1++(px L s 2++(px L s 3++(px L s 4++(px L s 5++px L s 6)))))
theorem bJ{b:Nat}:b∈sI L s↔∃ j,b∈px L s j:=by
 unfold sI;simp only[B2];constructor
 ·rintro (h|h|h|h|h|h|h)
  all_goals exact⟨_,h⟩
 ·rintro ⟨j,h⟩
  match j with
  | 0=>exact .inl h
  | 1=>exact .inr (.inl h)
  | 2=>exact .inr (.inr (.inl h))
  | 3=>exact .inr (.inr (.inr (.inl h)))
  | 4=>exact .inr (.inr (.inr (.inr (.inl h))))
  | 5=>exact .inr (.inr (.inr (.inr (.inr (.inl h)))))
  | 6=>exact .inr (.inr (.inr (.inr (.inr (.inr h)))))
  | _+7=>cases h
theorem iO{l:OL}{n b:Nat}:b∈idx l n↔b=l.o∨b=l.m∨(0<n∧b=l.b)∨b∈l.es:=by
 unfold idx;rw[B4,B4,B2];have:b∈(if n=0 then ([]:List Nat) else [l.b])↔0<n∧b=l.b:=bQ;rw[this]
theorem mW{l:OL}{n k:Nat}{b:Nat}(hb:b∈idx ⟨l.o,l.m,k+1,l.es++[k+2]⟩ n){m:Nat}:b∈idx l m∨k≤b:=by
 rw[iO]at hb;rcases hb with hb|hb|⟨_,hb⟩|hb;·exact .inl (iO.2 (.inl hb))
 ·exact .inl (iO.2 (.inr (.inl hb)))
 ·exact .inr (by rw[hb];show k≤k+1;omega)
 ·rcases B2.1 hb with hb|hb
  ·exact .inl (iO.2 (.inr (.inr (.inr hb))))
  ·rw[B5]at hb;exact .inr (by omega)
def Sb(N:Nat)(L:CL)(s:dD)(L':CL)(s':dD):Prop:=∀ b,b∈sI L' s'→b∈sI L s∨N≤b
theorem Sb.of{N:Nat}{L L':CL}{s s':dD}(h0:L'.c=L.c)(h1:∀ b,b∈mO L'.tb s'.tickets.length++L'.te→b∈mO L.tb s.tickets.length++L.te∨N≤b)(h2:∀ b,b∈mO L'.kb s'.book.length→b∈mO L.kb s.book.length∨N≤b)
 (h3:∀ b,b∈idx L'.f s'.farmers.length→b∈idx L.f s.farmers.length∨N≤b) (h4:∀ b,b∈idx L'.m s'.meters.length→b∈idx L.m s.meters.length∨N≤b) (h5:∀ b,b∈idx L'.p s'.pans.length→b∈idx L.p s.pans.length∨N≤b) (h6:∀ b,b∈idx L'.w s'.wagons.length→b∈idx L.w s.wagons.length∨N≤b):Sb N L s L' s':=fun b hb=>by
 obtain⟨j,hj⟩:=bJ.1 hb;match j,hj with
 | 0,hj=>exact .inl (bJ.2 ⟨0,by simpa [px,h0]using hj⟩)
 | 1,hj=>exact(h1 b hj).imp (fun q=>bJ.2 ⟨1,q⟩) id
 | 2,hj=>exact(h2 b hj).imp (fun q=>bJ.2 ⟨2,q⟩) id
 | 3,hj=>exact(h3 b hj).imp (fun q=>bJ.2 ⟨3,q⟩) id
 | 4,hj=>exact(h4 b hj).imp (fun q=>bJ.2 ⟨4,q⟩) id
 | 5,hj=>exact(h5 b hj).imp (fun q=>bJ.2 ⟨5,q⟩) id
 | 6,hj=>exact(h6 b hj).imp (fun q=>bJ.2 ⟨6,q⟩) id
 | _+7,hj=>cases hj
theorem cM{l:OL}{n n' N:Nat}(h:n'=n):∀ b,b∈idx l n'→b∈idx l n∨N≤b:=fun b hb=>.inl (h▸hb)
theorem aAs{t n n' N:Nat}{te:List Nat}(h:n'=n):∀ b,b∈mO t n'++te→b∈mO t n++te∨N≤b:=fun b hb=>.inl (h▸hb)
theorem qP{t n n' N:Nat}(h:n'=n):∀ b,b∈mO t n'→b∈mO t n∨N≤b:=fun b hb=>.inl (h▸hb)
theorem Fr.keepS{J:List Nat}(f:Fr J h h1){b:Nat}{c:ABlk}(hb:aG h b=some c)(hn:b∉J):aG h1 b=some c:=by
 rw[f.keep b (aF hb) hn];exact hb
def aGs(c:Nat)(x:ByteArray)(a b:Int):XH:=[some (.blk false (.cells true [.pt c 0])),some (.blk true (.cells true [.str x])),some (.blk true (.cells true [I a])),some (.blk true (.cells true [I b]))]
theorem w94(ly:Lays h L s){a b:Int}(hab:b≤a)(hf:(decide (dE (s.pans.map (·.1)) x=none)&&decide (((s.pans.map (·.1)).length:Int)=5))=false) :
 runW aD 94 [.pt L.c 0,.str x,I a,I b] h=some (.fn (.func 135) [] [.pt h.length 0,.pt (h.length+1) 0,.pt (h.length+2) 0,.pt (h.length+3) 0],h++aGs L.c x a b):=by
 obtain⟨n,hn⟩:∃ n,h.length=n:=⟨_,rfl⟩;obtain⟨g,hc⟩:=aB ly.hc;unfold cG at hc;have cn:(L.c<n)=True:=AAm (by rw[←hn];exact aF ly.hc);have f1:=(ly.p.fr (Fr.app h (aGs L.c x a b)) (fun _ _ hb=>by cases hb)).fullp (x:=x) (by decide);rw[hf]at f1;have m1:=uQ 10;have m2:=uQ 15;have t1:(b≤a)=True:=AAm hab;rw[qY 94 x94 rfl,hn];unfold x94;dsimp only;unfold aGs at f1 ⊢;(exact RS7 hc hn cn f1 m1 m2 t1)
theorem bAZ(ly:Lays h L s){a b:Int}(hab:¬b≤a):CalP Tryz.prog aD 94 [.pt L.c 0,.str x,I a,I b] h (.ifc 110 (.agg [I 10])) (h++aGs L.c x a b):=by
 refine CalP.of (d:=x94) (e':=bW [] []) aA rfl (by simp[x94]) rfl ?_;unfold x94;dsimp only;obtain⟨n,hn⟩:∃ n,h.length=n:=⟨_,rfl⟩;have t1:(b≤a)=False:=AAn hab;refine PanX.seqR (K:=94) aA rfl [4,5,6,7] (vs:=[.pt n 0,.pt (n+1) 0,.pt (n+2) 0,.pt (n+3) 0]) (h1:=h++aGs L.c x a b) (by rw[hn];unfold aGs; (exact eD hn)) ?_;refine PanX.seqL ?_;exact PanX.reg (p:=[⟨0,some 9,.load false 1 (.t 7),none⟩,⟨0,some 10,.load false 1 (.t 6),none⟩,⟨0,some 11,.bin .leq (.t 9) (.t 10),none⟩]) (post:=[]) aA [] (g:=58) (first:=[]) (cap:=[]) (args:=[.bool false,I 10]) (vs:=[]) rfl rfl (by unfold aGs; (exact RS2 hn t1)) (c58 10 _)
variable{h h' h1:XH}{L:CL}{s:dD}{x:ByteArray}
def Out(L:CL)(s:dD)(bs:List Nat):Prop:=∀ b∈bs,b∉sI L s
theorem Lays.px_out(ly:Lays h L s){bs:List Nat}(o:Out L s bs){j b:Nat}(hb:b∈bs):b∉px L s j:=fun hm=>o b hb (bJ.2 ⟨j,hm⟩)
theorem Fr.px{j:Nat}(f:Fr (px L s j) h h'):Fr (sI L s) h h':=f.mono fun b hb=>bJ.2 ⟨j,hb⟩
theorem Lays.oldP(ly:Lays h L s){i e:Nat}{v d:Int}{g:Bool}(hx:dE (s.pans.map (·.1)) x=some i)(hv:(s.pans.map (·.2))[i]?=some v)(he:L.p.es[i]?=some e):Lays (h.set e (some (.blk g (.cells true [I (v+d)])))) L { s with pans:=eV s.pans x d }:=by
 obtain⟨u1,u2⟩:=ly.p.upd (v:=[I (v+d)]) (g:=g) he;have hm:e∈idx L.p s.pans.length:=iO.2 (.inr (.inr (.inr (A8 he))));have ha:=gG (d:=d) hx hv;have hk:(s.pans.set i (x,v+d)).map (·.1)=s.pans.map (·.1):=lK (eY hx) rfl;rw[ha];refine ly.setp (l':=L.p) (xs:=s.pans.set i (x,v+d)) ?_ (u2.mono fun b hb=>by rw[B5]at hb;rw[hb];exact hm) (fun b hb=>.inl (by rw[C0]at hb;exact hb)) rfl;rw[hk,aF0];exact u1
theorem Fr.setNew{J:List Nat}(f:Fr J h h1){b:Nat}(hb:h.length≤b)(y:Option XB):Fr J h (h1.set b y):=⟨fun j hj hn=>by
 have hne:j≠b:=by omega
 have:aG (h1.set b y) j=aG h1 j:=by simp only[aG,Pq,if_neg hne]
 rw[this];exact f.keep j hj hn,by rw[C0];exact f.len⟩
theorem Lays.newP(ly:Lays h L s){d:Int}{g:Bool}(hx:dE (s.pans.map (·.1)) x=none)(od:Od h1 ⟨L.p.o,L.p.m,h.length+1,L.p.es++[h.length+2]⟩ (s.pans.map (·.1)++[x]) (s.pans.map (fun p=>[I p.2])++[[I 0]]) 5)(fr:Fr (idx L.p s.pans.length) h h1) :
 Lays (h1.set (h.length+2) (some (.blk g (.cells true [I d])))) { L with p:=⟨L.p.o,L.p.m,h.length+1,L.p.es++[h.length+2]⟩ } { s with pans:=eV s.pans x d }∧Fr (idx L.p s.pans.length) h (h1.set (h.length+2) (some (.blk g (.cells true [I d])))):=by
 have fr2:Fr (idx L.p s.pans.length) h (h1.set (h.length+2) (some (.blk g (.cells true [I d])))):=fr.setNew (by omega) _;refine⟨?_,fr2⟩;have hl:L.p.es.length=s.pans.length:=by rw[ly.p.ek,B0]
 have he:(L.p.es++[h.length+2])[s.pans.length]?=some (h.length+2):=by
  rw[←hl,D1 (B7 _)];simp
 obtain⟨u1,u2⟩:=od.upd (v:=[I d]) (g:=g) he;rw[aDw (d:=d) hx];refine ly.setp (l':=⟨L.p.o,L.p.m,h.length+1,L.p.es++[h.length+2]⟩) (xs:=s.pans++[(x,d)]) ?_ fr2 (fun b hb=>?_) rfl
 ·have:(s.pans.map (fun p=>[I p.2])++[[I 0]]).set s.pans.length [I d]=(s.pans++[(x,d)]).map (fun p=>[I p.2]):=by
   rw[aC2 _ _ (by simp)];simp
  rw[←this,F7];exact u1
 ·rw[iO]at hb
  rcases hb with hb|hb|⟨_,hb⟩|hb;·exact .inl (iO.2 (.inl hb))
  ·exact .inl (iO.2 (.inr (.inl hb)))
  ·exact .inr (by rw[hb];show h.length≤h.length+1;omega)
  ·rcases B2.1 hb with hb|hb
   ·exact .inl (iO.2 (.inr (.inr (.inr hb))))
   ·rw[B5]at hb;exact .inr (by omega)
theorem aXt(ly:Lays h L s){b0 b1 b2 b3:Nat}{a b:Int}(o:Out L s [b0,b1,b2,b3])(k0:aG h b0=some (.cells true [.pt L.c 0]))(k1:aG h b1=some (.cells true [.str x]))(k2:aG h b2=some (.cells true [I a]))(k3:aG h b3=some (.cells true [I b]))(hab:0≤b∧b≤a∧a≤99999)(sm:∀ p∈s.pans,0≤p.2∧p.2≤1000000000)(hl:s.pans.length≤1000) :
 ∃ h' L',runW aD 135 [.pt b0 0,.pt b1 0,.pt b2 0,.pt b3 0] h=some (.tup [],h')∧Lays h' L' { s with pans:=eV s.pans x (a-b) }∧L'.c=L.c∧Fr (sI L s) h h'∧Sb h.length L s L' { s with pans:=eV s.pans x (a-b) }:=by
 obtain⟨g0,j0⟩:=aB k0;obtain⟨g1,j1⟩:=aB k1;obtain⟨g4,hc⟩:=aB ly.hc;unfold cG at hc;have a1:IntKind.i64.wrap (a-b)=a-b:=aJ (by omega) (by omega);cases hx:dE (s.pans.map (·.1)) x with
 | some i =>
   obtain⟨e,v,he,hv,hev,call⟩:=ly.p.oldp hx;have hv2:∃ v0,(s.pans.map (·.2))[i]?=some v0∧v=[I v0]:=by
    rw[A9]at hv ⊢;cases hq:s.pans[i]? with
    | none=>rw[hq]at hv;cases hv
    | some q=>rw[hq]at hv;cases hv;exact⟨_,rfl,rfl⟩
   obtain⟨v0,hv0,rfl⟩:=hv2;have hb:0≤v0∧v0≤1000000000:=by
    obtain⟨q,hq,rfl⟩:=D8.1 (A8 hv0);exact sm q hq
   obtain⟨g5,he5⟩:=aB hev;obtain⟨g2,j2⟩:=aB k2;obtain⟨g3,j3⟩:=aB k3;have a2:IntKind.i64.wrap (v0+(a-b))=v0+(a-b):=aJ (by omega) (by omega);refine⟨_,L,?_,ly.oldP (g:=g5) (d:=a-b) hx hv0 he,rfl,Fr.px (j:=5) ((Fr.refl _ h).set (iO.2 (.inr (.inr (.inr (A8 he))))) _),.of rfl (aAs rfl) (qP rfl) (cM rfl) (cM rfl) (cM (by rw[gG hx hv0,C0])) (cM rfl)⟩;rw[qY 135 aIS rfl];unfold aIS;dsimp only;(exact RS9 j0 j1 j2 j3 hc call he5 a1 a2)
 | none =>
   obtain⟨h1,call,hl1,od1,fr1⟩:=ly.p.newp hx (by rw[B0];exact hl);rw[B0]at fr1;obtain⟨g2,j2⟩:=aB (fr1.keepS k2 (ly.px_out (j:=5) o (by simp)));obtain⟨g3,j3⟩:=aB (fr1.keepS k3 (ly.px_out (j:=5) o (by simp)));obtain⟨g6,i0⟩:=aB (fr1.keepS k0 (ly.px_out (j:=5) o (by simp)));obtain⟨g7,i1⟩:=aB (fr1.keepS k1 (ly.px_out (j:=5) o (by simp)));obtain⟨g8,ic⟩:=aB (fr1.keepS ly.hc (ly.off (i:=0) (j:=5) (by decide) (by simp[px])));have hll:L.p.es.length=s.pans.length:=by rw[ly.p.ek,B0]
   have he1:(L.p.es++[h.length+2])[s.pans.length]?=some (h.length+2):=by
    rw[←hll,D1 (B7 _)];simp
   obtain⟨g5,he5⟩:=aB (od1.he (i:=s.pans.length) (v:=[I 0]) he1 (by rw[D1 (by simp)];simp));have a2:IntKind.i64.wrap (0+(a-b))=a-b:=by rw[aJ (by omega) (by omega)];omega
   obtain⟨z1,z2⟩:=ly.newP (d:=a-b) (g:=g5) hx od1 fr1;refine⟨_,_,?_,z1,rfl,Fr.px (j:=5) z2,.of rfl (aAs rfl) (qP rfl) (cM rfl) (cM rfl) (fun b hb=>mW hb) (cM rfl)⟩;rw[qY 135 aIS rfl];unfold aIS;dsimp only;(exact aBY j0 j1 j2 j3 i0 i1 ic hc call he5 a1 a2 aE)
variable{h h' h1:XH}{L:CL}{s:dD}{x:ByteArray}
theorem wC{l:OL}{n i e:Nat}(he:l.es[i]?=some e):e∈idx l n:=iO.2 (.inr (.inr (.inr (A8 he))))
theorem rI{α:Type}{l:List (ByteArray×α)}{i:Nat}(h:dE (l.map (·.1)) x=some i):∃ y,l[i]?=some (x,y):=by
 have h1:=eY h;rw[A9,A0]at h1;obtain⟨⟨a,y⟩,h2,rfl⟩:=h1;exact⟨y,h2⟩
theorem Lays.oldF(ly:Lays h L s){i e:Nat}{y:Int}{g:Bool}(hx:dE (s.farmers.map (·.1)) x=some i)(he:L.f.es[i]?=some e):Lays (h.set e (some (.blk g (.cells true [I y])))) L { s with farmers:=s.farmers.set i (x,y) }:=by
 obtain⟨u1,u2⟩:=ly.f.upd (v:=[I y]) (g:=g) he;have hk:(s.farmers.set i (x,y)).map (·.1)=s.farmers.map (·.1):=lK (eY hx) rfl;refine ly.setf (l':=L.f) (xs:=s.farmers.set i (x,y)) ?_ (u2.mono fun b hb=>by rw[B5]at hb;rw[hb];exact wC he) (fun b hb=>.inl (by rw[C0]at hb;exact hb)) rfl;rw[hk,aF0];exact u1
theorem Lays.addF(ly:Lays h L s)(od:Od h1 ⟨L.f.o,L.f.m,h.length+1,L.f.es++[h.length+2]⟩ (s.farmers.map (·.1)++[x]) (s.farmers.map (fun p=>[I p.2])++[[I 0]]) 9)(fr:Fr (idx L.f s.farmers.length) h h1) :
 Lays h1 { L with f:=⟨L.f.o,L.f.m,h.length+1,L.f.es++[h.length+2]⟩ } { s with farmers:=s.farmers++[(x,(0:Int))] }:=by
 refine ly.setf (l':=⟨L.f.o,L.f.m,h.length+1,L.f.es++[h.length+2]⟩) (xs:=s.farmers++[(x,(0:Int))]) ?_ fr (fun b hb=>mW hb) rfl;rw[F7,F7];exact od
theorem Lays.oldM(ly:Lays h L s){i e:Nat}{y:Int×Int}{g:Bool}(hx:dE (s.meters.map (·.1)) x=some i)(he:L.m.es[i]?=some e):Lays (h.set e (some (.blk g (.cells true [I y.1,I y.2])))) L { s with meters:=s.meters.set i (x,y) }:=by
 obtain⟨u1,u2⟩:=ly.m.upd (v:=[I y.1,I y.2]) (g:=g) he;have hk:(s.meters.set i (x,y)).map (·.1)=s.meters.map (·.1):=lK (eY hx) rfl;refine ly.setm (l':=L.m) (xs:=s.meters.set i (x,y)) ?_ (u2.mono fun b hb=>by rw[B5]at hb;rw[hb];exact wC he) (fun b hb=>.inl (by rw[C0]at hb;exact hb)) rfl;rw[hk,aF0];exact u1
theorem Lays.newM(ly:Lays h L s){y:Int×Int}{g:Bool}(od:Od h1 ⟨L.m.o,L.m.m,h.length+1,L.m.es++[h.length+2]⟩ (s.meters.map (·.1)++[x]) (s.meters.map (fun p=>[I p.2.1,I p.2.2])++[[I 0,I 0]]) 5)(fr:Fr (idx L.m s.meters.length) h h1) :
 Lays (h1.set (h.length+2) (some (.blk g (.cells true [I y.1,I y.2])))) { L with m:=⟨L.m.o,L.m.m,h.length+1,L.m.es++[h.length+2]⟩ } { s with meters:=s.meters++[(x,y)] }∧Fr (idx L.m s.meters.length) h (h1.set (h.length+2) (some (.blk g (.cells true [I y.1,I y.2])))):=by
 have fr2:Fr (idx L.m s.meters.length) h (h1.set (h.length+2) (some (.blk g (.cells true [I y.1,I y.2])))):=fr.setNew (by omega) _;refine⟨?_,fr2⟩;have hl:L.m.es.length=s.meters.length:=by rw[ly.m.ek,B0]
 have he:(L.m.es++[h.length+2])[s.meters.length]?=some (h.length+2):=by
  rw[←hl,D1 (B7 _)];simp
 obtain⟨u1,u2⟩:=od.upd (v:=[I y.1,I y.2]) (g:=g) he;refine ly.setm (l':=⟨L.m.o,L.m.m,h.length+1,L.m.es++[h.length+2]⟩) (xs:=s.meters++[(x,y)]) ?_ fr2 (fun b hb=>mW hb) rfl;have:(s.meters.map (fun p=>[I p.2.1,I p.2.2])++[[I 0,I 0]]).set s.meters.length [I y.1,I y.2]=(s.meters++[(x,y)]).map (fun p=>[I p.2.1,I p.2.2]):=by
  rw[aC2 _ _ (by simp)];simp
 rw[←this,F7];exact u1
theorem Lays.newW(ly:Lays h L s){y:Int}{g:Bool}(od:Od h1 ⟨L.w.o,L.w.m,h.length+1,L.w.es++[h.length+2]⟩ (s.wagons.map (·.1)++[x]) (s.wagons.map (fun p=>[I p.2])++[[I 0]]) 300)(fr:Fr (idx L.w s.wagons.length) h h1) :
 Lays (h1.set (h.length+2) (some (.blk g (.cells true [I y])))) { L with w:=⟨L.w.o,L.w.m,h.length+1,L.w.es++[h.length+2]⟩ } { s with wagons:=s.wagons++[(x,y)] }∧Fr (idx L.w s.wagons.length) h (h1.set (h.length+2) (some (.blk g (.cells true [I y])))):=by
 have fr2:Fr (idx L.w s.wagons.length) h (h1.set (h.length+2) (some (.blk g (.cells true [I y])))):=fr.setNew (by omega) _;refine⟨?_,fr2⟩;have hl:L.w.es.length=s.wagons.length:=by rw[ly.w.ek,B0]
 have he:(L.w.es++[h.length+2])[s.wagons.length]?=some (h.length+2):=by
  rw[←hl,D1 (B7 _)];simp
 obtain⟨u1,u2⟩:=od.upd (v:=[I y]) (g:=g) he;refine ly.setw (l':=⟨L.w.o,L.w.m,h.length+1,L.w.es++[h.length+2]⟩) (xs:=s.wagons++[(x,y)]) ?_ fr2 (fun b hb=>mW hb) rfl;have:(s.wagons.map (fun p=>[I p.2])++[[I 0]]).set s.wagons.length [I y]=(s.wagons++[(x,y)]).map (fun p=>[I p.2]):=by
  rw[aC2 _ _ (by simp)];simp
 rw[←this,F7];exact u1
variable{h h' h1:XH}{L:CL}{s:dD}{x:ByteArray}
def gM{α:Type}(f:α→α)(z:α)(x:ByteArray):List (ByteArray×α)→List (ByteArray×α)
 | []=>[(x,z)]
 | (k,v)::r=>if k=x then (k,f v)::r else (k,v)::gM f z x r
theorem oG{α:Type}{f:α→α}{z v:α}:∀{l:List (ByteArray×α)}{i:Nat},dE (l.map (·.1)) x=some i→l[i]?=some (x,v)→gM f z x l=l.set i (x,f v)
 | [],i,h,_=>by cases h
 | (k,w)::r,i,h,hv=>by
   have h2:(if k=x then some 0 else (dE (r.map (·.1)) x).map (· + 1))=some i:=h;unfold gM;by_cases e:k=x
   ·rw[if_pos e]at h2 ⊢
    cases h2;cases hv;rfl
   ·rw[if_neg e]at h2 ⊢
    rw[A0]at h2;obtain⟨j,hj,rfl⟩:=h2;rw[oG (l:=r) hj hv];rfl
theorem oH{α:Type}{f:α→α}{z:α}:∀{l:List (ByteArray×α)},dE (l.map (·.1)) x=none→gM f z x l=l++[(x,z)]
 | [],_=>rfl
 | (k,w)::r,h=>by
   have h2:(if k=x then some 0 else (dE (r.map (·.1)) x).map (· + 1))=none:=h;unfold gM;by_cases e:k=x;·rw[if_pos e]at h2;cases h2
   ·rw[if_neg e]at h2 ⊢
    rw[O5]at h2;rw[oH h2];rfl
def mtr(n:Int)(y:Int×Int):Int×Int:=(n,y.2+(n-y.1+100000)%100000)
def aPZ(c:Nat)(x:ByteArray)(a:Int):XH:=[some (.blk false (.cells true [.pt c 0])),some (.blk true (.cells true [.str x])),some (.blk true (.cells true [I a]))]
theorem w93(ly:Lays h L s){a:Int}(hf:(decide (dE (s.meters.map (·.1)) x=none)&&decide (((s.meters.map (·.1)).length:Int)=5))=false) :
 runW aD 93 [.pt L.c 0,.str x,I a] h=some (.fn (.func 132) [] [.pt h.length 0,.pt (h.length+1) 0,.pt (h.length+2) 0],h++aPZ L.c x a):=by
 obtain⟨n,hn⟩:∃ n,h.length=n:=⟨_,rfl⟩;obtain⟨g,hc⟩:=aB ly.hc;unfold cG at hc;have cn:(L.c<n)=True:=AAm (by rw[←hn];exact aF ly.hc);have f1:=(ly.m.fr (Fr.app h (aPZ L.c x a)) (fun _ _ hb=>by cases hb)).fullm (x:=x) (by decide);rw[hf]at f1;have m2:=uQ 15;rw[qY 93 x93 rfl,hn];unfold x93;dsimp only;unfold aPZ at f1 ⊢;(exact RS5 hc hn cn f1 m2)
theorem aXu(ly:Lays h L s){b0 b1 b2:Nat}{n:Int}(o:Out L s [b0,b1,b2])(k0:aG h b0=some (.cells true [.pt L.c 0]))(k1:aG h b1=some (.cells true [.str x]))(k2:aG h b2=some (.cells true [I n]))(hn:0≤n∧n≤99999)(sm:∀ p∈s.meters,0≤p.2.1∧p.2.1≤99999∧0≤p.2.2∧p.2.2≤1000000000)(hl:s.meters.length≤1000) :
 ∃ h' L',runW aD 132 [.pt b0 0,.pt b1 0,.pt b2 0] h=some (.tup [],h')∧Lays h' L' { s with meters:=gM (mtr n) (n,0) x s.meters }∧L'.c=L.c∧Fr (sI L s) h h'∧Sb h.length L s L' { s with meters:=gM (mtr n) (n,0) x s.meters }:=by
 obtain⟨g0,j0⟩:=aB k0;obtain⟨g1,j1⟩:=aB k1;obtain⟨g4,hc⟩:=aB ly.hc;unfold cG at hc;rcases hx:dE (s.meters.map (·.1)) x with _|i
 case' some =>
  obtain⟨e,v,he,hv,hev,call⟩:=ly.m.oldm hx;obtain⟨⟨a,b⟩,hy⟩:=rI hx;rw[A9,hy]at hv;cases hv;have hb:=sm _ (A8 hy);simp only at hb;have hev:aG h e=some (.cells true [I a,I b]):=hev;obtain⟨g5,he5⟩:=aB hev;obtain⟨g2,j2⟩:=aB k2;have be:(b2=e)=False:=AAn fun q=>ly.px_out (j:=4) o (b:=b2) (by simp) (q▸wC he);have a1:IntKind.i64.wrap (n-a)=n-a:=aJ (by omega) (by omega);have a2:IntKind.i64.wrap (n-a+99999)=n-a+99999:=aJ (by omega) (by omega);have a3:IntKind.i64.wrap (n-a+99999+1)=n-a+100000:=by rw[aJ (by omega) (by omega)];omega
  have a4:IntKind.i64.wrap ((n-a+100000)%100000)=(n-a+100000)%100000:=aJ (by omega) (by omega);have a5:IntKind.i64.wrap (b+(n-a+100000)%100000)=b+(n-a+100000)%100000:=aJ (by omega) (by omega);have a6:(n-a+100000).tmod 100000=(n-a+100000)%100000:=aD8 (by omega);have el:e<h.length:=aF hev;have et:(e<h.length)=True:=AAm el;rw[oG (f:=mtr n) (z:=(n,0)) hx hy];refine⟨_,L,?_,ly.oldM (g:=g5) (y:=mtr n (a,b)) hx he,rfl,Fr.px (j:=4) ((Fr.refl _ h).set (wC he) _),.of rfl (aAs rfl) (qP rfl) (cM rfl) (cM (by rw[C0])) (cM rfl) (cM rfl)⟩;rw[qY 132 aIT rfl];unfold aIT mtr;dsimp only;sym =>
   simp[Za,Zb,Zc,Ze,Zf,Zh,Zi,Zl,Zm,Zv,Z9,ZA,ZE,ZG,ZR,ZW,ZX,ZZ,Ya,Yb,Yc,Ye,Yj,Yk,Yn,Yt,Yv,Y8,Y9,YA,YC,Xx,We,Vm,Vt,V8,VB,VC,VE,VG,VH,VI,VJ,Ut,Uv,Uw,UM,UO,UQ,UV,UZ,Ta,Tb,Te,Tf,Tg,Th,Ti,Tj,Tn,Tp,Tu,Tx,Ty,Tz,TB,TH,TI,TO,TP,TU,TV,TW,Sz,S2,S6,S7,S8,SG,SJ,SL,SO,SX,SY,Qo,Ph,Pk,Pm,Pq,Pz,P8,j0,j1,j2,hc,call,he5,a1,a2,a3,et,be,List.set_set]
   tactic =>
    show some (AV.tup [],h.set e (some (.blk g5 (.cells true [I n,I (IntKind.i64.wrap (b+(n-a+100000).tmod 100000))]))))=_;rw[a6,a5]
 case' none =>
  obtain⟨h1,call,hl1,od1,fr1⟩:=ly.m.newm hx (by rw[B0];exact hl);rw[B0]at fr1;obtain⟨g2,j2⟩:=aB (fr1.keepS k2 (ly.px_out (j:=4) o (by simp)));obtain⟨g6,i0⟩:=aB (fr1.keepS k0 (ly.px_out (j:=4) o (by simp)));obtain⟨g7,i1⟩:=aB (fr1.keepS k1 (ly.px_out (j:=4) o (by simp)));obtain⟨g8,ic⟩:=aB (fr1.keepS ly.hc (ly.off (i:=0) (j:=4) (by decide) (by simp[px])));have hll:L.m.es.length=s.meters.length:=by rw[ly.m.ek,B0]
  have he1:(L.m.es++[h.length+2])[s.meters.length]?=some (h.length+2):=by
   rw[←hll,D1 (B7 _)];simp
  obtain⟨g5,he5⟩:=aB (od1.he (i:=s.meters.length) (v:=[I 0,I 0]) he1 (by rw[D1 (by simp)];simp));rw[oH (f:=mtr n) (z:=(n,0)) hx];obtain⟨z1,z2⟩:=ly.newM (y:=(n,0)) (g:=g5) od1 fr1;refine⟨_,_,?_,z1,rfl,Fr.px (j:=4) z2,.of rfl (aAs rfl) (qP rfl) (cM rfl) (fun b hb=>mW hb) (cM rfl) (cM rfl)⟩;rw[qY 132 aIT rfl];unfold aIT;dsimp only;(exact RS9 j0 j1 j2 i0 i1 ic hc call he5)
end Go.Proofs.YtmapgnepfgnphaaGreatDoor
