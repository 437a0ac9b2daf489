/- Parts of a proof, joined: GT SH Z1 Z2 Z3 Z5 Z6 Y0 Y1 Z4 W1 W2 W3 W4 W5 W6 W7 W8 W9 W10 WA V1 V2 V3 WY WZ PF F0 K1 K2 K3 K4 K5 K6 K7 K8 K9 K10 K11 K12 P1 P2. No statement of the seed is proved here. -/
import Derived.Shelf.Strings.Builder1
import Derived.Shelf.Strings.Builder2
import Derived.Shelf.Strings.OnBuilder
import Derived.Shelf.Strings.Trim
import Derived.Shelf.Small.Utf8
import Derived.Shelf.Small.Strs
import Derived.Shelf.Small.Wraps
import Derived.Shelf.Strings.BuilderF
import Derived.Shelf.Strings.BuilderK
import Derived.Shelf.Strconv.Atoi
import Derived.Shelf.Strconv.Itoa0
import Derived.Shelf.Strconv.Itoa1
import Derived.Shelf.LaysM
import Derived.Shelf.Strconv.Itoa2
import Derived.Shelf.Strconv.Itoa3
import Derived.Shelf.Strconv.AtoiErrFast
import Derived.Shelf.Strconv.ParseIntEmpty
import Derived.Shelf.Strconv.AtoiFail
import Derived.Shelf.Strconv.Clone
import Derived.Shelf.Strconv.SyntaxError
import Derived.Shelf.LaysC
import Derived.Shelf.Strconv.ToError
import Derived.Shelf.Strconv.Lower
import Derived.Shelf.Strconv.ParseUint10
import Derived.Shelf.Strconv.ParseUint10Empty
import Derived.Shelf.Strconv.ParseUint10Any
import Derived.Shelf.Strconv.ParseInt10
import Derived.Shelf.Strconv.AtoiLong
import Derived.Shelf.Strconv.AtoiInnerAll
import Derived.Shelf.Strconv.RangeError
import Derived.Shelf.Strconv.ToErrorRange
import Derived.Shelf.Strconv.AtoiAll
import Derived.Shelf.Strings.Search1
import Derived.Shelf.Strings.Search2
import Derived.Shelf.Strings.Search3
import Derived.Shelf.Strings.Count
import Derived.Shelf.Strings.Shaped
import Derived.Shelf.GgClosure.StringsIndexFunc
import Derived.Ground.GgwProg
import Derived.Shelf.GgClosure.StringsIndexFuncTop
import Derived.Shelf.GgClosure.StringsRunes
import Derived.Shelf.Strings.Prefix
import Derived.Shelf.Strings.Split
import Derived.Shelf.Strings.SplitShaped
import Derived.Shelf.Unicode.Decode
import Derived.Shelf.Strings.Runes
import Derived.Shelf.Strings.RuneCount
import Derived.Shelf.Strings.AsciiSet
import Derived.Shelf.Strings.Explode
import Derived.Shelf.Bits.Mul64
import Derived.Shelf.Strings.Repeat
import Derived.Shelf.Unicode.DecodeSlow
import Derived.Shelf.Unicode.DecodeAny
import Derived.Shelf.Unicode.DecodeLast
import Derived.Shelf.Strings.FuncGrows
import Derived.Shelf.Slices.Turned
import Derived.Test.YtmapgnepfgnphaaGreatDoorProg
import Derived.KernelRfl
import Derived.Test.YtmapgnepfgnphaaGreatDoorH6
set_option linter.unusedSimpArgs false
set_option linter.unusedVariables false
set_option linter.unusedSectionVars false
namespace Go.Proofs.YtmapgnepfgnphaaGreatDoor
open Go Go.DL Go.Proofs.Tryz

def aLp:List (Nat×XFn):=[(3,x3),(4,x4),(5,x5),(7,x7),(12,x12),(13,x13),(14,x14),(15,x15),(16,x16),(17,x17),(18,x18),(19,x19),(23,x23),(25,x25),(27,x27),(28,x28),(31,x31),(34,x34),(35,x35),(36,x36),(38,x38),(39,x39),(40,x40),(41,x41),(42,x42),(43,x43),(44,x44),(45,x45),(46,x46),(48,x48),(49,x49),(50,x50),(51,x51),(52,x52),(53,x53),(54,x54),(55,x55),(58,x58),(59,x59),(60,x60),(61,x61),(62,x62),(69,x69),(70,x70),(73,x73),(75,x75),(77,x77),(78,x78),(79,x79),(84,x84),(85,x85),(86,x86),(87,x87),(88,x88),(89,x89),(90,x90),(91,x91),(92,x92),(93,x93),(94,x94),(95,x95),(96,x96),(97,x97),(98,x98),(116,aLk),(119,x119),(126,aLj),(127,aLi),(128,aLh),(129,aLg),(130,aLf),(131,aLe),(132,aLd),(133,aLc),(134,aLb),(135,aLa),(136,aKZ),(137,aKY),(154,aKX),(155,aKW),(156,aKV),(157,aKU),(158,aKT),(159,aKS),(160,aKR),(175,aKO),(179,aKN),(180,aKM),(181,aKL),(182,aKK),(183,aKJ),(184,aKI),(185,aKH),(186,aKG),(197,aKF),(198,aKE),(201,aKD),(202,aKC),(203,aKB),(204,aKA),(205,aKz),(206,aKy),(207,aKx),(211,aKw),(212,aKv),(213,aKu),(215,aKt),(234,aKs),(235,aKr),(236,aKq),(237,aKp),(242,aKo),(243,aKn),(244,aKm),(245,aKl)]
def mM:Nat→Option XFn:=aBp aLp
set_option maxRecDepth 100000
theorem tA:∀ p∈aLp,aN prog p :=
 aQ is3 (aQ is4 (aQ is5 (aQ is7 (aQ aQk (aQ aQj (aQ aQi (aQ aQh (aQ aQg (aQ aQf (aQ aQe (aQ aQd (aQ aQc (aQ aQb (aQ aQa (aQ aPZ (aQ aPY (aQ aPX (aQ aPW (aQ aPV (aQ aPU (aQ aPT (aQ aPS (aQ aPR (aQ aPQ (aQ aPP (aQ aPO (aQ aPN (aQ aPM (aQ aPL (aQ aPK (aQ aPJ (aQ aPI (aQ aPH (aQ aPG (aQ aPF (aQ aPE (aQ aPD (aQ aPC (aQ aPB (aQ aPA (aQ aPz (aQ aPy (aQ aPx (aQ aPw (aQ aPv (aQ aPu (aQ aPt (aQ aPs (aQ aPr (aQ aPq (aQ aPp (aQ aPo (aQ aPn (aQ aPm (aQ aPl (aQ aPk (aQ aPj (aQ aPi (aQ aPh (aQ aPg (aQ aPf (aQ aPe (aQ aPd (aQ aMX (aQ aMW (aQ aMV (aQ aMU (aQ aMT (aQ aMS (aQ aMR (aQ aMQ (aQ aMP (aQ aMO (aQ aMN (aQ aMM (aQ aML (aQ aMK (aQ aMJ (aQ aMI (aQ aMH (aQ aMG (aQ aMF (aQ aME (aQ aMD (aQ aMC (aQ aMB (aQ aMA (aQ aMz (aQ aMy (aQ aMx (aQ aMw (aQ aMv (aQ aMu (aQ aMt (aQ aMs (aQ aMr (aQ aMq (aQ aMp (aQ aMo (aQ aMn (aQ aMm (aQ aMl (aQ aMk (aQ aMj (aQ aMi (aQ aMh (aQ aMg (aQ aMf (aQ aMe (aQ aMd (aQ aMc (aQ aMb (aQ aMa (aQ aLZ (aQz)))))))))))))))))))))))))))))))))))))))))))))))))))))))))))))))))))))))))))))))))))))))))))))))))))))))))))))))))))
theorem aJe {k:Nat} {d:XFn} (h:mM k=some d):d.prm=none:=(tA _ (kI h)).2.2.2
theorem progX_ok:XOk prog mM:=⟨rfl,fun k d h _=>(tA _ (kI h)).1,fun k d f h hp=>(by rw[aJe h]at hp;cases hp),fun k d h=>(tA _ (kI h)).2.1,fun k d h=>(tA _ (kI h)).2.2.1⟩
theorem r3 {vs:List AV} {h:XH} (hl:vs.length≤77):runW mM 3 vs h=cR none x3.res x3.ownR h.length (execW mM 3 h.length none x3.body (aP (if x3.ownA then vs else fY vs)) h):=bG rfl hl h rfl
theorem r4 {vs:List AV} {h:XH} (hl:vs.length≤38):runW mM 4 vs h=cR none x4.res x4.ownR h.length (execW mM 4 h.length none x4.body (aP (if x4.ownA then vs else fY vs)) h):=bG rfl hl h rfl
theorem r5 {vs:List AV} {h:XH} (hl:vs.length≤79):runW mM 5 vs h=cR none x5.res x5.ownR h.length (execW mM 5 h.length none x5.body (aP (if x5.ownA then vs else fY vs)) h):=bG rfl hl h rfl
theorem r95 {vs:List AV} {h:XH} (hl:vs.length≤16):runW mM 95 vs h=cR none x95.res x95.ownR h.length (execW mM 95 h.length none x95.body (aP (if x95.ownA then vs else fY vs)) h):=bG rfl hl h rfl
end Go.Proofs.YtmapgnepfgnphaaGreatDoor
namespace Go.Proofs
open Go.Shelf
def Tryz.lays156_ren:Go.Shelf.Ren:=⟨fun|156=>99|165=>138|166=>69|169=>71|240=>115|241=>161|276=>140|277=>187|n=>n,fun|31=>22|9=>9|3=>3|4=>4|0=>0|20=>20|72=>126|76=>129|70=>124|37=>59|75=>128|127=>183|164=>215|5=>5|80=>37|n=>n,fun|n=>n⟩
theorem Tryz.lays156:Go.Proofs.Lays.n156 Tryz.prog Tryz.lays156_ren:={
 mixed:=by kernel_rfl
 f156:=Tryz.func99.trans (congrArg some (by kernel_rfl))
 f165:=Tryz.func138.trans (congrArg some (by kernel_rfl))
 f166:=Tryz.func69.trans (congrArg some (by kernel_rfl))
 f169:=Tryz.func71.trans (congrArg some (by kernel_rfl))
 f240:=Tryz.func115.trans (congrArg some (by kernel_rfl))
 f241:=Tryz.func161.trans (congrArg some (by kernel_rfl))
 f276:=Tryz.func140.trans (congrArg some (by kernel_rfl))
 f277:=Tryz.func187.trans (congrArg some (by kernel_rfl))
 t0:=Tryz.underlying0
 a0:=Tryz.isAgg0
 z0:=Tryz.sizeOf0
 v0:=Tryz.zeroValue0
 t3:=Tryz.underlying3
 a3:=Tryz.isAgg3
 z3:=Tryz.sizeOf3
 v3:=Tryz.zeroValue3
 t4:=Tryz.underlying4
 a4:=Tryz.isAgg4
 z4:=Tryz.sizeOf4
 v4:=Tryz.zeroValue4
 t9:=Tryz.underlying9
 a9:=Tryz.isAgg9
 z9:=Tryz.sizeOf9
 v9:=Tryz.zeroValue9
 t20:=Tryz.underlying20
 a20:=Tryz.isAgg20
 z20:=Tryz.sizeOf20
 v20:=Tryz.zeroValue20
 t31:=Tryz.underlying22
 a31:=Tryz.isAgg22
 z31:=Tryz.sizeOf22
 v31:=Tryz.zeroValue22
 t37:=Tryz.underlying59
 a37:=Tryz.isAgg59
 z37:=Tryz.sizeOf59
 v37:=Tryz.zeroValue59
 t70:=Tryz.underlying124
 a70:=Tryz.isAgg124
 z70:=Tryz.sizeOf124
 v70:=Tryz.zeroValue124
 t72:=Tryz.underlying126
 a72:=Tryz.isAgg126
 z72:=Tryz.sizeOf126
 v72:=Tryz.zeroValue126
 t75:=Tryz.underlying128
 a75:=Tryz.isAgg128
 z75:=Tryz.sizeOf128
 v75:=Tryz.zeroValue128
 t76:=Tryz.underlying129
 a76:=Tryz.isAgg129
 z76:=Tryz.sizeOf129
 v76:=Tryz.zeroValue129
 t127:=Tryz.underlying183
 a127:=Tryz.isAgg183
 z127:=Tryz.sizeOf183
 v127:=Tryz.zeroValue183
 t164:=Tryz.underlying215
 a164:=Tryz.isAgg215
 z164:=Tryz.sizeOf215
 v164:=Tryz.zeroValue215 }
theorem Tryz.Builder_Extra_156:Builder.Extra Tryz.prog Tryz.lays156_ren:={
 sizeBuilder:=by kernel_rfl
 liesBuilder:=by kernel_rfl
 t5:=Tryz.underlying5
 a5:=Tryz.isAgg5
 z5:=Tryz.sizeOf5
 v5:=Tryz.zeroValue5
 infoByte:=by kernel_rfl
 cellsByte:=by kernel_rfl
 sizeByte:=by kernel_rfl
 neB5:=by decide }
open Go.RowKit in
theorem Tryz.strings_Join_none (a:Option Addr) (c:Nat) (sep:ByteArray) (w:World) :
 Calls Tryz.prog 99 #[.slice a 0 c,.string sep] w fun e w'=>e = .returned (.string ⟨#[]⟩)∧w'=w:=Any.strings_Join_none Tryz.lays156 Tryz.Builder_Extra_156 a c sep w
open Go.RowKit in
theorem Tryz.strings_Join (bk o c:Nat) (xs:List ByteArray) (sep:ByteArray) (w:World) (hcells:∀ (j:Nat) x,xs[j]?=some x→w.cell? ⟨bk,o+j,none⟩=some (.string x)) (hbk:bk<w.heap.size) (hN:xs.length≤140737488355328) (hcap:xs.length≤c) (hlen:(Lib.join (xs.map (·.data.toList)) sep.data.toList).length≤140737488355328) :
 Calls Tryz.prog 99 #[.slice (some ⟨bk,o,none⟩) xs.length c,.string sep] w fun e w'=>e = .returned (.string ⟨(Lib.join (xs.map (·.data.toList)) sep.data.toList).toArray⟩)∧Below w.heap.size w w':=Any.strings_Join Tryz.lays156 Tryz.Builder_Extra_156 bk o c xs sep w hcells hbk hN hcap hlen
def Tryz.lays162_ren:Go.Shelf.Ren:=⟨fun|162=>80|232=>120|227=>121|234=>122|236=>123|228=>144|271=>145|151=>146|120=>168|197=>169|152=>170|260=>192|137=>193|119=>194|224=>195|225=>196|217=>199|266=>209|n=>n,fun|9=>9|4=>4|3=>3|5=>5|117=>188|116=>187|0=>0|124=>191|21=>21|105=>218|46=>238|119=>286|139=>289|138=>288|n=>n,fun|3=>4|4=>5|n=>n⟩
theorem Tryz.lays162:Go.Proofs.Lays.n162 Tryz.prog Tryz.lays162_ren:={
 mixed:=by kernel_rfl
 f119:=Tryz.func194.trans (congrArg some (by kernel_rfl))
 f120:=Tryz.func168.trans (congrArg some (by kernel_rfl))
 f137:=Tryz.func193.trans (congrArg some (by kernel_rfl))
 f151:=Tryz.func146.trans (congrArg some (by kernel_rfl))
 f152:=Tryz.func170.trans (congrArg some (by kernel_rfl))
 f162:=Tryz.func80.trans (congrArg some (by kernel_rfl))
 f197:=Tryz.func169.trans (congrArg some (by kernel_rfl))
 f217:=Tryz.func199.trans (congrArg some (by kernel_rfl))
 f224:=Tryz.func195.trans (congrArg some (by kernel_rfl))
 f225:=Tryz.func196.trans (congrArg some (by kernel_rfl))
 f227:=Tryz.func121.trans (congrArg some (by kernel_rfl))
 f228:=Tryz.func144.trans (congrArg some (by kernel_rfl))
 f232:=Tryz.func120.trans (congrArg some (by kernel_rfl))
 f234:=Tryz.func122.trans (congrArg some (by kernel_rfl))
 f236:=Tryz.func123.trans (congrArg some (by kernel_rfl))
 f260:=Tryz.func192.trans (congrArg some (by kernel_rfl))
 f266:=Tryz.func209.trans (congrArg some (by kernel_rfl))
 f271:=Tryz.func145.trans (congrArg some (by kernel_rfl))
 t0:=Tryz.underlying0
 a0:=Tryz.isAgg0
 z0:=Tryz.sizeOf0
 v0:=Tryz.zeroValue0
 t3:=Tryz.underlying3
 a3:=Tryz.isAgg3
 z3:=Tryz.sizeOf3
 v3:=Tryz.zeroValue3
 t4:=Tryz.underlying4
 a4:=Tryz.isAgg4
 z4:=Tryz.sizeOf4
 v4:=Tryz.zeroValue4
 t5:=Tryz.underlying5
 a5:=Tryz.isAgg5
 z5:=Tryz.sizeOf5
 v5:=Tryz.zeroValue5
 t9:=Tryz.underlying9
 a9:=Tryz.isAgg9
 z9:=Tryz.sizeOf9
 v9:=Tryz.zeroValue9
 t21:=Tryz.underlying21
 a21:=Tryz.isAgg21
 z21:=Tryz.sizeOf21
 v21:=Tryz.zeroValue21
 t46:=Tryz.underlying238
 a46:=Tryz.isAgg238
 z46:=Tryz.sizeOf238
 v46:=Tryz.zeroValue238
 t105:=Tryz.underlying218
 a105:=Tryz.isAgg218
 z105:=Tryz.sizeOf218
 v105:=Tryz.zeroValue218
 t116:=Tryz.underlying187
 a116:=Tryz.isAgg187
 z116:=Tryz.sizeOf187
 t117:=Tryz.underlying188
 a117:=Tryz.isAgg188
 z117:=Tryz.sizeOf188
 v117:=Tryz.zeroValue188
 t119:=Tryz.underlying286
 a119:=Tryz.isAgg286
 z119:=Tryz.sizeOf286
 t124:=Tryz.underlying191
 a124:=Tryz.isAgg191
 z124:=Tryz.sizeOf191
 v124:=Tryz.zeroValue191
 t138:=Tryz.underlying288
 a138:=Tryz.isAgg288
 z138:=Tryz.sizeOf288
 v138:=Tryz.zeroValue288
 t139:=Tryz.underlying289
 a139:=Tryz.isAgg289
 z139:=Tryz.sizeOf289
 v139:=Tryz.zeroValue289
 g3:=by kernel_rfl
 g4:=by kernel_rfl }
open Go.RowKit in
theorem Tryz.strings_TrimRight_one (s:ByteArray) (c:UInt8) (hc:c.toNat<128) (w:World) (hs:s.size≤9223372036854775807) :
 Calls Tryz.prog 80 #[.string s,.string ⟨#[c]⟩] w fun e w'=>e = .returned (.string ⟨(Lib.trimRightB s.data.toList c).toArray⟩)∧w'=w:=Any.strings_TrimRight_one Tryz.lays162 s c hc w hs
def Tryz.lays103_ren:Go.Shelf.Ren:=⟨fun|103=>72|210=>117|206=>141|n=>n,fun|9=>9|4=>4|24=>55|3=>3|n=>n,fun|n=>n⟩
theorem Tryz.lays103:Go.Proofs.Lays.n103 Tryz.prog Tryz.lays103_ren:={
 mixed:=by kernel_rfl
 f103:=Tryz.func72.trans (congrArg some (by kernel_rfl))
 f206:=Tryz.func141.trans (congrArg some (by kernel_rfl))
 f210:=Tryz.func117.trans (congrArg some (by kernel_rfl))
 t3:=Tryz.underlying3
 a3:=Tryz.isAgg3
 z3:=Tryz.sizeOf3
 v3:=Tryz.zeroValue3
 t4:=Tryz.underlying4
 a4:=Tryz.isAgg4
 z4:=Tryz.sizeOf4
 v4:=Tryz.zeroValue4
 t9:=Tryz.underlying9
 a9:=Tryz.isAgg9
 z9:=Tryz.sizeOf9
 v9:=Tryz.zeroValue9
 t24:=Tryz.underlying55
 a24:=Tryz.isAgg55
 z24:=Tryz.sizeOf55
 v24:=Tryz.zeroValue55 }
open Go.RowKit in
theorem Tryz.strings_CutPrefix (s p:ByteArray) (w:World) :
 Calls Tryz.prog 72 #[.string s,.string p] w fun e w'=>e = .returned (.tuple #[.string ⟨(Lib.trimPrefix s.data.toList p.data.toList).toArray⟩,.bool (Lib.hasPrefix s.data.toList p.data.toList)])∧w'=w:=Any.strings_CutPrefix Tryz.lays103 s p w
def Tryz.laysM171_ren:Go.Shelf.Ren:=⟨fun|171=>57|243=>82|246=>124|283=>147|284=>148|285=>149|286=>150|129=>172|317=>171|318=>173|319=>174|320=>175|337=>197|338=>198|n=>n,fun|3=>3|9=>9|2=>2|4=>4|171=>221|0=>0|53=>222|37=>59|5=>5|173=>225|212=>251|51=>252|20=>20|213=>253|46=>238|232=>290|233=>291|n=>n,fun|17=>0|18=>6|19=>7|n=>n⟩
theorem Tryz.laysM171:Go.Proofs.LaysM.n171 Tryz.prog Tryz.laysM171_ren:={
 mixed:=by kernel_rfl
 f129:=Tryz.func172.trans (congrArg some (by kernel_rfl))
 f171:=Tryz.func57.trans (congrArg some (by kernel_rfl))
 f243:=Tryz.func82.trans (congrArg some (by kernel_rfl))
 f246:=Tryz.func124.trans (congrArg some (by kernel_rfl))
 f283:=Tryz.func147.trans (congrArg some (by kernel_rfl))
 f284:=Tryz.func148.trans (congrArg some (by kernel_rfl))
 f285:=Tryz.func149.trans (congrArg some (by kernel_rfl))
 f286:=Tryz.func150.trans (congrArg some (by kernel_rfl))
 f317:=Tryz.func171.trans (congrArg some (by kernel_rfl))
 f318:=Tryz.func173.trans (congrArg some (by kernel_rfl))
 f319:=Tryz.func174.trans (congrArg some (by kernel_rfl))
 f320:=Tryz.func175.trans (congrArg some (by kernel_rfl))
 f337:=Tryz.func197.trans (congrArg some (by kernel_rfl))
 f338:=Tryz.func198.trans (congrArg some (by kernel_rfl))
 t0:=Tryz.underlying0
 a0:=Tryz.isAgg0
 z0:=Tryz.sizeOf0
 v0:=Tryz.zeroValue0
 t2:=Tryz.underlying2
 a2:=Tryz.isAgg2
 z2:=Tryz.sizeOf2
 v2:=Tryz.zeroValue2
 t3:=Tryz.underlying3
 a3:=Tryz.isAgg3
 z3:=Tryz.sizeOf3
 v3:=Tryz.zeroValue3
 t4:=Tryz.underlying4
 a4:=Tryz.isAgg4
 z4:=Tryz.sizeOf4
 v4:=Tryz.zeroValue4
 t5:=Tryz.underlying5
 a5:=Tryz.isAgg5
 z5:=Tryz.sizeOf5
 v5:=Tryz.zeroValue5
 t9:=Tryz.underlying9
 a9:=Tryz.isAgg9
 z9:=Tryz.sizeOf9
 v9:=Tryz.zeroValue9
 t20:=Tryz.underlying20
 a20:=Tryz.isAgg20
 z20:=Tryz.sizeOf20
 v20:=Tryz.zeroValue20
 t37:=Tryz.underlying59
 a37:=Tryz.isAgg59
 z37:=Tryz.sizeOf59
 v37:=Tryz.zeroValue59
 t46:=Tryz.underlying238
 a46:=Tryz.isAgg238
 z46:=Tryz.sizeOf238
 v46:=Tryz.zeroValue238
 t51:=Tryz.underlying252
 a51:=Tryz.isAgg252
 z51:=Tryz.sizeOf252
 v51:=Tryz.zeroValue252
 t53:=Tryz.underlying222
 a53:=Tryz.isAgg222
 z53:=Tryz.sizeOf222
 v53:=Tryz.zeroValue222
 t171:=Tryz.underlying221
 a171:=Tryz.isAgg221
 z171:=Tryz.sizeOf221
 v171:=Tryz.zeroValue221
 t173:=Tryz.underlying225
 a173:=Tryz.isAgg225
 z173:=Tryz.sizeOf225
 v173:=Tryz.zeroValue225
 t212:=Tryz.underlying251
 a212:=Tryz.isAgg251
 z212:=Tryz.sizeOf251
 v212:=Tryz.zeroValue251
 t213:=Tryz.underlying253
 a213:=Tryz.isAgg253
 z213:=Tryz.sizeOf253
 t232:=Tryz.underlying290
 a232:=Tryz.isAgg290
 z232:=Tryz.sizeOf290
 v232:=Tryz.zeroValue290
 t233:=Tryz.underlying291
 a233:=Tryz.isAgg291
 z233:=Tryz.sizeOf291
 v233:=Tryz.zeroValue291
 g17:=by kernel_rfl
 g18:=by kernel_rfl
 g19:=by kernel_rfl
 i0:=by kernel_rfl
 i2:=by kernel_rfl
 i3:=by kernel_rfl
 i4:=by kernel_rfl
 i5:=by kernel_rfl
 i9:=by kernel_rfl
 i20:=by kernel_rfl
 i37:=by kernel_rfl
 i46:=by kernel_rfl
 i51:=by kernel_rfl
 i53:=by kernel_rfl
 i171:=by kernel_rfl
 i173:=by kernel_rfl
 i212:=by kernel_rfl
 i232:=by kernel_rfl
 i233:=by kernel_rfl
 m17:=by kernel_rfl
 m18:=by kernel_rfl
 m19:=by kernel_rfl }
open Go.RowKit Go.Sort Go.Lib in
theorem Tryz.strconv_Itoa (n:Int) (h0 : -9223372036854775808≤n) (h1:n≤9223372036854775807) (w:World) (htab:Lib.TabIs Tryz.prog w "internal/strconv.uint64pow10" .u64 Lib.pow10Tab) :
 Calls Tryz.prog 57 #[.int .i64 n] w fun e w'=>e = .returned (.string ⟨(Lib.itoa n).toArray⟩)∧∃ k os,w'=grow (w.drewN k) os:=Any.strconv_Itoa Tryz.laysM171 n h0 h1 w htab
def Tryz.laysGw17_ren:Go.Shelf.Ren:=⟨fun|17=>74|15=>118|20=>142|n=>n,fun|9=>9|23=>137|4=>4|3=>3|0=>0|21=>21|n=>n,fun|n=>n⟩
theorem Tryz.laysGw17:Go.Proofs.LaysGw.n17 Tryz.prog Tryz.laysGw17_ren:={
 mixed:=by kernel_rfl
 f15:=Tryz.func118.trans (congrArg some (by kernel_rfl))
 f17:=Tryz.func74.trans (congrArg some (by kernel_rfl))
 f20:=Tryz.func142.trans (congrArg some (by kernel_rfl))
 t0:=Tryz.underlying0
 a0:=Tryz.isAgg0
 z0:=Tryz.sizeOf0
 v0:=Tryz.zeroValue0
 i0:=by kernel_rfl
 t3:=Tryz.underlying3
 a3:=Tryz.isAgg3
 z3:=Tryz.sizeOf3
 v3:=Tryz.zeroValue3
 i3:=by kernel_rfl
 t4:=Tryz.underlying4
 a4:=Tryz.isAgg4
 z4:=Tryz.sizeOf4
 v4:=Tryz.zeroValue4
 i4:=by kernel_rfl
 t9:=Tryz.underlying9
 a9:=Tryz.isAgg9
 z9:=Tryz.sizeOf9
 v9:=Tryz.zeroValue9
 i9:=by kernel_rfl
 t21:=Tryz.underlying21
 a21:=Tryz.isAgg21
 z21:=Tryz.sizeOf21
 v21:=Tryz.zeroValue21
 i21:=by kernel_rfl
 t23:=Tryz.underlying137
 a23:=Tryz.isAgg137
 z23:=Tryz.sizeOf137
 v23:=Tryz.zeroValue137
 i23:=by kernel_rfl }
open Go.RowKit Go.Lib in
theorem Tryz.strings_ContainsFunc_runes (g:Nat) (lb:Array Value) (eg:∀ args w,(callFunc g args).run Tryz.prog w = .ok (.enter g args) w) (p:Nat→Bool) (s:ByteArray) (w:World) (hp:PredAtRunes Tryz.prog g lb p w) :
 Calls Tryz.prog 74 #[.string s,.func (.func g) #[] lb] w fun e w'=>e = .returned (.bool (decide (0≤Lib.idxFunc p true s)))∧Below w.heap.size w w':=Any.strings_ContainsFunc_runes Tryz.laysGw17 g lb eg p s w hp
def Tryz.lays100_ren:Go.Shelf.Ren:=⟨fun|100=>37|207=>76|n=>n,fun|9=>9|4=>4|3=>3|n=>n,fun|n=>n⟩
theorem Tryz.lays100:Go.Proofs.Lays.n100 Tryz.prog Tryz.lays100_ren:={
 mixed:=by kernel_rfl
 f100:=Tryz.func37.trans (congrArg some (by kernel_rfl))
 f207:=Tryz.func76.trans (congrArg some (by kernel_rfl))
 t3:=Tryz.underlying3
 a3:=Tryz.isAgg3
 z3:=Tryz.sizeOf3
 v3:=Tryz.zeroValue3
 t4:=Tryz.underlying4
 a4:=Tryz.isAgg4
 z4:=Tryz.sizeOf4
 v4:=Tryz.zeroValue4
 t9:=Tryz.underlying9
 a9:=Tryz.isAgg9
 z9:=Tryz.sizeOf9
 v9:=Tryz.zeroValue9 }
open Go.RowKit Go.Lib in
theorem Tryz.strings_HasSuffix (s p:ByteArray) (w:World) (hs:s.size≤9223372036854775807) :
 Calls Tryz.prog 37 #[.string s,.string p] w fun e w'=>e = .returned (.bool (Lib.hasSuffix s.data.toList p.data.toList))∧w'=w:=Any.strings_HasSuffix Tryz.lays100 s p w hs
def Tryz.lays146_ren:Go.Shelf.Ren:=⟨fun|146=>83|221=>125|268=>151|138=>152|143=>153|195=>176|197=>169|218=>177|219=>178|260=>192|217=>199|225=>196|224=>195|267=>200|266=>209|314=>210|n=>n,fun|9=>9|31=>22|3=>3|4=>4|0=>0|105=>218|21=>21|5=>5|46=>238|119=>286|139=>289|138=>288|146=>272|51=>252|n=>n,fun|1=>3|3=>4|4=>5|n=>n⟩
theorem Tryz.lays146:Go.Proofs.Lays.n146 Tryz.prog Tryz.lays146_ren:={
 mixed:=by kernel_rfl
 f138:=Tryz.func152.trans (congrArg some (by kernel_rfl))
 f143:=Tryz.func153.trans (congrArg some (by kernel_rfl))
 f146:=Tryz.func83.trans (congrArg some (by kernel_rfl))
 f195:=Tryz.func176.trans (congrArg some (by kernel_rfl))
 f197:=Tryz.func169.trans (congrArg some (by kernel_rfl))
 f217:=Tryz.func199.trans (congrArg some (by kernel_rfl))
 f218:=Tryz.func177.trans (congrArg some (by kernel_rfl))
 f219:=Tryz.func178.trans (congrArg some (by kernel_rfl))
 f221:=Tryz.func125.trans (congrArg some (by kernel_rfl))
 f224:=Tryz.func195.trans (congrArg some (by kernel_rfl))
 f225:=Tryz.func196.trans (congrArg some (by kernel_rfl))
 f260:=Tryz.func192.trans (congrArg some (by kernel_rfl))
 f266:=Tryz.func209.trans (congrArg some (by kernel_rfl))
 f267:=Tryz.func200.trans (congrArg some (by kernel_rfl))
 f268:=Tryz.func151.trans (congrArg some (by kernel_rfl))
 f314:=Tryz.func210.trans (congrArg some (by kernel_rfl))
 t0:=Tryz.underlying0
 a0:=Tryz.isAgg0
 z0:=Tryz.sizeOf0
 v0:=Tryz.zeroValue0
 t3:=Tryz.underlying3
 a3:=Tryz.isAgg3
 z3:=Tryz.sizeOf3
 v3:=Tryz.zeroValue3
 t4:=Tryz.underlying4
 a4:=Tryz.isAgg4
 z4:=Tryz.sizeOf4
 v4:=Tryz.zeroValue4
 t5:=Tryz.underlying5
 a5:=Tryz.isAgg5
 z5:=Tryz.sizeOf5
 v5:=Tryz.zeroValue5
 t9:=Tryz.underlying9
 a9:=Tryz.isAgg9
 z9:=Tryz.sizeOf9
 v9:=Tryz.zeroValue9
 t21:=Tryz.underlying21
 a21:=Tryz.isAgg21
 z21:=Tryz.sizeOf21
 v21:=Tryz.zeroValue21
 t31:=Tryz.underlying22
 a31:=Tryz.isAgg22
 z31:=Tryz.sizeOf22
 v31:=Tryz.zeroValue22
 t46:=Tryz.underlying238
 a46:=Tryz.isAgg238
 z46:=Tryz.sizeOf238
 v46:=Tryz.zeroValue238
 t51:=Tryz.underlying252
 a51:=Tryz.isAgg252
 z51:=Tryz.sizeOf252
 v51:=Tryz.zeroValue252
 t105:=Tryz.underlying218
 a105:=Tryz.isAgg218
 z105:=Tryz.sizeOf218
 v105:=Tryz.zeroValue218
 t119:=Tryz.underlying286
 a119:=Tryz.isAgg286
 z119:=Tryz.sizeOf286
 t138:=Tryz.underlying288
 a138:=Tryz.isAgg288
 z138:=Tryz.sizeOf288
 v138:=Tryz.zeroValue288
 t139:=Tryz.underlying289
 a139:=Tryz.isAgg289
 z139:=Tryz.sizeOf289
 v139:=Tryz.zeroValue289
 t146:=Tryz.underlying272
 a146:=Tryz.isAgg272
 z146:=Tryz.sizeOf272
 v146:=Tryz.zeroValue272
 g1:=by kernel_rfl
 g3:=by kernel_rfl
 g4:=by kernel_rfl }
open Go.RowKit Go.Lib in
theorem Tryz.strings_Split (s sep:ByteArray) (m:Int) (w:World) (hs:s.size<4294967281) (hm:w.cell? ⟨3,0,none⟩=some (.int .i64 m)) (h1:1≤sep.size) :
 Calls Tryz.prog 83 #[.string s,.string sep] w fun e w' =>
  e = .returned (.slice (some ⟨w.heap.size,0,none⟩) (Lib.countB s sep+1) (Lib.countB s sep+1))∧w'=w.alloc (.cells ((Lib.splitB sep 0 (Lib.countB s sep) s).map Value.string).toArray 9):=Any.strings_Split Tryz.lays146 (by kernel_rfl) s sep m w hs hm h1
def Tryz.lays105_ren:Go.Shelf.Ren:=⟨fun|105=>143|212=>165|99=>166|165=>138|166=>69|170=>167|169=>71|263=>190|264=>191|206=>141|240=>115|241=>161|276=>140|277=>187|n=>n,fun|9=>9|3=>3|4=>4|20=>20|0=>0|46=>238|109=>246|5=>5|72=>126|76=>129|51=>252|146=>272|53=>222|148=>274|70=>124|37=>59|75=>128|127=>183|164=>215|80=>37|n=>n,fun|n=>n⟩
theorem Tryz.lays105:Go.Proofs.Lays.n105 Tryz.prog Tryz.lays105_ren:={
 mixed:=by kernel_rfl
 f99:=Tryz.func166.trans (congrArg some (by kernel_rfl))
 f105:=Tryz.func143.trans (congrArg some (by kernel_rfl))
 f165:=Tryz.func138.trans (congrArg some (by kernel_rfl))
 f166:=Tryz.func69.trans (congrArg some (by kernel_rfl))
 f169:=Tryz.func71.trans (congrArg some (by kernel_rfl))
 f170:=Tryz.func167.trans (congrArg some (by kernel_rfl))
 f206:=Tryz.func141.trans (congrArg some (by kernel_rfl))
 f212:=Tryz.func165.trans (congrArg some (by kernel_rfl))
 f240:=Tryz.func115.trans (congrArg some (by kernel_rfl))
 f241:=Tryz.func161.trans (congrArg some (by kernel_rfl))
 f263:=Tryz.func190.trans (congrArg some (by kernel_rfl))
 f264:=Tryz.func191.trans (congrArg some (by kernel_rfl))
 f276:=Tryz.func140.trans (congrArg some (by kernel_rfl))
 f277:=Tryz.func187.trans (congrArg some (by kernel_rfl))
 t0:=Tryz.underlying0
 a0:=Tryz.isAgg0
 z0:=Tryz.sizeOf0
 v0:=Tryz.zeroValue0
 t3:=Tryz.underlying3
 a3:=Tryz.isAgg3
 z3:=Tryz.sizeOf3
 v3:=Tryz.zeroValue3
 t4:=Tryz.underlying4
 a4:=Tryz.isAgg4
 z4:=Tryz.sizeOf4
 v4:=Tryz.zeroValue4
 t5:=Tryz.underlying5
 a5:=Tryz.isAgg5
 z5:=Tryz.sizeOf5
 v5:=Tryz.zeroValue5
 t9:=Tryz.underlying9
 a9:=Tryz.isAgg9
 z9:=Tryz.sizeOf9
 v9:=Tryz.zeroValue9
 t20:=Tryz.underlying20
 a20:=Tryz.isAgg20
 z20:=Tryz.sizeOf20
 v20:=Tryz.zeroValue20
 t37:=Tryz.underlying59
 a37:=Tryz.isAgg59
 z37:=Tryz.sizeOf59
 v37:=Tryz.zeroValue59
 t46:=Tryz.underlying238
 a46:=Tryz.isAgg238
 z46:=Tryz.sizeOf238
 v46:=Tryz.zeroValue238
 t51:=Tryz.underlying252
 a51:=Tryz.isAgg252
 z51:=Tryz.sizeOf252
 v51:=Tryz.zeroValue252
 t53:=Tryz.underlying222
 a53:=Tryz.isAgg222
 z53:=Tryz.sizeOf222
 v53:=Tryz.zeroValue222
 t70:=Tryz.underlying124
 a70:=Tryz.isAgg124
 z70:=Tryz.sizeOf124
 v70:=Tryz.zeroValue124
 t72:=Tryz.underlying126
 a72:=Tryz.isAgg126
 z72:=Tryz.sizeOf126
 v72:=Tryz.zeroValue126
 t75:=Tryz.underlying128
 a75:=Tryz.isAgg128
 z75:=Tryz.sizeOf128
 v75:=Tryz.zeroValue128
 t76:=Tryz.underlying129
 a76:=Tryz.isAgg129
 z76:=Tryz.sizeOf129
 v76:=Tryz.zeroValue129
 t109:=Tryz.underlying246
 a109:=Tryz.isAgg246
 z109:=Tryz.sizeOf246
 v109:=Tryz.zeroValue246
 t127:=Tryz.underlying183
 a127:=Tryz.isAgg183
 z127:=Tryz.sizeOf183
 v127:=Tryz.zeroValue183
 t146:=Tryz.underlying272
 a146:=Tryz.isAgg272
 z146:=Tryz.sizeOf272
 v146:=Tryz.zeroValue272
 t148:=Tryz.underlying274
 a148:=Tryz.isAgg274
 z148:=Tryz.sizeOf274
 v148:=Tryz.zeroValue274
 t164:=Tryz.underlying215
 a164:=Tryz.isAgg215
 z164:=Tryz.sizeOf215
 v164:=Tryz.zeroValue215 }
theorem Tryz.Builder_Extra_105:Builder.Extra Tryz.prog Tryz.lays105_ren:={
 sizeBuilder:=by kernel_rfl
 liesBuilder:=by kernel_rfl
 t5:=Tryz.underlying5
 a5:=Tryz.isAgg5
 z5:=Tryz.sizeOf5
 v5:=Tryz.zeroValue5
 infoByte:=by kernel_rfl
 cellsByte:=by kernel_rfl
 sizeByte:=by kernel_rfl
 neB5:=by decide }
open Go.RowKit Go.Lib in
theorem Tryz.strings_Repeat (s:ByteArray) (c:Nat) (w:World) (hc:c≤9223372036854775807) (hlen:s.size*c≤140737488355328) :
 Calls Tryz.prog 143 #[.string s,.int .i64 c] w fun e w'=>e = .returned (.string ⟨(Lib.repeatL s.data.toList c).toArray⟩)∧Below w.heap.size w w':=Any.strings_Repeat Tryz.lays105 Tryz.Builder_Extra_105 s c w hc hlen
def Tryz.lays110_ren:Go.Shelf.Ren:=⟨fun|110=>47|109=>81|n=>n,fun|31=>22|9=>9|4=>4|3=>3|0=>0|n=>n,fun|n=>n⟩
theorem Tryz.lays110:Go.Proofs.Lays.n110 Tryz.prog Tryz.lays110_ren:={
 mixed:=by kernel_rfl
 f109:=Tryz.func81.trans (congrArg some (by kernel_rfl))
 f110:=Tryz.func47.trans (congrArg some (by kernel_rfl))
 t0:=Tryz.underlying0
 a0:=Tryz.isAgg0
 z0:=Tryz.sizeOf0
 v0:=Tryz.zeroValue0
 t3:=Tryz.underlying3
 a3:=Tryz.isAgg3
 z3:=Tryz.sizeOf3
 v3:=Tryz.zeroValue3
 t4:=Tryz.underlying4
 a4:=Tryz.isAgg4
 z4:=Tryz.sizeOf4
 v4:=Tryz.zeroValue4
 t9:=Tryz.underlying9
 a9:=Tryz.isAgg9
 z9:=Tryz.sizeOf9
 v9:=Tryz.zeroValue9
 t31:=Tryz.underlying22
 a31:=Tryz.isAgg22
 z31:=Tryz.sizeOf22
 v31:=Tryz.zeroValue22 }
open Go.Lib in
theorem Tryz.slices_Contains_string (b off n c:Nat) (zs:List ByteArray) (x:ByteArray) (w:World) (hz:n≤zs.length) (hbig:n≤9223372036854775807) (hc:∀ j,j<zs.length→w.cell? ⟨b,off+j,none⟩=some (.string (zs.getD j ByteArray.empty))) :
 Calls Tryz.prog 47 #[.slice (some ⟨b,off,none⟩) n c,.string x] w fun e w'=>e = .returned (.bool (Lib.containsS (zs.take n) x))∧w'=w:=Any.slices_Contains_string Tryz.lays110 b off n c zs x w hz hbig hc
open Go.Lib in
theorem Tryz.slices_Contains_string_empty (a:Option Addr) (c:Nat) (x:ByteArray) (w:World) :
 Calls Tryz.prog 47 #[.slice a 0 c,.string x] w fun e w'=>e = .returned (.bool false)∧w'=w:=Any.slices_Contains_string_empty Tryz.lays110 a c x w
end Go.Proofs
namespace Go.Proofs.YtmapgnepfgnphaaGreatDoor
open Go Go.DL Go.RowKit Go.Proofs.Tryz
variable {D:Nat→Option XFn} {Y:Nat→Option YI} {r:Nat→Option Nat} {h:XH} {H:Hp} {B:Base}

def jF (D:Nat→Option XFn) (K:Nat) (f:List AV→XH→Option (AV×XH)):Prop :=
 ∀ (B:Base) (Y:Nat→Option YI) (r:Nat→Option Nat) (h:XH) (H:Hp) (xs ys:List AV) (v:AV) (h':XH),SH D Y r h H→RnL D Y r xs ys→f xs h=some (v,h')→FnW B Tryz.prog K ys H (eN D Y r v h')

def mO:List AV→XH→Option (AV×XH):=fun xs h=>match xs with
 | [.str s,.int .i64 n]=>if 0≤n∧n≤1000000∧s.size≤1000 then some (.str ⟨⟨Go.Lib.repeatL s.data.toList n.toNat⟩⟩,h) else none
 | _=>none
theorem aBX {s:ByteArray} {k:IntKind} {n:Int} {as':List AV} (hr:RnL D Y r [.str s,.int k n] as'):as'=[.str s,.int k n]:=by
 obtain⟨a,as1,rfl,h1,h2⟩:=hr.inv
 obtain⟨b,as2,rfl,h3,h4⟩:=h2.inv
 rw[dA h1,cE h3,h4.nil_inv]
theorem aFz:jF D 143 mO:=by
 intro B Y r h H xs ys v h' sh hr hx
 unfold mO at hx
 split at hx
 ·rename_i s n
  split at hx
  ·rename_i hn
   cases hx
   rw[aBX hr]
   have hc:Calls Tryz.prog 143 #[.string s,.int .i64 (n.toNat:Int)]=Calls Tryz.prog 143 #[.string s,.int .i64 n]:=by rw[Int.toNat_of_nonneg hn.1]
   refine FnW.shelf (r:=fun _=>.string ⟨(Go.Lib.repeatL s.data.toList n.toNat).toArray⟩) (fun vs w=>call143 vs w) (fun F w vs=>.str _) (fun F w vs hl ha=>?_) ⟨r,Sub.refl r,sh,.str _⟩
   rw[ha.strInt,←hc]
   exact Tryz.strings_Repeat s n.toNat w (by omega) (by
    have h1:n.toNat≤1000000:=by omega
    have:=Nat.mul_le_mul hn.2.2 h1
    omega)
  ·cases hx
 ·cases hx

def pV:List (List AV)→Option (List ByteArray)
 | []=>some []
 | [.str x]::l=>(pV l).map (x :: ·)
 | _=>none
theorem qY:∀ {rows:List (List AV)} {xs:List ByteArray},pV rows=some xs→xs.length=rows.length∧∀ (j:Nat) (x:ByteArray),xs[j]?=some x→rows[j]?=some [.str x]
 | [],xs,h=>by simp only[pV,oSI]at h;subst h;simp
 | row::l,xs,h=>by
   unfold pV at h
   split at h
   ·rename_i h0;cases h0
   ·rename_i x l' h0
    cases h0
    cases hl:pV l with
    | none=>rw[hl]at h;cases h
    | some ys =>
      rw[hl]at h
      simp only[Option.map_some,oSI]at h
      subst h
      obtain⟨h1,h2⟩:=qY hl
      refine⟨by simp[h1],fun j y hj=>?_⟩
      cases j with
      | zero=>simp at hj;subst hj;rfl
      | succ j=>exact h2 j y (by simpa using hj)
   ·cases h

def aCb:List AV→XH→Option (AV×XH):=fun xs h=>match xs with
 | [.fs rows,.str sep]=>match pV rows with
   | some l=>if l.length≤1000∧(Go.Lib.join (l.map (·.data.toList)) sep.data.toList).length≤100000 then some (.str ⟨⟨Go.Lib.join (l.map (·.data.toList)) sep.data.toList⟩⟩,h) else none
   | none=>none
 | _=>none
theorem aIe:jF D 99 aCb:=by
 intro B Y r h H xs ys v h' sh hr hx
 unfold aCb at hx
 split at hx
 ·rename_i rows sep
  split at hx
  ·rename_i l hl
   split at hx
   ·rename_i hn
    cases hx
    obtain⟨a,as1,rfl,h1,h2⟩:=hr.inv
    obtain⟨b,as2,rfl,h3,h4⟩:=h2.inv
    rw[(qG h1).1,dA h3,h4.nil_inv]
    obtain⟨hlen,hget⟩:=qY hl
    refine FnW.shelf (r:=fun _=>.string ⟨(Go.Lib.join (l.map (·.data.toList)) sep.data.toList).toArray⟩) (fun vs w=>call99 vs w) (fun F w vs=>.str _) (fun F w vs hlt ha=>?_) ⟨r,Sub.refl r,sh,.str _⟩
    obtain⟨v1,vs1,rfl,k1,k2⟩:=ha.cons1
    obtain⟨v2,vs2,rfl,k3,k4⟩:=k2.cons1
    rw[k4.nil1]
    cases k3
    have none:∀ (a:Option Addr) (c:Nat),rows=[]→Calls Tryz.prog 99 #[.slice a 0 c,.string sep] w fun e w'=>e = .returned (.string ⟨(Go.Lib.join (l.map (·.data.toList)) sep.data.toList).toArray⟩)∧Below w.heap.size w w':=fun a c h0=>by
     subst h0
     have:l=[]:=List.eq_nil_of_length_eq_zero (by simpa using hlen)
     subst this
     exact(Tryz.strings_Join_none a c sep w).mono fun e w' ⟨he,hw⟩=>⟨by rw[he];rfl,hw▸Below.refl _ _⟩
    cases k1 with
    | fs0 a cap=>exact none a cap rfl
    | fs rows blk off s cap g hcap hF hs hc ho hv =>
      by_cases h0:rows=[]
      ·have:=none (some ⟨blk,off,Option.none⟩) cap h0
       subst h0
       exact this
      ·have hs1:s=1:=by
        obtain⟨row,rest,rfl⟩:=List.exists_cons_of_ne_nil h0
        have hl0:l.length=rest.length+1:=by simpa using hlen
        obtain⟨x,hx0⟩:∃ x,l[0]?=some x:=⟨_,List.getElem?_eq_getElem (by omega)⟩
        have:=hget 0 x hx0
        simp only[List.getElem?_cons_zero,oSI]at this
        rw[←hs row (by simp),this];rfl
       subst hs1
       rw[←hlen]
       refine Tryz.strings_Join blk off cap l sep w (fun j x hj=>?_) (hlt _ hF) (by omega) (by omega) (by omega)
       have h5:=hget j x hj
       have h6:=hc j _ 0 _ h5 rfl
       have h7:=hv j _ 0 _ h5 rfl
       generalize g j 0=y at h6 h7
       cases h7
       simpa using h6
   ·cases hx
  ·cases hx
 ·cases hx
variable {D:Nat→Option XFn} {Y:Nat→Option YI} {r:Nat→Option Nat} {h:XH} {H:Hp} {B:Base}

def kP (c:UInt8):List UInt8→List (List UInt8)
 | []=>[[]]
 | b::r=>if b=c then []::kP c r else match kP c r with
   | x::l=>(b::x)::l
   | []=>[[b]]
theorem uC (c:UInt8):∀ s:List UInt8,Lib.splitK [c] 0 (Lib.count s [c]) s=kP c s
 | []=>by rw[Lib.count_one];rfl
 | b::l=>by
   have ih:=uC c l
   by_cases h:b=c
   ·subst h
    have hix:Lib.index (b::l) [b]=0:=by rw[Lib.index];simp[List.isPrefixOf]
    rw[Lib.count_cons_eq,Nat.add_comm,Lib.splitK,hix]
    simp only[kP,if_true]
    rw[if_neg (by decide)]
    simp[ih]
   ·have hp:([c]:List UInt8).isPrefixOf (b::l)=false:=by simp[List.isPrefixOf,Ne.symm h]
    have hix:Lib.index (b::l) [c]=if Lib.index l [c] == -1 then -1 else Lib.index l [c]+1:=by rw[Lib.index,hp];simp
    rw[Lib.count_cons_ne b c l h]
    simp only[kP,if_neg h,←ih]
    cases hk:Lib.count l [c]with
    | zero=>rfl
    | succ k =>
      simp only[Lib.splitK]
      by_cases hm:Lib.index l [c] = -1
      ·rw[hix,if_pos (beq_iff_eq.2 hm)]
       simp[hm]
      ·have hge:=Lib.index_ge l [c]
       obtain⟨j,hj⟩:∃ j:Nat,Lib.index l [c]=j:=⟨(Lib.index l [c]).toNat,by omega⟩
       rw[hix,if_neg (fun e=>hm (beq_iff_eq.1 e)),hj]
       have h1:¬(((j:Int)+1 == -1)=true):=by simp;omega
       have h2:¬(((j:Int) == -1)=true):=by simp
       rw[if_neg h1,if_neg h2]
       have e:((j:Int)+1).toNat=j+1:=by omega
       simp[e,Nat.add_right_comm]

def zZ:List AV→XH→Option (AV×XH):=fun xs h=>match xs with
 | [.str s,.str ⟨⟨[c]⟩⟩]=>if s.size≤100000 then some (.fs ((kP c s.data.toList).map fun l=>[.str ⟨⟨l⟩⟩]),h) else none
 | _=>none
theorem aIf:jF D 83 zZ:=by
 intro B Y r h H xs ys v h' sh hr hx
 unfold zZ at hx
 split at hx
 ·rename_i s c
  split at hx
  ·rename_i hn
   cases hx
   obtain⟨a,as1,rfl,h1,h2⟩:=hr.inv
   obtain⟨b,as2,rfl,h3,h4⟩:=h2.inv
   rw[dA h1,dA h3,h4.nil_inv]
   have hv:∀ x∈(kP c s.data.toList).map (fun l=>[AV.str ⟨⟨l⟩⟩]),∀ z∈x,Gd z:=fun x hx z hz=>by
    obtain⟨l,_,rfl⟩:=List.mem_map.1 hx
    simp only[List.mem_singleton]at hz
    subst hz;exact .str _
   refine FnW.shelfG (fun vs w=>call83 vs w) (fun F w vs gi hl ha=>?_) ⟨r,DL.Sub.refl r,sh,(Gd.fs _ hv).rn⟩
   obtain⟨hF3,m,hm⟩:=gi.2.1 3 (by simp[vQ])
   rw[ha.strStr]
   refine(Tryz.strings_Split s ⟨#[c]⟩ m w (by omega) hm (by simp[ByteArray.size])).mono ?_
   rintro e w' ⟨rfl,rfl⟩
   have hsp:((Lib.splitB ⟨#[c]⟩ 0 (Lib.countB s ⟨#[c]⟩) s).map (·.data.toList))=kP c s.data.toList:=by
    rw[Lib.splitB_data];exact uC c s.data.toList
   have hlen:(Lib.splitB ⟨#[c]⟩ 0 (Lib.countB s ⟨#[c]⟩) s).length=Lib.countB s ⟨#[c]⟩+1:=Lib.splitB_all _ (by simp[ByteArray.size]) 0 _ _ rfl
   obtain⟨L,hL⟩:∃ L,L=Lib.splitB ⟨#[c]⟩ 0 (Lib.countB s ⟨#[c]⟩) s:=⟨_,rfl⟩
   rw[←hL]at hsp hlen ⊢
   have hrows:(kP c s.data.toList).map (fun l=>[AV.str ⟨⟨l⟩⟩])=L.map fun x=>[AV.str x]:=by
    rw[←hsp,List.map_map]
    rfl
   rw[hrows]
   refine⟨_,fun b=>F b∨b=w.heap.size,rfl,(Below.refl _ w).alloc (Nat.le_refl _) _,fun b hb=>.inl hb,fun b hb=>hb.elim .inl fun e=>.inr (by omega),fun b hb=>?_,?_⟩
   ·rcases hb with hb|rfl
    ·have:=hl b hb;simp;omega
    ·simp
   ·have hcell:∀ (j:Nat) (x:ByteArray),L[j]?=some x→(w.alloc (.cells (L.map Value.string).toArray 9)).cell? ⟨w.heap.size,j,none⟩=some (.string x):=fun j x hj=>by
     have hh:(w.alloc (.cells (L.map Value.string).toArray 9)).heap[w.heap.size]?=some (.cells (L.map Value.string).toArray 9 (0,0)):=by
      show (w.heap.push _)[w.heap.size]?=_
      simp
     unfold World.cell?
     dsimp only
     rw[hh]
     simp[hj]
    have hlen':(L.map fun x=>[AV.str x]).length=Lib.countB s ⟨#[c]⟩+1:=by rw[List.length_map,hlen]
    rw[←hlen']
    refine .fs _ w.heap.size 0 1 _ (fun i _=>.string (L.getD i ByteArray.empty)) (by omega) (.inr rfl) (fun x hx=>?_) (fun i x j z hi hj=>?_) (fun _ _=>rfl) (fun i x j z hi hj=>?_)
    ·obtain⟨y,_,rfl⟩:=List.mem_map.1 hx;rfl
    ·rw[List.getElem?_map,Option.map_eq_some_iff]at hi
     obtain⟨y,hy,rfl⟩:=hi
     cases j with
     | zero =>
       rw[List.getD_eq_getElem?_getD,hy]
       simpa using hcell i y hy
     | succ j=>simp at hj
    ·rw[List.getElem?_map,Option.map_eq_some_iff]at hi
     obtain⟨y,hy,rfl⟩:=hi
     cases j with
     | zero =>
       simp only[List.getElem?_cons_zero,oSI]at hj
       subst hj
       rw[List.getD_eq_getElem?_getD,hy]
       exact .str _
     | succ j=>simp at hj
  ·cases hx
 ·cases hx

theorem aGG {F:Nat→Prop} {w:World} (gi:GI F w):Lib.TabIs prog w "internal/strconv.uint64pow10" IntKind.u64 Lib.pow10Tab:=by
 obtain⟨_,e,fr,h2⟩:=gi.2.2 (0,(List.range 20).map fun i=>Value.int .u64 ((10^i:Nat):Int)) (by simp[vR])
 have hg:prog.globalNamed "internal/strconv.uint64pow10" = some 0:=by kernel_rfl
 unfold Lib.TabIs World.var?
 rw[hg]
 simp only[Option.bind_some]
 dsimp only at h2
 rw[h2]
 simp[Lib.pow10Tab,Function.comp_def]

def uX:List AV→XH→Option (AV×XH):=fun xs h=>match xs with
 | [.int .i64 n]=>if -9223372036854775808≤n∧n≤9223372036854775807 then some (.str ⟨⟨Lib.itoa n⟩⟩,h) else none
 | _=>none
theorem aHb {k:IntKind} {n:Int} {as':List AV} (hr:RnL D Y r [.int k n] as'):as'=[.int k n]:=by
 obtain⟨b,as2,rfl,h3,h4⟩:=hr.inv
 rw[cE h3,h4.nil_inv]
theorem aIk:jF D 57 uX:=by
 intro B Y r h H xs ys v h' sh hr hx
 unfold uX at hx
 split at hx
 ·rename_i n
  split at hx
  ·rename_i hn
   cases hx
   rw[aHb hr]
   refine FnW.shelfG (fun vs w=>call57 vs w) (fun F w vs gi hl ha=>?_) ⟨r,DL.Sub.refl r,sh,.str _⟩
   obtain⟨b,bs,rfl,h3,h4⟩:=ha.cons1
   cases h3;rw[h4.nil1]
   refine(Tryz.strconv_Itoa n hn.1 hn.2 w (aGG gi)).mono ?_
   rintro e w' ⟨rfl,k,os,rfl⟩
   have hbel:Below w.heap.size w («Sort».grow (w.drewN k) os):=by
    have h0:(w.drewN k).heap=w.heap:=rfl
    refine⟨rfl,rfl,rfl,?_,fun j hj=>?_⟩
    ·simp[«Sort».grow,h0]
    ·simp only[«Sort».grow,h0]
     exact Array.getElem?_append_left hj
   exact⟨_,F,rfl,hbel,fun _ h=>h,fun _ h=>.inl h,fun b hb=>Nat.lt_of_lt_of_le (hl b hb) hbel.size,.str _⟩
  ·cases hx
 ·cases hx
set_option maxHeartbeats 2000000 in
set_option maxRecDepth 100000 in
theorem aLt (b g cap:Nat) (p:Value) (cur:Array Value) (fr fz:Nat×Nat) (l:List UInt8) (w:World) (hbk:w.heap[b]?=some (.cells #[p,.slice (some ⟨g,0,none⟩) l.length cap] 126 fr)) (hg:w.heap[g]?=some (.cells cur 5 fz))
 (h0:l≠[]) (hnc:l.length≤cap) (hcs:l.length≤cur.size) (h63:l.length≤9223372036854775807) (hcell:∀ (j:Nat) (x:UInt8),l[j]?=some x→cur[j]?=some (.int .u8 x.toNat)) :
 Calls prog 71 #[.pointer (some ⟨b,0,none⟩)] w fun e w'=>e = .returned (.string ⟨l.toArray⟩)∧w'=w.drew.freeze ⟨g,0,none⟩ l.length:=by
 have hl0:l.length≠0:=by simpa using h0
 have c1:w.drew.cell? ⟨b,1,none⟩=some (.slice (some ⟨g,0,none⟩) l.length cap):=by
  have:w.drew.heap[b]?=some (.cells #[p,.slice (some ⟨g,0,none⟩) l.length cap] 126 fr):=hbk
  rw[Lib.cell_of_heap this];rfl
 have hSD:(Builtin.unsafeSliceData_ #[59] 183 #[.slice (some ⟨g,0,none⟩) l.length cap]).run prog w.drew = .ok (.pointer (some ⟨g,0,none⟩)) w.drew :=
  Lib.run_unsafeSliceData_row _ _ _ _ _ _ (by omega)
 have hUS:(Builtin.unsafeString_ #[183,3] 9 #[.pointer (some ⟨g,0,none⟩),.int .i64 l.length]).run prog w.drew = .ok (.string ⟨l.toArray⟩) (w.drew.freeze ⟨g,0,none⟩ l.length):=by
  refine Lib.run_unsafeString_row w.drew 183 3 9 5 underlying183 (by kernel_rfl) g cur.size (by have hg':w.drew.heap[g]?=some (.cells cur 5 fz):=hg;simp[World.shape?,hg']) l h0 hcs h63 ?_
  intro j x hx
  have hg':w.drew.heap[g]?=some (.cells cur 5 fz):=hg
  have:=hcell j x hx
  have e:(⟨g,0,none⟩:Addr).add j=⟨g,j,none⟩:=by
   by_cases hj:j=0
   ·subst hj;simp[Addr.add]
   ·simp[Addr.add,hj]
  rw[e]
  unfold World.cell?
  dsimp only
  rw[hg']
  simpa using this
 have mixed:prog.follows .mixedOrders=true:=rfl
 have u126:=run_underlying underlying126
 have u124:=run_underlying underlying124
 have u59:=run_underlying underlying59
 have u183:=run_underlying underlying183
 have u3:=run_underlying underlying3
 have u9:=run_underlying underlying9
 have u5:=run_underlying underlying5
 go_enter func71,ntmps71
 go_wp2
 go_region_o
 all_goals (go_wp2;go_ret;exact⟨rfl,rfl⟩)

theorem aCQ:∃ j,prog.info? 126=some j∧j.size=2:=Option.map_eq_some_iff.1 (by kernel_rfl:(prog.info? 126).map (·.size)=some 2)
theorem aHk:liesAt prog prog.depth 126 (2/prog.cellsOf 126) 0 126 1=true:=by kernel_rfl

set_option maxHeartbeats 2000000 in
set_option maxRecDepth 100000 in
theorem xC (b:Nat) (w:World) (h0:w.cell? ⟨b,0,none⟩=some (.pointer none)) (hsh:w.shape? b=some (126,2)) (hfz:w.frozen? ⟨b,0,none⟩=false) :
 Calls prog 115 #[.pointer (some ⟨b,0,none⟩)] w fun e w'=>e = .returned (.tuple #[])∧w'=w.setCell ⟨b,0,none⟩ (.pointer (some ⟨b,0,none⟩)):=by
 obtain⟨j,hj,hjs⟩:=aCQ
 have mixed:prog.follows .mixedOrders=true:=rfl
 have u126:=run_underlying underlying126
 have u124:=run_underlying underlying124
 have u215:=run_underlying underlying215
 have u9:=run_underlying underlying9
 have u4:=run_underlying underlying4
 go_enter func115,ntmps115
 go_wp2
 rw[Lib.run_to_unsafe w ⟨b,0,none⟩ underlying124 underlying215 hj (by rw[hjs];decide) hsh (Nat.zero_lt_succ 1)]
 simp only[Result.andThen]
 rw[Oper.upon_value]
 go_wp2
 rw[run_callFunc_extern func140 (by kernel_rfl) (by kernel_rfl) (by kernel_rfl) (e:=Extern.AbiNoEscape.same) (by kernel_rfl)]
 rw[Lib.run_noEscape]
 simp only[Result.andThen]
 rw[Oper.upon_value]
 go_wp2
 rw[Lib.run_from_unsafe w ⟨b,0,none⟩ underlying215 underlying124 hj hsh aHk]
 simp only[Result.andThen]
 rw[Oper.upon_value]
 go_wp2
 go_end0
 exact⟨rfl,rfl⟩

set_option maxHeartbeats 2000000 in
set_option maxRecDepth 100000 in
theorem aAo (b:Nat) (w:World) (h0:w.cell? ⟨b,0,none⟩=some (.pointer (some ⟨b,0,none⟩))) :
 Calls prog 115 #[.pointer (some ⟨b,0,none⟩)] w fun e w'=>e = .returned (.tuple #[])∧w'=w:=by
 obtain⟨j,hj,hjs⟩:=aCQ
 have mixed:prog.follows .mixedOrders=true:=rfl
 have u126:=run_underlying underlying126
 have u124:=run_underlying underlying124
 have u215:=run_underlying underlying215
 have u9:=run_underlying underlying9
 have u4:=run_underlying underlying4
 go_enter func115,ntmps115
 go_wp2
 rw[Lib.run_neq_ptr_same w _ underlying124 hj]
 go_wp2
 go_end0
 exact⟨rfl,rfl⟩

section
variable {D:Nat→Option XFn} {Y:Nat→Option YI} {r:Nat→Option Nat} {h:XH} {H:Hp} {B:Base}

def aAa:List AV→XH→Option (AV×XH):=fun xs h=>match xs with
 | [.bp b]=>match bB h b with
   | some (.blk _ (.cells true (.nilpt::l)))=>some (.tup [],h.set b (some (.blk false (.cells true (.pt b 0::l)))))
   | some (.blk _ (.cells true (.pt b' 0::_)))=>if b'=b then some (.tup [],h) else none
   | _=>none
 | _=>none
theorem aAl {b:Nat} {g:Bool} {x:ABlk} (h0:bB h b=some (.blk g x)):cQ h b=some x:=by unfold cQ;rw[h0]
theorem aBz {b:Nat} {w:World} {c:Array Value} {e:TypeId} {fr:Nat×Nat} {v:Value} (hb:w.heap[b]?=some (.cells c e fr)) (j:Nat) (hv:c[j]?=some v):w.cell? ⟨b,j,none⟩=some v:=by
 unfold World.cell?
 dsimp only
 rw[hb]
 simpa using hv

theorem aFA:jF D 115 aAa:=by
 intro B Y r h H xs ys v h' sh hr hx
 unfold aAa at hx
 split at hx
 ·rename_i b
  obtain⟨y,as1,rfl,h1,h2⟩:=hr.inv
  obtain⟨c,rfl,hrb⟩:=aFs h1
  rw[h2.nil_inv]
  split at hx
  ·rename_i g l hb
   cases hx
   obtain⟨g',cs',_,k2,k3,_⟩:=sh.cells hrb (aAl hb)
   obtain⟨z,l',rfl,k4,k5⟩:=k3.inv
   rw[uN k4]at k2
   refine⟨fun vs w=>call115 vs w,fun F w vs hB st ha=>?_⟩
   obtain⟨v1,vs1,rfl,a1,a2⟩:=ha.cons1
   rw[a2.nil1]
   cases a1 with
   | bp _ carr fr hcb hsz =>
   obtain⟨o,ho,hrb'⟩:=st.blk c _ k2
   rw[hcb]at ho
   simp only[oSI]at ho
   subst ho
   cases hrb' with
   | cells _ _ _ _ _ hfr hl hone hcells =>
   have hlt:c<w.heap.size:=(Array.getElem?_eq_some_iff.1 hcb).1
   obtain⟨v0,hv0⟩:∃ v0,carr[0]?=some v0:=⟨carr[0]'(by omega),Array.getElem?_eq_getElem _⟩
   have hn:=hcells 0 _ v0 rfl hv0
   cases hn
   refine callsIn_wide.2 ((xC c w (aBz hcb 0 hv0) (by simp[World.shape?,hcb,hsz,aHz]) (by
    have:=hfr 0 (by omega)
    unfold World.frozen?
    dsimp only
    rw[hcb]
    exact this)).mono ?_)
   rintro e w' ⟨rfl,rfl⟩
   have hheap:(w.setCell ⟨c,0,none⟩ (.pointer (some ⟨c,0,none⟩))).heap=w.heap.setIfInBounds c (.cells (carr.setIfInBounds 0 (.pointer (some ⟨c,0,none⟩))) aHz fr):=by
    apply Array.ext_getElem?
    intro j
    rw[Array.getElem?_setIfInBounds]
    simp only[World.setCell,Array.getElem?_modify]
    by_cases hj:c=j
    ·subst hj
     rw[if_pos rfl,if_pos rfl,hcb]
     simp[hlt]
    ·rw[if_neg hj,if_neg hj]
   obtain⟨e1,e2⟩:=gF (w':=w.setCell ⟨c,0,none⟩ (.pointer (some ⟨c,0,none⟩))) (y:=.cells true (.pt c 0::l')) st k2 rfl hcb hheap ⟨rfl,rfl,rfl⟩ (fun c1 e1 fr1 hh=>by cases hh;exact⟨_,_,_,rfl,by simp⟩) (fun F1 w1 hu=>by
    refine .cells true _ _ _ fr (fun i hi=>hfr i (by simpa using hi)) (by simpa using hl) (fun i v hv=>?_) (fun i a v ha hv=>?_)
    ·rw[Array.getElem?_setIfInBounds]at hv
     split at hv
     ·split at hv
      ·cases hv;rfl
      ·cases hv
     ·exact hone i v hv
    ·rw[Array.getElem?_setIfInBounds]at hv
     split at hv
     ·rename_i hi0
      subst hi0
      split at hv
      ·cases hv
       simp only[List.getElem?_cons_zero,oSI]at ha
       subst ha
       exact .pt _ _
      ·cases hv
     ·rename_i hi0
      obtain⟨m,rfl⟩:∃ m,i=m+1:=⟨i-1,by omega⟩
      exact(hcells (m+1) a v (by simpa using ha) hv).up hu)
   refine⟨.tuple #[],.tup [],F,_,rfl,e1,e2,.tup _ _ rfl (by simp),r,DL.Sub.refl r,sh.turn hb hrb (.cells c false true _ _ (RnL.cons (.pt _ _ _ hrb) k5) (by simp)),.tup _ _ rfl (by simp)⟩
  ·rename_i g b' l hb
   split at hx
   ·rename_i hbb
    cases hx
    subst hbb
    obtain⟨g',cs',_,k2,k3,_⟩:=sh.cells hrb (aAl hb)
    obtain⟨z,l',rfl,k4,k5⟩:=k3.inv
    obtain⟨c',rfl,hr'⟩:=lW k4
    rw[hrb]at hr'
    cases hr'
    refine⟨fun vs w=>call115 vs w,fun F w vs hB st ha=>?_⟩
    obtain⟨v1,vs1,rfl,a1,a2⟩:=ha.cons1
    rw[a2.nil1]
    cases a1 with
    | bp _ carr fr hcb hsz =>
    obtain⟨o,ho,hrb'⟩:=st.blk c _ k2
    rw[hcb]at ho
    simp only[oSI]at ho
    subst ho
    cases hrb' with
    | cells _ _ _ _ _ hfr hl hone hcells =>
    obtain⟨v0,hv0⟩:∃ v0,carr[0]?=some v0:=⟨carr[0]'(by omega),Array.getElem?_eq_getElem _⟩
    have hn:=hcells 0 _ v0 rfl hv0
    cases hn
    refine callsIn_wide.2 ((aAo c w (aBz hcb 0 hv0)).mono ?_)
    rintro e w' ⟨rfl,rfl⟩
    exact⟨.tuple #[],.tup [],F,H,rfl,Ext.refl _ _ _,st,.tup _ _ rfl (by simp),r,DL.Sub.refl r,sh,.tup _ _ rfl (by simp)⟩
   ·cases hx
  ·cases hx
 ·cases hx

def sS:List AV→Option (List UInt8)
 | []=>some []
 | .int .u8 n::r=>if 0≤n∧n<256 then (sS r).map (UInt8.ofNat n.toNat :: ·) else none
 | _=>none
theorem aBD:∀ {bs:List AV} {l:List UInt8},sS bs=some l→l.length=bs.length∧∀ (j:Nat) (x:UInt8),l[j]?=some x→bs[j]?=some (.int .u8 x.toNat)
 | [],l,h=>by simp only[sS,oSI]at h;subst h;simp
 | v::bs,l,h=>by
   unfold sS at h
   split at h
   ·rename_i h0;cases h0
   ·rename_i n r h0
    cases h0
    split at h
    ·rename_i hn
     cases hl:sS bs with
     | none=>rw[hl]at h;cases h
     | some l' =>
       rw[hl]at h
       simp only[Option.map_some,oSI]at h
       subst h
       obtain⟨h1,h2⟩:=aBD hl
       refine⟨by simp[h1],fun j x hj=>?_⟩
       cases j with
       | zero =>
         simp only[List.getElem?_cons_zero,oSI]at hj
         subst hj
         have:((UInt8.ofNat n.toNat).toNat:Int)=n:=by
          rw[UInt8.toNat_ofNat']
          have:n.toNat%2^8=n.toNat:=Nat.mod_eq_of_lt (by omega)
          rw[this];omega
         rw[this];rfl
       | succ j=>exact h2 j x (by simpa using hj)
    ·cases h
   ·cases h

def aAU:List AV→XH→Option (AV×XH):=fun xs h=>match xs with
 | [.bp b]=>match bB h b with
   | some (.blk _ (.cells _ [_,.sb g n]))=>match bB h g with
     | some (.blk _ (.cells true bs))=>match sS (bs.take n)with
       | some (x::l)=>if n≤bs.length∧g≠b∧n≤1000000 then some (.str ⟨⟨x::l⟩⟩,h.set g none) else none
       | _=>none
     | _=>none
   | _=>none
 | _=>none

theorem mX {w:World} {g n:Nat} {c:Array Value} {e:TypeId} {fr:Nat×Nat} (hg:w.heap[g]?=some (.cells c e fr)):∃ fr',(w.drew.freeze ⟨g,0,none⟩ n).heap[g]?=some (.cells c e fr')∧(∀ j,j≠g→(w.drew.freeze ⟨g,0,none⟩ n).heap[j]?=w.heap[j]?) ∧
 (w.drew.freeze ⟨g,0,none⟩ n).heap.size=w.heap.size∧SameIO w (w.drew.freeze ⟨g,0,none⟩ n):=by
 unfold World.freeze
 split
 ·exact⟨fr,hg,fun _ _=>rfl,rfl,⟨rfl,rfl,rfl⟩⟩
 ·have h0:w.drew.heap=w.heap:=rfl
  refine⟨if fr.1==fr.2 then (0,0+n) else (min fr.1 0,max fr.2 (0+n)),?_,fun j hj=>?_,by simp[h0],⟨rfl,rfl,rfl⟩⟩
  ·simp only[h0,Array.getElem?_modify,if_true,hg,Option.map_some]
  ·simp only[h0,Array.getElem?_modify]
   rw[if_neg (Ne.symm hj)]

theorem aIj:jF D 71 aAU:=by
 intro B Y r h H xs ys v h' sh hr hx
 unfold aAU at hx
 split at hx
 ·rename_i b
  obtain⟨y,as1,rfl,h1,h2⟩:=hr.inv
  obtain⟨c,rfl,hrb⟩:=aFs h1
  rw[h2.nil_inv]
  split at hx
  ·rename_i fl wr a0 g n hb
   split at hx
   ·rename_i fl2 bs hg
    split at hx
    ·rename_i x l hbl
     split at hx
     ·rename_i hc
      cases hx
      obtain⟨_,cs',_,k2,k3,_⟩:=sh.cells hrb (aAl hb)
      obtain⟨z0,l0,rfl,k4,k5⟩:=k3.inv
      obtain⟨z1,l1,rfl,k6,k7⟩:=k5.inv
      rw[k7.nil_inv]at k2
      obtain⟨gc,rfl,hrg⟩:=aFr k6
      obtain⟨_,bs',_,m2,m3,_⟩:=sh.cells hrg (aAl hg)
      obtain⟨hbl1,hbl2⟩:=aBD hbl
      have hlen:(x::l).length=n:=by rw[hbl1,List.length_take];omega
      have hne:gc≠c:=fun e=>hc.2.1 (sh.inj g b c _ _ hg hb (e▸hrg) hrb)
      refine⟨fun vs w=>call71 vs w,fun F w vs hB st ha=>?_⟩
      obtain⟨v1,vs1,rfl,a1,a2⟩:=ha.cons1
      rw[a2.nil1]
      cases a1 with
      | bp _ carr fr hcb hsz =>
      obtain⟨o,ho,hrb'⟩:=st.blk c _ k2
      rw[hcb]at ho
      simp only[oSI]at ho
      subst ho
      cases hrb' with
      | cells _ _ _ _ _ hfr hl hone hcells =>
      obtain⟨v0,hv0⟩:∃ v0,carr[0]?=some v0:=⟨carr[0]'(by omega),Array.getElem?_eq_getElem _⟩
      obtain⟨v1,hv1⟩:∃ v1,carr[1]?=some v1:=⟨carr[1]'(by omega),Array.getElem?_eq_getElem _⟩
      have hs:=hcells 1 _ v1 rfl hv1
      cases hs with
      | sb _ _ cap gcur gfr hgb hcap hle =>
      have hcarr:carr = #[v0,.slice (some ⟨gc,0,none⟩) n cap]:=by
       apply Array.ext_getElem?
       intro j
       match j with
       | 0=>rw[hv0];rfl
       | 1=>rw[hv1];rfl
       | j+2=>rw[Array.getElem?_eq_none (by omega),Array.getElem?_eq_none (by simp)]
      rw[hcarr]at hcb
      obtain⟨o2,ho2,hrg'⟩:=st.blk gc _ m2
      rw[hgb]at ho2
      simp only[oSI]at ho2
      subst ho2
      cases hrg' with
      | cells _ _ _ _ _ hfr2 hl2 hone2 hcells2 =>
      have hl2':bs.length=bs'.length:=m3.1
      rw[←hlen]at hcb
      refine callsIn_wide.2 ((aLt c gc cap v0 gcur fr gfr (x::l) w hcb hgb (by simp) (by omega) (by omega) (by omega) (fun j u hj=>?_)).mono ?_)
      ·have hb1:=hbl2 j u hj
       rw[List.getElem?_take]at hb1
       split at hb1
       ·obtain⟨u',hu1,hu2⟩:=m3.get hb1
        have hlt:j<bs'.length:=(List.getElem?_eq_some_iff.1 hu1).1
        obtain⟨q,hq⟩:∃ q,gcur[j]?=some q:=⟨gcur[j]'(by omega),Array.getElem?_eq_getElem _⟩
        have h9:=hcells2 j u' q hu1 hq
        rw[cE hu2]at h9
        cases h9
        exact hq
       ·cases hb1
      ·rintro e w' ⟨rfl,rfl⟩
       obtain⟨fr',f1,f2,f3,f4⟩:=mX (n:=(x::l).length) hgb
       have hE:Ext F w H F (w.drew.freeze ⟨gc,0,none⟩ (x::l).length) (jM H gc):=by
        refine⟨fun _ h=>h,fun _ h=>.inl h,fun j hj=>?_,fun j hj=>?_,by rw[f3];exact Nat.le_refl _,fun j hj hw=>?_,fun j c1 e1 fr1 hj=>?_,f4⟩
        ·unfold jM at hj
         split at hj
         ·cases hj
         ·exact .inl hj
        ·left
         unfold lZ at hj ⊢
         unfold jM at hj
         by_cases hjg:j=gc
         ·simp[hjg]at hj
         ·simpa [hjg]using hj
        ·refine f2 j fun e=>?_
         subst e
         unfold lZ at hw
         rw[m2]at hw
         simp[ABlk.wr]at hw
        ·by_cases hjg:j=gc
         ·subst hjg
          rw[hgb]at hj
          cases hj
          exact⟨_,_,_,f1,rfl⟩
         ·exact⟨c1,e1,fr1,by rw[f2 j hjg];exact hj,rfl⟩
       have hU:=hE.up st
       refine⟨.string ⟨(x::l).toArray⟩,.str ⟨⟨x::l⟩⟩,F,jM H gc,rfl,hE,⟨fun j hj=>by rw[f3];exact st.lt j hj,fun j y hj=>?_,fun j y hj=>?_⟩,.str _,r,DL.Sub.refl r,⟨fun b1 c1 hb1=>by simpa using sh.dom b1 c1 hb1,fun b1 b2 c1 x1 x2 q1 q2 q3 q4=>?_,fun b1 x1 q1=>?_⟩,.str _⟩
       ·unfold jM at hj
        split at hj
        ·cases hj
        ·exact st.dis j y hj
       ·unfold jM at hj
        split at hj
        ·cases hj
        ·rename_i hjg
         obtain⟨o,o1,o2⟩:=st.blk j y hj
         exact⟨o,by rw[f2 j hjg];exact o1,o2.up hU⟩
       ·have live:∀ b z,bB (h.set g none) b=some z→bB h b=some z:=fun b z hz=>by
         rw[dN]at hz
         split at hz
         ·cases hz
         ·exact hz
        exact sh.inj b1 b2 c1 x1 x2 (live _ _ q1) (live _ _ q2) q3 q4
       ·rw[dN]at q1
        split at q1
        ·cases q1
        ·rename_i hcd
         obtain⟨c2,y2,w1,w2,w3⟩:=sh.blk b1 x1 q1
         refine⟨c2,y2,w1,?_,w3⟩
         unfold jM
         rw[if_neg]
         ·exact w2
         ·intro e
          subst e
          exact hcd ⟨sh.inj b1 g _ x1 _ q1 hg w1 hrg,pG hg⟩
     ·cases hx
    ·cases hx
   ·cases hx
  ·cases hx
 ·cases hx
end
section
variable {D:Nat→Option XFn} {Y:Nat→Option YI} {r:Nat→Option Nat} {h:XH} {H:Hp} {B:Base}
theorem pB {s t:ByteArray} {as':List AV} (hr:RnL D Y r [.str s,.str t] as'):as'=[.str s,.str t]:=by
 obtain⟨a,as1,rfl,h1,h2⟩:=hr.inv
 obtain⟨b,as2,rfl,h3,h4⟩:=h2.inv
 rw[dA h1,dA h3,h4.nil_inv]

def mN:List AV→XH→Option (AV×XH):=fun xs h=>match xs with
 | [.str s,.str p]=>if s.size≤1000000 then some (.bool (Lib.hasSuffix s.data.toList p.data.toList),h) else none
 | _=>none
theorem aIm:jF D 37 mN:=by
 intro B Y r h H xs ys v h' sh hr hx
 unfold mN at hx
 split at hx
 ·rename_i s p
  split at hx
  ·rename_i hn
   cases hx
   rw[pB hr]
   refine FnW.shelf (r:=fun _=>.bool (Lib.hasSuffix s.data.toList p.data.toList)) (fun vs w=>call37 vs w) (fun F w vs=>.bool _) (fun F w vs hl ha=>?_) ⟨r,DL.Sub.refl r,sh,.bool _⟩
   rw[ha.strStr]
   exact(Tryz.strings_HasSuffix s p w (by omega)).mono fun e w' ⟨he,hw⟩=>⟨he,hw▸Below.refl _ _⟩
  ·cases hx
 ·cases hx

def uW:List AV→XH→Option (AV×XH):=fun xs h=>match xs with
 | [.str s,.str p]=>some (.tup [.str ⟨⟨Lib.trimPrefix s.data.toList p.data.toList⟩⟩,.bool (Lib.hasPrefix s.data.toList p.data.toList)],h)
 | _=>none
theorem aIi:jF D 72 uW:=by
 intro B Y r h H xs ys v h' sh hr hx
 unfold uW at hx
 split at hx
 ·rename_i s p
  cases hx
  rw[pB hr]
  have two:∀ (F:Nat→Prop) (w:World),Rv F w (.tup [.str ⟨⟨Lib.trimPrefix s.data.toList p.data.toList⟩⟩,.bool (Lib.hasPrefix s.data.toList p.data.toList)]) (.tuple #[.string ⟨(Lib.trimPrefix s.data.toList p.data.toList).toArray⟩,.bool (Lib.hasPrefix s.data.toList p.data.toList)]):=fun F w =>
   .tup _ _ rfl fun i x y hx hy=>by
    match i with
    | 0=>simp at hx hy;subst hx hy;exact .str _
    | 1=>simp at hx hy;subst hx hy;exact .bool _
    | k+2=>simp at hx
  refine FnW.shelf (r:=fun _=>.tuple #[.string ⟨(Lib.trimPrefix s.data.toList p.data.toList).toArray⟩,.bool (Lib.hasPrefix s.data.toList p.data.toList)]) (fun vs w=>call72 vs w) (fun F w vs=>two F w) (fun F w vs hl ha=>?_) ⟨r,DL.Sub.refl r,sh,(Gd.tup _ (fun c hc=>by
   simp only[List.mem_cons,List.not_mem_nil,or_false]at hc
   rcases hc with rfl|rfl
   ·exact .str _
   ·exact .bool _)).rn⟩
  rw[ha.strStr]
  exact(Tryz.strings_CutPrefix s p w).mono fun e w' ⟨he,hw⟩=>⟨he,hw▸Below.refl _ _⟩
 ·cases hx

def uV:List AV→XH→Option (AV×XH):=fun xs h=>match xs with
 | [.str s,.str ⟨⟨[c]⟩⟩]=>if c.toNat<128∧s.size≤1000000 then some (.str ⟨⟨Lib.trimRightB s.data.toList c⟩⟩,h) else none
 | _=>none
theorem aIg:jF D 80 uV:=by
 intro B Y r h H xs ys v h' sh hr hx
 unfold uV at hx
 split at hx
 ·rename_i s c
  split at hx
  ·rename_i hn
   cases hx
   rw[pB hr]
   refine FnW.shelf (r:=fun _=>.string ⟨(Lib.trimRightB s.data.toList c).toArray⟩) (fun vs w=>call80 vs w) (fun F w vs=>.str _) (fun F w vs hl ha=>?_) ⟨r,DL.Sub.refl r,sh,.str _⟩
   rw[ha.strStr]
   exact(Tryz.strings_TrimRight_one s c hn.1 w (by omega)).mono fun e w' ⟨he,hw⟩=>⟨he,hw▸Below.refl _ _⟩
  ·cases hx
 ·cases hx

def aAV:List AV→XH→Option (AV×XH):=fun xs h=>match xs with
 | [.fs rows,.str x]=>match pV rows with
   | some l=>if l.length≤1000000 then some (.bool (Lib.containsS l x),h) else none
   | none=>none
 | _=>none
theorem aIl:jF D 47 aAV:=by
 intro B Y r h H xs ys v h' sh hr hx
 unfold aAV at hx
 split at hx
 ·rename_i rows x
  split at hx
  ·rename_i l hl
   split at hx
   ·rename_i hn
    cases hx
    obtain⟨a,as1,rfl,h1,h2⟩:=hr.inv
    obtain⟨b,as2,rfl,h3,h4⟩:=h2.inv
    rw[(qG h1).1,dA h3,h4.nil_inv]
    obtain⟨hlen,hget⟩:=qY hl
    refine FnW.shelf (r:=fun _=>.bool (Lib.containsS l x)) (fun vs w=>call47 vs w) (fun F w vs=>.bool _) (fun F w vs hlt ha=>?_) ⟨r,DL.Sub.refl r,sh,.bool _⟩
    obtain⟨v1,vs1,rfl,k1,k2⟩:=ha.cons1
    obtain⟨v2,vs2,rfl,k3,k4⟩:=k2.cons1
    rw[k4.nil1]
    cases k3
    have none:∀ (a:Option Addr) (c:Nat),rows=[]→Calls Tryz.prog 47 #[.slice a 0 c,.string x] w fun e w'=>e = .returned (.bool (Lib.containsS l x))∧Below w.heap.size w w':=fun a c h0=>by
     subst h0
     have:l=[]:=List.eq_nil_of_length_eq_zero (by simpa using hlen)
     subst this
     exact(Tryz.slices_Contains_string_empty a c x w).mono fun e w' ⟨he,hw⟩=>⟨by rw[he];rfl,hw▸Below.refl _ _⟩
    cases k1 with
    | fs0 a cap=>exact none a cap rfl
    | fs rows blk off s cap g hcap hF hs hc ho hv =>
      by_cases h0:rows=[]
      ·have:=none (some ⟨blk,off,Option.none⟩) cap h0
       subst h0
       exact this
      ·have hs1:s=1:=by
        obtain⟨row,rest,rfl⟩:=List.exists_cons_of_ne_nil h0
        have hl0:l.length=rest.length+1:=by simpa using hlen
        obtain⟨y,hy0⟩:∃ y,l[0]?=some y:=⟨_,List.getElem?_eq_getElem (by omega)⟩
        have:=hget 0 y hy0
        simp only[List.getElem?_cons_zero,oSI]at this
        rw[←hs row (by simp),this];rfl
       subst hs1
       have hcl:=Tryz.slices_Contains_string blk off l.length cap l x w (Nat.le_refl _) (by omega) (fun j hj=>by
        obtain⟨y,hy⟩:∃ y,l[j]?=some y:=⟨_,List.getElem?_eq_getElem hj⟩
        have h5:=hget j y hy
        have h6:=hc j _ 0 _ h5 rfl
        have h7:=hv j _ 0 _ h5 rfl
        rw[List.getD_eq_getElem?_getD,hy]
        generalize g j 0=z at h6 h7
        cases h7
        simpa using h6)
       rw[List.take_length]at hcl
       rw[←hlen]
       exact hcl.mono fun e w' ⟨he,hw⟩=>⟨he,hw▸Below.refl _ _⟩
   ·cases hx
  ·cases hx
 ·cases hx
end
def p75 (r:Nat):Bool:=decide (r<32)||decide (126<r)

set_option maxHeartbeats 2000000 in
set_option maxRecDepth 100000 in
theorem aQt (x:Nat) (hx:x≤1114111) (W:World):FnGives prog 75 #[] #[encR x] (.bool (p75 x)) W:=by
 unfold FnGives
 have u21:=run_underlying underlying21
 have u4:=run_underlying underlying4
 show Calls prog 75 (#[encR x] ++ #[]) W _
 by_cases h1:x<32
 ·have e:p75 x=true:=by simp[p75,h1]
  rw[e]
  have h1':(x:Int)<32:=by omega
  go_enter func75,ntmps75
  go_wp2
  all_goals (go_ret;exact⟨rfl,0,rfl⟩)
 ·by_cases h2:126<x
  ·have e:p75 x=true:=by simp[p75,h2]
   rw[e]
   have h1':¬(x:Int)<32:=by omega
   have h2':(126:Int)<x:=by omega
   go_enter func75,ntmps75
   go_wp2
   all_goals (go_ret;exact⟨rfl,0,rfl⟩)
  ·have e:p75 x=false:=by simp[p75];omega
   rw[e]
   have h1':¬(x:Int)<32:=by omega
   have h2':¬(126:Int)<x:=by omega
   go_enter func75,ntmps75
   go_wp2
   all_goals (go_ret;exact⟨rfl,0,rfl⟩)

def iK:List UInt8→Bool
 | []=>false
 | b::r=>decide (b.toNat<32)||(decide (126<b.toNat)||iK r)
theorem aEr (s:ByteArray) (pos:Nat) (h:128≤(s.get! pos).toNat):126<(Utf8.decode s pos).1:=by
 have h0:¬(s.get! (pos+0)).toNat<128:=by
  show ¬(s.get! pos).toNat<128
  omega
 unfold Utf8.decode
 dsimp only
 rw[if_neg h0]
 split
 ·split
  ·rename_i hc;exact Nat.lt_of_lt_of_le (by decide) hc
  ·decide
 ·split
  ·split
   ·rename_i hc
    simp only[Bool.and_eq_true,decide_eq_true_eq]at hc
    omega
   ·decide
  ·split
   ·split
    ·rename_i hc
     simp only[Bool.and_eq_true,decide_eq_true_eq]at hc
     omega
    ·decide
   ·decide
theorem aEq (s:ByteArray) (pos:Nat) (h:(s.get! pos).toNat<128):Utf8.decode s pos=((s.get! pos).toNat,1):=by
 have h0:(s.get! (pos+0)).toNat<128:=h
 unfold Utf8.decode
 dsimp only
 rw[if_pos h0]
 rfl
theorem aGe {s:ByteArray} {pos:Nat} {b:UInt8} {l:List UInt8} (h:s.data.toList.drop pos=b::l):s.get! pos=b∧pos<s.size∧s.data.toList.drop (pos+1)=l:=by
 have hlt:pos<s.data.toList.length:=by
  rcases Nat.lt_or_ge pos s.data.toList.length with h1|h1
  ·exact h1
  ·rw[List.drop_eq_nil_of_le h1]at h;cases h
 have hsz:s.size=s.data.toList.length:=by rw[Array.length_toList];rfl
 rw[List.drop_eq_getElem_cons hlt]at h
 simp only[List.cons.injEq]at h
 refine⟨?_,by omega,h.2⟩
 rw[←h.1]
 have:pos<s.data.size:=by simpa using hlt
 show s.data[pos]! = _
 rw[getElem!_pos s.data pos this]
 simp
theorem aDn (s:ByteArray):∀ (l:List UInt8) (f pos:Nat),s.data.toList.drop pos=l→l.length≤f→decide (0≤Lib.idxFuncFrom p75 true s f pos)=iK l
 | [],f,pos,h,hf=>by
   have hsz:s.size=s.data.toList.length:=by rw[Array.length_toList];rfl
   have:¬pos<s.size:=fun hc=>by
    have:=List.length_drop (l:=s.data.toList) (i:=pos)
    rw[h]at this
    simp at this
    omega
   rw[Lib.idxFuncFrom_end p75 true s f pos this]
   rfl
 | b::l,0,pos,h,hf=>by simp at hf
 | b::l,f+1,pos,h,hf=>by
   obtain⟨h1,h2,h3⟩:=aGe h
   unfold Lib.idxFuncFrom
   rw[if_pos h2]
   by_cases hb:b.toNat<128
   ·rw[aEq s pos (by rw[h1];exact hb),h1]
    dsimp only
    by_cases hp:p75 b.toNat=true
    ·rw[if_pos hp]
     have:iK (b::l)=true:=by
      unfold iK
      unfold p75 at hp
      simp only[Bool.or_eq_true]at hp ⊢
      rcases hp with hp|hp
      ·exact .inl hp
      ·exact .inr (.inl hp)
     rw[this]
     simp
    ·rw[if_neg hp,aDn s l f (pos+1) h3 (by simpa using hf)]
     unfold p75 at hp
     simp only[Bool.or_eq_true,decide_eq_true_eq,not_or]at hp
     have e1:decide (b.toNat<32)=false:=decide_eq_false hp.1
     have e2:decide (126<b.toNat)=false:=decide_eq_false hp.2
     rw[iK,e1,e2]
     simp
   ·have hd:=aEr s pos (by rw[h1];omega)
    have hp:p75 (Utf8.decode s pos).1=true:=by simp[p75,hd]
    rw[if_pos hp]
    have:iK (b::l)=true:=by
     unfold iK
     have:decide (126<b.toNat)=true:=decide_eq_true (by omega)
     rw[this]
     simp
    rw[this]
    simp

section
variable {D:Nat→Option XFn} {Y:Nat→Option YI} {r:Nat→Option Nat} {h:XH} {H:Hp} {B:Base}
def aCZ:List AV→XH→Option (AV×XH):=fun xs h=>match xs with
 | [.str s,.fn (.func 75) [] []]=>some (.bool (iK s.data.toList),h)
 | _=>none
theorem aIh:jF D 74 aCZ:=by
 intro B Y r h H xs ys v h' sh hr hx
 unfold aCZ at hx
 split at hx
 ·rename_i s
  cases hx
  obtain⟨a,as1,rfl,h1,h2⟩:=hr.inv
  obtain⟨b,as2,rfl,h3,h4⟩:=h2.inv
  rw[dA h1,h4.nil_inv]
  have hb:b = .fn (.func 75) [] []:=by
   cases h3 with
   | fn _ _ ys _ vs _ hl1 _ hl2 _ =>
     rw[List.eq_nil_of_length_eq_zero (l:=ys) (by simpa using hl1.symm),List.eq_nil_of_length_eq_zero (l:=vs) (by simpa using hl2.symm)]
  rw[hb]
  refine FnW.shelf (r:=fun _=>.bool (iK s.data.toList)) (fun vs w=>call74 vs w) (fun F w vs=>.bool _) (fun F w vs hl ha=>?_) ⟨r,DL.Sub.refl r,sh,.bool _⟩
  obtain⟨v1,vs1,rfl,k1,k2⟩:=ha.cons1
  obtain⟨v2,vs2,rfl,k3,k4⟩:=k2.cons1
  rw[k4.nil1]
  cases k1
  cases k3 with
  | fn _ _ _ fv cv hl1 hl2 _ _ =>
    have e1:fv = #[]:=by
     rcases fv with ⟨_|⟨a,l⟩⟩
     ·rfl
     ·simp at hl1
    have e2:cv = #[]:=by
     rcases cv with ⟨_|⟨a,l⟩⟩
     ·rfl
     ·simp at hl2
    rw[e1,e2]
    have hc:=Tryz.strings_ContainsFunc_runes 75 #[] (fun vs w=>call75 vs w) p75 s w (fun W x hx _=>aQt x hx W)
    have he:decide (0≤Lib.idxFunc p75 true s)=iK s.data.toList:=aDn s s.data.toList s.size 0 rfl (by rw[Array.length_toList];exact Nat.le_refl _)
    rw[he]at hc
    exact hc
 ·cases hx
end
end Go.Proofs.YtmapgnepfgnphaaGreatDoor
namespace Go.Proofs.YtmapgnepfgnphaaGreatDoor
open Go Go.DL Go.Proofs.Tryz
set_option maxRecDepth 10000

noncomputable def ops56:Array Oper:=match f56.body with
 | some (.seq (.region _ ops _) _)=>ops
 | _ => #[]
noncomputable def rest56:Code:=match f56.body with
 | some (.seq (.region _ _ _) c)=>c
 | _=>.skip
theorem aJN:f56.body=some (.seq (.region 0 ops56 false) rest56):=rfl
theorem aJl:∃ o,ops56[0]?=some o∧o.dst=some 4∧o.guard=none∧o.op = .call { callee:=.builtin .recover,args := #[],argTypes := #[] }:=⟨_,rfl,rfl,rfl,rfl⟩
theorem aJk:∃ o,ops56[1]?=some o∧o.dst=some 5∧o.guard=none∧o.op = .typeAssert (.tmp 4) 20 110 true:=⟨_,rfl,rfl,rfl,rfl⟩
def lF:List DOper:=[⟨0,some 3,.mv (.t 5),none⟩,⟨0,some 6,.ext (.t 3) 0,none⟩,⟨0,some 7,.ext (.t 3) 1,none⟩,⟨0,some 1,.alloc [.int .i64 0],none⟩,⟨0,none,.store 1 (.t 1) (.t 6) [],none⟩,⟨0,some 2,.mv (.t 7),none⟩]
def vM:List DOper:=[⟨0,some 8,.mv (.t 2),none⟩]
def qR:List DOper:=[⟨0,some 9,.fld 0 (.t 1),none⟩,⟨0,some 10,.load false 1 (.t 9),none⟩,⟨0,some 11,.callf false (.c (.fn (.func 57) [] [])) [.t 10] [],none⟩,
 ⟨0,some 12,.bin .add (.c (.str ⟨#[110,111,32]⟩)) (.t 11),none⟩,⟨0,none,.store 1 (.t 0) (.t 12) [],none⟩]
noncomputable def ops56m:Array Oper:=match f56.body with
 | some (.seq _ (.seq (.region _ ops _) _))=>ops
 | _ => #[]
noncomputable def ops56l:Array Oper:=match f56.body with
 | some (.seq _ (.seq _ (.cond _ (.region _ ops _) _)))=>ops
 | _ => #[]
theorem aEb:rest56 = .seq (.region 1 ops56m false) (.cond (.tmp 8) (.region 2 ops56l false) .skip):=rfl
theorem aHd:((ops56.toList.drop 2).mapM (sP prog ops56))=some lF:=by kernel_rfl
theorem aJH:nJ prog 13 ops56m false=some vM:=by kernel_rfl
theorem aHy:nJ prog 13 ops56l false=some qR:=by kernel_rfl
theorem aIZ:ops56.size=8:=rfl
theorem aGD:∃ i,prog.info? 110=some i∧i.zero=some (.agg #[.int .i64 0]):=⟨_,rfl,rfl⟩
theorem aAz:∃ fs,prog.underlying 110=some (.struct fs):=⟨_,rfl⟩
theorem aLE:f56.results = #[]:=rfl
theorem aLQ:f56.ntmps=13:=rfl

noncomputable def code21:Code:=match f21.body with
 | some (.seq _ (.seq _ c))=>c
 | _=>.skip
noncomputable def r21_0:Array Oper:=match f21.body with
 | some (.seq (.region _ ops _) _)=>ops
 | _ => #[]
noncomputable def r21_1:Array Oper:=match f21.body with
 | some (.seq _ (.seq (.region _ ops _) _))=>ops
 | _ => #[]
theorem aJO:f21.body=some (.seq (.region 0 r21_0 false) (.seq (.region 1 r21_1 false) code21)):=rfl
theorem aLJ:nJ prog 41 r21_0 false=some [⟨0,some 4,.alloc [.str ⟨#[]⟩],none⟩]:=by kernel_rfl
theorem aLU:∃ o,r21_1[0]?=some o∧sP prog r21_1 o=some ⟨0,some 7,.mkf (.func 56) [] [.t 4],none⟩:=⟨_,rfl,by kernel_rfl⟩
theorem aQv:∃ o,r21_1[1]?=some o∧o.dst=none∧o.guard=none∧o.op = .defer { callee:=.value (.tmp 7),args := #[],argTypes := #[] }:=⟨_,rfl,rfl,rfl,rfl⟩
theorem aNx:r21_1.size=2:=rfl
theorem aLR:f21.ntmps=41:=rfl
theorem aLF:f21.results.toList.mapM (wV prog)=some [(4,some (false,1))]:=by kernel_rfl

section
variable {D:Nat→Option XFn} {B:Base} {Y:Nat→Option YI} {r:Nat→Option Nat} {h:XH} {H:Hp} {F:Nat→Prop} {w:World}

theorem aAn:∀ (j:Nat) (d:DOper),lF[j]?=some d→Reads prog ops56 (2+j) d:=by
 intro j d hj
 obtain⟨h1,h2⟩:=kA aHd
 obtain⟨o,h3,h4⟩:=h2 j d hj
 refine fU (o:=o) ?_ h4
 rw[List.getElem?_drop,Array.getElem?_toList]at h3
 exact h3
theorem aEj:∀ d∈lF,aBv 13 d:=by
 intro d hd
 simp only[lF,List.mem_cons,List.not_mem_nil,or_false]at hd
 rcases hd with rfl|rfl|rfl|rfl|rfl|rfl<;>exact⟨by intro k hk;simp at hk<;>omega,rfl⟩

theorem aIQ {run:cF} {runY:cU} (hf:dK prog B D Y run) (hy:YS prog B D Y runY) (hm:prog.follows .mixedOrders=true) (hB:B.Up F w) (st:St F w H) (sh:SH D Y r h H) {c o b:Nat} (hrc:r c=some b)
 {i:aAv} (hi1:i.hops=lF++vM) (hi2:i.hlast=qR) (hi3:i.is=8) {v v':AV} {t:Bool} (hv:Rn D Y r v v') {h3:XH} (hx:yM i run runY (.pt c o) v t h=some h3)
 {x vv:Value} (hta:(Instr.typeAssert x 20 110 true).run prog w = .ok (.tuple #[vv,.bool t]) w) (hvv:Rv F w v' vv) {cs:List Frame} {Q:Exit→Act→List Frame→World→Prop} {a:Act} (ha:a.tmps.size=13) (hdf:a.defers=[])
 (ha4:a.eval (.tmp 4)=x) (ha0:a.tmps.getD 0 undef = .pointer (some ⟨b,o,none⟩)) (gi:GI F w)
 (hQ:∀ a' F' w' H' r',a'.defers=[]→Ext F w H F' w' H'→St F' w' H'→Sub r r'→SH D Y r' h3 H'→Q .normal a' cs w') :
 wpOpsIn Fence.wide 0 prog ops56 (fun e a w=>Exit.thenS (rest56.wpSIn Fence.wide 0 prog Q) Q e a cs w) (List.range' 1 7) a w:=by
 obtain⟨o1,g1,g2,g3,g4⟩:=aJk
 rw[List.range'_succ,wpOpsIn_cons]
 unfold wpOpIn
 simp only[g1]
 have hw:Region.wanted o1 (yielded ops56 a.tmps)=true:=by unfold Region.wanted;rw[g3]
 rw[if_pos hw]
 refine⟨fun _ _=>trivial,?_⟩
 have hs:(o1.semAt Fence.wide.round a.eval).run prog w = .ok (.value (.tuple #[vv,.bool t])) w:=by
  rw[Oper.semAt_eq _ _ _ (by rw[g4];simp)]
  simp[execOp,g4,ha4,hta]
 rw[hs,Oper.uponIn_value,g2]
 have hsr:SR D Y r (yN (.pt c o) v t) h (yN (.pt b o) v' t) H:=⟨sh,fun j=>by
  unfold yN
  split
  ·exact .pt _ _ _ hrc
  ·split
   ·exact .tup _ _ rfl fun i x y hx hy=>by
     match i with
     | 0=>simp at hx hy;subst hx hy;exact hv
     | 1=>simp at hx hy;subst hx hy;exact .bool _
     | k+2=>simp at hx
   ·exact .any _⟩
 have hre:RE F w (yN (.pt b o) v' t) (a.put (some 5) (.tuple #[vv,.bool t])):=⟨fun k=>by
  unfold yN
  have hsz5:5<a.tmps.size:=by omega
  split
  ·rename_i hk;subst hk
   simp only[Act.put,Array.getD_eq_getD_getElem?,Array.getElem?_setIfInBounds]at ha0 ⊢
   simp only[show ¬(5=0) by omega,if_false]
   rw[ha0];exact .pt _ _
  ·split
   ·rename_i hk;subst hk
    simp only[Act.put,Array.getD_eq_getD_getElem?,Array.getElem?_setIfInBounds,if_true,hsz5,Option.getD_some]
    exact .tup _ _ rfl fun i x y hx hy=>by
     match i with
     | 0=>simp at hx hy;subst hx hy;exact hvv
     | 1=>simp at hx hy;subst hx hy;exact .bool _
     | k+2=>simp at hx
   ·exact .any _,gi⟩
 unfold yM at hx
 split at hx
 ·rename_i e1 h1 hx1
  rw[hi1]at hx1
  have R:=xV (fE (P:=prog) (B:=B) hf hy (lF++vM) r _ h _ H e1 h1 (fun env' H'=>∃ r',Sub r r'∧SR D Y r' e1 h1 env' H') rfl hsr hx1 (fun r' env' H' hs sr'=>⟨r',hs,sr'⟩))
  refine uT (r:=none) (B:=B) (N:=13) lF 2 aAn aEj F w H _ _ (by simpa [Act.put]using ha) hB st hre R ?_
  intro a3 F3 w3 env3 H3 s1 s2 s3 s4 s5 s6
  show rest56.wpSIn Fence.wide 0 prog Q a3 cs w3
  rw[aEb]
  have hB3:=hB.step st s3
  refine wpSIn_seq (wpSIn_of_wpIn rfl (iM (B:=B) (r:=none) (F:=F3) (H:=H3) (env:=env3) (N:=13) (draw:=false) hm aJH s1 hB3 s4 s5 s6 ?_))
  rintro a4 F4 w4 env4 H4 q1 q2 q3 q4 q5 ⟨r4,q6,q7⟩
  show (Code.cond (.tmp 8) (.region 2 ops56l false) .skip).wpSIn Fence.wide 0 prog Q a4 cs w4
  have hd4:a4.defers=[]:=by rw[q2,s2];exact hdf
  have E4:=s3.trans q3
  have h8:=q7.re i.is
  rw[hi3]at h8 hx
  split at hx
  ·rename_i h8t
   rw[h8t]at h8
   have hev:a4.eval (.tmp 8) = .bool true:=by
    have:=q5.rv 8
    rw[dL h8]at this
    show a4.tmps.getD 8 undef=_
    generalize a4.tmps.getD 8 undef=z at this
    cases this;rfl
   refine wpSIn_cond (t:=true) hev ?_
   simp only[Option.map_eq_some_iff]at hx
   obtain⟨⟨e5,h5⟩,hx5,rfl⟩:=hx
   rw[hi2]at hx5
   refine wpSIn_of_wpIn rfl (iM (B:=B) (r:=none) (F:=F4) (H:=H4) (env:=env4) (N:=13) (draw:=false) hm aHy q1 (hB3.step s4 q3) q4 q5
    (fE (P:=prog) (B:=B) hf hy qR r4 _ h1 _ H4 e5 h5 (fun env' H'=>∃ r',Sub r r'∧SR D Y r' e5 h5 env' H') rfl q7 hx5 (fun r' env' H' hs sr'=>⟨r',q6.trans hs,sr'⟩)) ?_)
   rintro a5 F5 w5 env5 H5 p1 p2 p3 p4 p5 ⟨r5,p6,p7⟩
   exact hQ a5 F5 w5 H5 r5 (by rw[p2];exact hd4) (E4.trans p3) p4 p6 p7.sh
  ·rename_i h8t
   rw[h8t]at h8
   simp only[oSI]at hx
   subst hx
   have hev:a4.eval (.tmp 8) = .bool false:=by
    have:=q5.rv 8
    rw[dL h8]at this
    show a4.tmps.getD 8 undef=_
    generalize a4.tmps.getD 8 undef=z at this
    cases this;rfl
   refine wpSIn_cond (t:=false) hev ?_
   exact wpSIn_of_wpIn rfl (wpIn_skip (hQ a4 F4 w4 H4 r4 hd4 E4 q4 q6 q7.sh))
  ·simp at hx
 ·simp at hx

theorem aBG (vv:Value):(Instr.typeAssert (.iface 110 vv) 20 110 true).run prog w = .ok (.tuple #[vv,.bool true]) w:=by
 obtain⟨fs,hfs⟩:=aAz
 simp[Instr.typeAssert,run_underlying hfs]
theorem aCE:(Instr.typeAssert .nilIface 20 110 true).run prog w = .ok (.tuple #[.agg #[.int .i64 0],.bool false]) w:=by
 obtain⟨fs,hfs⟩:=aAz
 obtain⟨i,hi,hz⟩:=aGD
 simp[Instr.typeAssert,run_underlying hfs,zeroValue,typeInfo,hi,hz]

theorem aJy {run:cF} {runY:cU} (hf:dK prog B D Y run) (hy:YS prog B D Y runY) (hm:prog.follows .mixedOrders=true) (hB:B.Up F w) (st:St F w H) (sh:SH D Y r h H) {c o b:Nat} (hrc:r c=some b)
 {i:aAv} (hi1:i.hops=lF++vM) (hi2:i.hlast=qR) (hi3:i.is=8) {v v':AV} {t:Bool} (hv:Rn D Y r v v') {h3:XH} (hx:yM i run runY (.pt c o) v t h=some h3) {u:FrameMode} {R:Ending→FrameMode→World→Prop} {cval:Value}
 (hu:(t=true∧u = .panicking (pnc cval)∧Rv F w (.ifc 110 v') cval)∨(t=false∧u = .returning∧v' = .agg [.int .i64 0]))
 (hR:∀ F' w' H' r' u',settle u' = .returning→Ext F w H F' w' H'→St F' w' H'→Sub r r'→SH D Y r' h3 H'→R (.returned (.tuple #[])) u' w') :
 CallsDIn Fence.wide 0 prog 56 #[.pointer (some ⟨b,o,none⟩)] u w R:=by
 refine callsDIn_of_wpSIn func56 aJN trivial fun c₀ cs hc0=>?_
 rw[aLQ]
 obtain⟨o0,g1,g2,g3,g4⟩:=aJl
 refine wpSIn_seq (wR g1 g3 (fun _ _=>trivial) (by simp[execOp,resolve,g4,invoke,builtin]) rfl ?_)
 have fin:∀ (x vv:Value) (cs':List Frame) (u':FrameMode),cs'={ c₀ with mode:=u' }::cs→settle u' = .returning→(Instr.typeAssert x 20 110 true).run prog w = .ok (.tuple #[vv,.bool t]) w→Rv F w v' vv →
  wpOpsIn Fence.wide 0 prog ops56 (fun e a w=>Exit.thenS (rest56.wpSIn Fence.wide 0 prog (bodyPostS prog f56 c₀ cs R)) (bodyPostS prog f56 c₀ cs R) e a cs' w) (List.range' 1 (ops56.size-1))
   (Act.put { tmps := #[.pointer (some ⟨b,o,none⟩)]++Array.replicate (13 - #[Value.pointer (some ⟨b,o,none⟩)].size) undef,defers:=[] } o0.dst x) w:=by
  intro x vv cs' u' hcs hset hta hvv
  rw[g2,aIZ]
  refine aIQ hf hy hm hB st sh hrc hi1 hi2 hi3 hv hx hta hvv (by simp[Act.put]) rfl (by simp[Act.put,Act.eval]) (by simp[Act.put]) (B.gi.up hB) ?_
  intro a' F' w' H' r' k1 k2 k3 k4 k5
  refine⟨k1,u',hcs,.tuple #[],?_,hR F' w' H' r' u' hset k2 k3 k4 k5⟩
  simp[results,aLE]
 rcases hu with ⟨rfl,rfl,hc⟩|⟨rfl,rfl,rfl⟩
 ·cases hc with
  | ifc _ _ vv hvv =>
  have hrec:recoverD (c₀::cs)=some (.iface 110 vv,{ c₀ with mode:=.panicking [{ v:=.iface 110 vv,recovered:=true }] }::cs):=by
   simp[recoverD,hc0,pnc]
  rw[hrec]
  exact fin _ vv _ _ rfl rfl (aBG vv) hvv
 ·have hrec:recoverD (c₀::cs)=none:=by simp[recoverD,hc0]
  rw[hrec]
  exact fin _ (.agg #[.int .i64 0]) _ .returning (by rw[←hc0]) rfl aCE (.agg _ _ rfl (fun i v hv=>by
   match i with
   | 0=>simp at hv;subst hv;rfl
   | k+1=>simp at hv) (fun i x y hx hy=>by
   match i with
   | 0=>simp at hx hy;subst hx hy;exact .int _ _
   | k+1=>simp at hx))

def b21:XCode:=(.seq (.reg [(0,false)] false [⟨0,(some 8),(.mv (.t 0)),none⟩,⟨0,(some 9),(.callf false (.c (.fn (.func 59) [] [])) [(.t 8)] []),none⟩,⟨0,(some 10),
 (.not (.t 9)),none⟩,⟨0,(some 11),(.callf false (.c (.fn (.func 58) [] [])) [(.t 10),(.c (.int .i64 9))] []),none⟩]) (.seq (.reg [(1,false)] false
 [⟨0,(some 12),(.mv (.t 1)),none⟩,⟨0,(some 13),(.callf false (.c (.fn (.func 60) [] [])) [(.t 12)] []),none⟩,⟨0,(some 5),(.alloc [(.str ⟨#[]⟩),
 .nilsl,.nilsl]),none⟩,⟨0,none,(.store 3 (.t 5) (.t 13) []),none⟩]) (.seq (.reg [(0,false),(5,true)] false [⟨0,(some 14),(.mv (.t 0)),none⟩,⟨0,
 (some 15),(.load true 3 (.t 5)),none⟩,⟨0,(some 16),(.callf false (.c (.fn (.func 61) [] [])) [(.t 14),(.t 15)] []),none⟩,⟨0,(some 6),(.mv (.t
 16)),none⟩]) (.seq (.seq (.reg [] false [⟨0,(some 17),(.mv (.t 6)),none⟩,⟨0,(some 18),(.eqn 2 false (.t 17) (.c .nilfn)),none⟩]) (.cond (.t 18)
 (.seq (.reg [(0,false),(5,true)] false [⟨0,(some 19),(.mv (.t 0)),none⟩,⟨0,(some 20),(.load true 3 (.t 5)),none⟩,⟨0,(some 21),(.callf false (.c
 (.fn (.func 62) [] [])) [(.t 19),(.t 20)] []),none⟩,⟨0,none,(.store 1 (.t 4) (.t 21) []),none⟩]) .ret) .skip)) (.seq (.reg [] false [⟨0,(some 22),
 (.mv (.t 0)),none⟩,⟨0,(some 23),(.nilck (.t 22)),none⟩,⟨0,(some 24),(.fld 6 (.t 23)),none⟩,⟨0,(some 25),(.load false 1 (.t 24)),none⟩,⟨0,
 (some 26),(.len false (.t 25)),none⟩,⟨0,(some 27),(.bin .lss (.t 26) (.c (.int .i64 300))),none⟩,⟨0,(some 28),(.callf false (.c (.fn (.func 58) []
 [])) [(.t 27),(.c (.int .i64 15))] []),none⟩]) (.seq (.reg [] false [⟨0,(some 29),(.mv (.t 6)),none⟩,⟨0,(some 30),(.callf false (.t 29) [] []),
 none⟩]) (.seq (.reg [(1,false)] false [⟨0,(some 31),(.mv (.t 0)),none⟩,⟨0,(some 32),(.mv (.t 0)),none⟩,⟨0,(some 33),(.nilck (.t 32)),none⟩,⟨0,
 (some 34),(.fld 6 (.t 33)),none⟩,⟨0,(some 35),(.load false 1 (.t 34)),none⟩,⟨0,(some 36),(.mv (.t 1)),none⟩,⟨0,(some 37),(.bslice 1 1 [(.str
 ⟨#[]⟩)] [(0,(1,(.t 36)))]),none⟩,⟨0,(some 38),(.app 1 16 (.t 35) (.t 37)),none⟩,⟨0,(some 39),(.nilck (.t 31)),none⟩,⟨0,(some 40),(.fld 6 (.t
 39)),none⟩,⟨0,none,(.store 1 (.t 40) (.t 38) []),none⟩]) (.seq (.reg [] false [⟨0,none,(.store 1 (.t 4) (.c (.str ⟨#[111,107]⟩)) []),none⟩])
 .ret))))))))
def saySay:aAv:=⟨41,[(4,some (false,1))],[⟨0,some 4,.alloc [.str ⟨#[]⟩],none⟩],4,7,b21,110,.agg [.int .i64 0],lF++vM,8,qR⟩
theorem yW:cH prog 41 code21=some b21.erase:=by kernel_rfl
theorem aLO:mD b21=true:=by kernel_rfl
theorem aLS:mR b21=true:=by kernel_rfl

theorem aHr {i:aAv} (sh:SH D Y r h H) {r1:Nat→Option Nat} {e1 env1:aC} {h1:XH} {H1:Hp} (ha:Agree h.length r r1) (sr:SR D Y r1 e1 h1 env1 H1) {v:AV} {h':XH} (hx:uE i h.length e1 h1=some (v,h')) :
 ∃ v1,jY i.res env1 H1=some v1∧∃ v' H'',Shift (upd anyE 0 v1) H1 (upd anyE 0 v') H''∧eN D Y r v h' v' H'':=by
 unfold uE at hx
 simp only[Option.map_eq_some_iff]at hx
 obtain⟨v0,hv0,hfin⟩:=hx
 obtain⟨v0',k1,k2⟩:=aCV sr hv0
 refine⟨v0',k1,?_⟩
 have sr2:SR D Y r1 (upd anyE 0 v0) h1 (upd anyE 0 v0') H1:=⟨sr.sh,fun j=>by
  simp only[upd]
  split
  ·exact k2
  ·exact .any _⟩
 obtain⟨env2,H2,s1,s2⟩:=lH (kL h1 2 (rW v0)) _ _ _ _ sr2
 have hz:=(s2.re 0).nz
 obtain⟨r2,m1,m2,m3⟩:=oE s2.sh hz (k:=h.length)
 refine⟨oS (env2 0),H2,s1.trans ?_,r2,fun b c hb=>m1 b c (sh.dom b c hb) (ha b c (sh.dom b c hb) hb),?_,?_⟩
 ·intro F w a st re
  refine⟨F,Ext.refl _ _ _,st,fun j=>?_,re.gi⟩
  simp only[upd]
  split
  ·rename_i hj;subst hj;exact(re.rv 0).nz
  ·exact .any _
 ·unfold kJ at hfin
  simp only[Bool.false_eq_true,if_false,Prod.mk.injEq]at hfin
  rw[←hfin.2];exact m2
 ·unfold kJ at hfin
  simp only[Bool.false_eq_true,if_false,Prod.mk.injEq]at hfin
  rw[←hfin.1];exact m3

theorem aJa {d21:XFn} (hD:D 21=some d21) (hN:d21.N=41) (hm:prog.follows .mixedOrders=true):aGB prog D saySay 21:=by
 intro run runY runP n hall hallP B Y hY r h H xs as' v h' sh hA hx
 obtain⟨hf,hy⟩:=hall B Y hY
 unfold aJb at hx
 split at hx
 ·rename_i hlen
  split at hx
  ·rename_i e1 h1 hx1
   split at hx
   ·rename_i c o he1
    split at hx
    ·rename_i hc
     have hA1:=hA.nz
     refine FnW.nz (FnW.shift ⟨fun vs w=>call21 vs w,fun F w vs hB st hAr=>?_⟩)
     have hsz:(vs++Array.replicate (f21.ntmps-vs.size) undef).size=41:=by
      have h1:=hAr.1
      have h2:=hA1.1
      rw[fX,List.length_map]at h2
      have:xs.length≤41:=hlen
      rw[aLR];simp;omega
     have hre:=tR (N:=41) (nt:=f21.ntmps-vs.size) hB hAr
     have RS0:=fE (P:=prog) (B:=B) hf hy saySay.pre r _ h _ H e1 h1 (fun env' H'=>∃ r',DL.Sub r r'∧SR D Y r' e1 h1 env' H') rfl ⟨sh,kO hA1⟩ hx1 (fun r' env' H' hs sr'=>⟨r',hs,sr'⟩)
     refine callsIn_of_wp_marks func21 aJO trivial (wpIn_seq (iM (B:=B) (r:=none) (N:=41) (draw:=false) hm aLJ hsz hB st hre RS0 ?_))
     rintro a1 F1 w1 env1 H1 p1 p2 p3 p4 p5 ⟨r1,p6,p7⟩
     show (Code.seq (.region 1 r21_1 false) code21).wpIn Fence.wide 0 prog _ a1 w1
     have hB1:=hB.step st p3
     have h4:=p7.re 4
     have he1':e1 4 = .pt c o:=he1
     rw[he1']at h4
     obtain⟨b,hrb,henv4⟩:∃ b,r1 c=some b∧env1 4 = .pt b o:=by
      generalize env1 4=z at h4
      cases h4 with
      | pt _ b _ hb=>exact⟨b,hb,rfl⟩
     refine wpIn_seq (wpIn_region ?_)
     rw[aNx,show List.range 2=[0,1] from rfl,wpOpsIn_cons]
     obtain⟨o0,g1,g2⟩:=aLU
     obtain⟨o1,k1,k2,k3,k4⟩:=aQv
     refine xM (r:=none) (B:=B) (N:=41) (K:=fun env' H'=>env'=aR env1 (some 7) (.fn (.func 56) [] [.pt b o])∧H'=H1) (fU g1 g2) rfl (fun k hk=>by simp at hk;omega) p1 hB1 p4 p5 ?_ ?_
     ·rw[aFC,jC rfl]
      simp only[aB,List.map_nil,List.map_cons,aJ,henv4,optW_some,eD]
      exact⟨by trivial,by trivial⟩
     rintro a2 F2 w2 env2 H2 s1 s2 s3 s4 s5 ⟨rfl,rfl⟩
     rw[wpOpsIn_cons]
     unfold wpOpIn
     simp only[k1]
     have hw:Region.wanted o1 (yielded r21_1 a2.tmps)=true:=by unfold Region.wanted;rw[k3]
     rw[if_pos hw]
     have h7:a2.eval (.tmp 7) = .func (.func 56) #[] #[.pointer (some ⟨b,o,none⟩)]:=by
      have:=s5.rv 7
      simp only[aR,upd,if_true]at this
      show a2.tmps.getD 7 undef=_
      generalize a2.tmps.getD 7 undef=z at this
      cases this with
      | fn _ _ _ fv cv hl1 hl2 q1 q2 =>
        have e1:fv = #[]:=by
         rcases fv with ⟨_|⟨a,l⟩⟩
         ·rfl
         ·simp at hl1
        have e2:cv = #[.pointer (some ⟨b,o,none⟩)]:=by
         rcases cv with ⟨_|⟨a,_|⟨a',l⟩⟩⟩
         ·simp at hl2
         ·have:=q2 0 _ a rfl rfl
          cases this;rfl
         ·simp at hl2
        rw[e1,e2]
     refine⟨fun _ _=>trivial,?_⟩
     have hsem:(o1.semAt Fence.wide.round a2.eval).run prog w2 = .ok (.defer { target:=.fn (.func 56) #[.pointer (some ⟨b,o,none⟩)],args := #[] }) w2:=by
      have:Fence.wide.round=none:=rfl
      rw[this,Oper.semAt_none]
      simp[execOp,resolve,k4,h7,Deferred.ofValue]
     rw[hsem,Oper.uponIn_defer,k2]
     have hdf:a2.defers=[]:=by rw[s2,p2]
     obtain⟨T,hT⟩:∃ T:List Deferred,T=[{ target:=.fn (.func 56) #[.pointer (some ⟨b,o,none⟩)],args := #[] }]:=⟨_,rfl⟩
     have hact:Act.put { a2 with defers:={ target:=.fn (.func 56) #[.pointer (some ⟨b,o,none⟩)],args := #[] }::a2.defers } none undef={ tmps:=a2.tmps,defers:=T }:=by
      rw[hdf,hT];rfl
     rw[hact]
     show code21.wpIn Fence.wide 0 prog _ { tmps:=a2.tmps,defers:=T } w2
     have hB2:=hB1.step p4 s3
     have E2:=p3.trans s3
     have sr2:SR D Y r1 (upd e1 7 .any) h1 (aR env1 (some 7) (.fn (.func 56) [] [.pt b o])) H2:=⟨p7.sh,fun j=>by
      simp only[upd,aR]
      split
      ·exact .any _
      ·exact p7.re j⟩
     have ag1:Agree h.length r r1:=p6.agree _
     have out:∀ (F':Nat→Prop) (w':World) (H':Hp) (env':aC) (tmps:Array Value) (ds:List Deferred) (r3:Nat→Option Nat) (e2:aC) (h2 h3:XH) (u:FrameMode) (v0 v0':AV) (t:Bool) (cval:Value),u ≠ .run→Ext F w H F' w' H'→St F' w' H'→RE F' w' env' { tmps:=tmps,defers:=[] } →
      Mk w2.heap.size T F' H' w' ds→Agree h1.length r1 r3→SR D Y r3 e2 h2 env' H'→Rn D Y r3 v0 v0'→yM saySay run runY (.pt c o) v0 t h2=some h3→uE saySay h.length e2 h3=some (v,h') →
      ((t=true∧u = .panicking (pnc cval)∧Rv F' w' (.ifc 110 v0') cval)∨(t=false∧u = .returning∧v0' = .agg [.int .i64 0])) →
      LeavesInM Fence.wide 0 prog f21 tmps (nR F w H fun v1 H1=>∃ v' H'',Shift (upd anyE 0 v1) H1 (upd anyE 0 v') H''∧eN D Y r v h' v' H'') ds u w':=by
      intro F' w' H' env' tmps ds r3 e2 h2 h3 u v0 v0' t cval hu he st' re' mk ag sr3 hv0 hh hret hcase
      obtain⟨ms,q1,q2,q3⟩:=mk.ex
      rw[q1]
      refine xA (env:=env') (S:=fun w'=>(t=true∧u = .panicking (pnc cval)∧Rv F' w' (.ifc 110 v0') cval)∨(t=false∧u = .returning∧v0' = .agg [.int .i64 0])) (fun w w' hu hs=>?_) hu E2.le (fun w'' hs'' he' st'' re''=>?_) ms w' hcase he st' re' q2 q3
      ·rcases hs with ⟨a1,a2,a3⟩|hs
       ·exact .inl ⟨a1,a2,a3.up hu⟩
       ·exact .inr hs
      rw[hT]
      refine⟨hu,.inr ⟨fun hd=>by simp[Fence.wide]at hd,_,_,56,#[.pointer (some ⟨b,o,none⟩)],rfl,?_,fun _ _=>trivial,?_⟩⟩
      ·have:=call56 #[Value.pointer (some ⟨b,o,none⟩)] w''
       first|exact this|simpa [invoke]using this
      ·refine aJy hf hy hm (hB.step st he') st'' sr3.sh (ag c b hc hrb) rfl rfl rfl hv0 hh hs'' ?_
       intro F4 w4 H4 r4 u' hset t2 t3 t4 t5
       show LeavesInM Fence.wide 0 prog f21 tmps _ [] (settle u') w4
       rw[hset]
       have re4:RE F4 w4 env' { tmps:=tmps,defers:=[] }:=re''.up (t2.up st'')
       have sr4:SR D Y r4 e2 h3 env' H4:=⟨t5,fun j=>(sr3.re j).mono t4⟩
       have ag4:Agree h.length r r4:=fun b1 c1 hb1 hr1=>t4 _ _ (ag b1 c1 (p7.sh.dom b1 c1 (p6 b1 c1 hr1)) (p6 b1 c1 hr1))
       obtain⟨v1,x1,x2⟩:=aHr sh ag4 sr4 hret
       obtain⟨cv,y1,y2⟩:=rX t3 re4 aLF x1
       exact⟨cv,y1,cv,v1,F4,H4,rfl,he'.trans t2,t3,y2,x2⟩
     split at hx
     ·simp at hx
     ·rename_i x e2 h2 hne hex
      simp only[Option.bind_eq_some_iff]at hx
      obtain⟨h3,hh,hret⟩:=hx
      have hWD:=fL hD hm hall h1.length n none none b21 B Y r1 _ h1 _ H2 x e2 h2 (fun x' env3 H3=>x'=x∧∃ r3,Agree h1.length r1 r3∧SR D Y r3 e2 h2 env3 H3) hY aLO (aA aLS) rfl sr2 hex (fun r' env' H' ha sr'=>⟨rfl,r',ha,sr'⟩)
      have hW:=hWD code21 (by rw[hN];exact yW) F2 w2 { tmps:=a2.tmps,defers:=T } w2.heap.size T hB2 (Nat.le_refl _) (by rw[hN];exact s1) s4 s5 Mk.nil
      refine wpIn_mono hW ?_
      rintro e a' w' ⟨x',env',F',H',z1,z2,z3,z4,z5,z6,rfl,r3,z7,z8⟩
      have fin:=fun(hu:True)=>out F' w' H' env' a'.tmps a'.defers r3 e2 h2 h3 .returning _ _ false undef (by simp) (E2.trans z3) z4 z5 z6 z7 z8 ((pE saySay.zero rfl)) hh hret (.inr ⟨rfl,rfl,rfl⟩)
      cases e with
      | normal=>exact fin trivial
      | ret=>exact fin trivial
      | exit id=>simp only at z1;subst z1;exact(hne id rfl).elim
      | goto l=>exact z1.elim
      | panic c=>exact z1.elim
      | outgrown=>exact z1.elim
     ·rename_i hex
      split at hx
      ·rename_i ty v0 e2 h2 hexP
       split at hx
       ·rename_i hty
        simp only[Option.bind_eq_some_iff]at hx
        obtain⟨h3,hh,hret⟩:=hx
        have hWD:=sL hD hm hall hallP h1.length n none none b21 B Y r1 _ h1 _ H2 (.ifc ty v0) e2 h2 (fun v' env3 H3=>∃ r3,Agree h1.length r1 r3∧SR D Y r3 e2 h2 env3 H3∧Rn D Y r3 (.ifc ty v0) v') hY aLO (aA aLS) rfl sr2 hexP (fun r' v' env' H' ha sr' hv'=>⟨r',ha,sr',hv'⟩)
        have hW:=hWD code21 (by rw[hN];exact yW) F2 w2 { tmps:=a2.tmps,defers:=T } w2.heap.size T hB2 (Nat.le_refl _) (by rw[hN];exact s1) s4 s5 Mk.nil
        refine wpIn_mono hW ?_
        rintro e a' w' ⟨cv,vv,env',F',H',rfl,z3,z4,z5,z9,z6,r3,z7,z8,Z9⟩
        have hty':ty=110:=hty
        subst hty'
        cases Z9 with
        | ifc _ _ v0' hv0' =>
        exact out F' w' H' env' a'.tmps a'.defers r3 e2 h2 h3 (.panicking (pnc cv)) v0 v0' true cv (by simp) (E2.trans z3) z4 z5 z6 z7 z8 hv0' hh hret (.inl ⟨rfl,rfl,z9⟩)
       ·simp at hx
      ·simp at hx
    ·simp at hx
   ·simp at hx
  ·simp at hx
 ·simp at hx
end
noncomputable def m58a:Array Oper:=match f58.body with
 | some (.seq (.region _ ops _) _)=>ops
 | _ => #[]
noncomputable def m58b:Array Oper:=match f58.body with
 | some (.seq _ (.cond _ (.region _ ops _) _))=>ops
 | _ => #[]
theorem aJM:f58.body=some (.seq (.region 0 m58a false) (.cond (.tmp 5) (.region 1 m58b false) .skip)):=rfl
def aJt:List DOper:=[⟨0,some 4,.mv (.t 0),none⟩,⟨0,some 5,.not (.t 4),none⟩]
def l58b:List DOper:=[⟨0,some 6,.mv (.t 1),none⟩,⟨0,some 7,.build [.int .i64 0] [(0,(1,.t 6))],none⟩,⟨0,some 8,.mkifc 110 (.t 7),none⟩]
theorem aQy:nJ prog 9 m58a false=some aJt:=by kernel_rfl
theorem aQx:((m58b.toList.take 3).mapM (sP prog m58b))=some l58b:=by kernel_rfl
theorem p58:∃ o,m58b[3]?=some o∧o.guard=none∧o.op = .panic (.tmp 8):=⟨_,rfl,rfl,rfl⟩
theorem s58:m58b.size=4:=rfl
theorem n58:f58.ntmps=9:=rfl

section
variable {D:Nat→Option XFn} {B:Base} {Y:Nat→Option YI} {r:Nat→Option Nat} {h:XH} {H:Hp}
def aDe:cF:=fun _ _ _=>none
def aAc:cU:=fun _ _ _=>none
theorem aAY:dK prog B D Y aDe:=fun _ _ _ _ _ _ _ _ _ _ hx=>by simp[aDe]at hx
theorem yF:YS prog B D Y aAc:=fun _ _ _ _ _ _ _ _ _ _ _ _ hx=>by simp[aAc]at hx

theorem aNr (k:IntKind) (n:Int):∃ e1,eF aDe aAc aJt (aP [.bool false,.int k n]) h=some (e1,h)∧e1 5 = .bool true∧e1 1 = .int k n:=⟨_,rfl,rfl,rfl⟩
theorem aNq {e:aC} {k:IntKind} {n:Int} (he:e 1 = .int k n):∃ e1,eF aDe aAc l58b e h=some (e1,h)∧e1 8 = .ifc 110 (.agg [.int k n]):=by
 refine⟨aR (aR (aR e (some 6) (.int k n)) (some 7) (.agg [.int k n])) (some 8) (.ifc 110 (.agg [.int k n])),?_,rfl⟩
 have h0:aJ e (.t 1) = .int k n:=he
 simp only[l58b,eF,gd,bR,aB,h0,Option.bind_some]
 rfl

theorem aPa (hm:prog.follows .mixedOrders=true) (k:IntKind) (n:Int) {as':List AV} (sh:SH D Y r h H) (hA:RnL D Y r [.bool false,.int k n] as'):FnP B prog 58 as' H (eN D Y r (.ifc 110 (.agg [.int k n])) h):=by
 have hl:as'.length=2:=by have:=hA.1;simpa using this.symm
 refine⟨fun vs w=>call58 vs w,fun F w vs hB st hAr=>?_⟩
 have hsz:(vs++Array.replicate (f58.ntmps-vs.size) undef).size=9:=by
  have h1:=hAr.1
  rw[n58];simp;omega
 have hre:=tR (N:=9) (nt:=f58.ntmps-vs.size) hB hAr
 obtain⟨e1,hx1,he5,he1⟩:=aNr (h:=h) k n
 have RS0:=fE (P:=prog) (B:=B) aAY yF aJt r _ h _ H e1 h (fun env' H'=>∃ r',DL.Sub r r'∧SR D Y r' e1 h env' H') rfl ⟨sh,kO hA⟩ hx1 (fun r' env' H' hs sr'=>⟨r',hs,sr'⟩)
 refine callsIn_of_wp_marks func58 aJM trivial (wpIn_seq (iM (B:=B) (r:=none) (N:=9) (draw:=false) hm aQy hsz hB st hre RS0 ?_))
 rintro a1 F1 w1 env1 H1 p1 p2 p3 p4 p5 ⟨r1,p6,p7⟩
 show (Code.cond (.tmp 5) (.region 1 m58b false) .skip).wpIn Fence.wide 0 prog _ a1 w1
 have hev:a1.eval (.tmp 5) = .bool true:=by
  have h5:=p7.re 5
  rw[he5]at h5
  have:=p5.rv 5
  rw[dL h5]at this
  show a1.tmps.getD 5 undef=_
  generalize a1.tmps.getD 5 undef=z at this
  cases this;rfl
 refine wpIn_cond (t:=true) hev (OpsW.region ?_)
 rw[s58,show List.range 4=List.range' 0 l58b.length++[3] from rfl]
 obtain⟨e2,hx2,he8⟩:=aNq (h:=h) he1
 have RS1:=fE (P:=prog) (B:=B) aAY yF l58b r1 _ h _ H1 e2 h (fun env' H'=>∃ r',DL.Sub r r'∧SR D Y r' e2 h env' H') rfl p7 hx2 (fun r' env' H' hs sr'=>⟨r',p6.trans hs,sr'⟩)
 refine iV (r:=none) (B:=B) (N:=9) l58b 0 (fun j d hj=>?_) (fun d hd=>?_) F1 w1 H1 env1 a1 p1 (hB.step st p3) p4 p5 RS1 ?_
 ·obtain⟨h1,h2⟩:=kA aQx
  obtain⟨o,h3,h4⟩:=h2 j d hj
  rw[Nat.zero_add]
  refine fU (o:=o) ?_ h4
  rw[List.getElem?_take]at h3
  split at h3
  ·rwa [Array.getElem?_toList]at h3
  ·cases h3
 ·simp only[l58b,List.mem_cons,List.not_mem_nil,or_false]at hd
  rcases hd with rfl|rfl|rfl<;>exact⟨by intro k hk;simp at hk<;>omega,rfl,.inr rfl⟩
 rintro a2 F2 w2 env2 H2 q1 q2 q3 q4 q5 ⟨r2,q6,q7⟩
 refine OpsW.of ?_
 obtain⟨o,g1,g2,g3⟩:=p58
 rw[wpOpsIn_cons]
 unfold wpOpIn
 simp only[g1]
 have hw:Region.wanted o (yielded m58b a2.tmps)=true:=by unfold Region.wanted;rw[g2]
 rw[if_pos hw]
 refine⟨fun _ _=>trivial,?_⟩
 have h8:=q7.re 8
 rw[he8]at h8
 have hrv:=q5.rv 8
 cases hz:env2 8<;>rw[hz]at h8<;>cases h8
 rename_i v8 h8
 rw[hz]at hrv
 obtain⟨cv,hcv⟩:∃ cv,a2.tmps.getD 8 undef=cv:=⟨_,rfl⟩
 rw[hcv]at hrv
 have hev8:a2.eval (.tmp 8)=cv:=hcv
 have hrv0:=hrv
 cases hrv with
 | ifc _ _ vv hvv =>
 have hsem:(o.semAt (FW none).round a2.eval).run prog w2 = .halt (.panic (.iface 110 vv)) w2:=by
  rw[Oper.semAt_eq _ _ _ (by rw[g3];simp)]
  simp[execOp,g3,hev8,Instr.panic,goPanic]
 rw[hsem,Oper.uponIn_panic]
 show LeavesInM Fence.wide 0 prog f58 a2.tmps _ a2.defers (.panicking _) w2
 have hd2:a2.defers=[]:=by rw[q2,p2]
 rw[hd2]
 exact⟨.iface 110 vv,_,F2,H2,rfl,p3.trans q3,q4,hrv0,r2,q6,q7.sh,.ifc _ _ _ h8⟩
end
end Go.Proofs.YtmapgnepfgnphaaGreatDoor
namespace Go.Proofs.YtmapgnepfgnphaaGreatDoor
open Go Go.DL Go.Proofs.Tryz

def sU (f:List AV→XH→Option (AV×XH)):XFn:=⟨10,[],false,false,.skip,none,some f⟩
def aLK (n:Nat):XFn:=⟨n,[],false,false,.skip,none,some fun _ _=>none⟩
def aI (K:Nat):Option XFn:=match K with
 | 37=>some (sU mN)
 | 47=>some (sU aAV)
 | 57=>some (sU uX)
 | 71=>some (sU aAU)
 | 72=>some (sU uW)
 | 74=>some (sU aCZ)
 | 80=>some (sU uV)
 | 83=>some (sU zZ)
 | 99=>some (sU aCb)
 | 115=>some (sU aAa)
 | 143=>some (sU mO)
 | 21=>some (aLK 41)
 | K=>mM K

theorem aId {D:Nat→Option XFn} {K:Nat}:jF D K (fun _ _=>none):=fun _ _ _ _ _ _ _ _ _ _ _ hx=>by cases hx
theorem XOk.over {D D':Nat→Option XFn} (ok:XOk prog D) (h:∀ K d,D' K=some d→(D K=some d∧d.prm=none)∨∃ n f,d=⟨n,[],false,false,.skip,none,some f⟩∧jF D' K f):XOk prog D' where
 mixed:=ok.mixed
 is K d hd hp:=by
  rcases h K d hd with ⟨h1,_⟩|⟨n,f,rfl,_⟩
  ·exact ok.is K d h1 hp
  ·cases hp
 prm K d f hd hp B Y _ r hh H xs ys v h' sh hr hx:=by
  rcases h K d hd with ⟨_,h2⟩|⟨n,f',rfl,h2⟩
  ·rw[h2]at hp;cases hp
  ·cases hp
   exact h2 B Y r hh H xs ys v h' sh hr hx
 ok K d hd:=by
  rcases h K d hd with ⟨h1,_⟩|⟨n,f,rfl,_⟩
  ·exact ok.ok K d h1
  ·rfl
 sites K d hd:=by
  rcases h K d hd with ⟨h1,_⟩|⟨n,f,rfl,_⟩
  ·exact ok.sites K d h1
  ·trivial

theorem aAT:XOk prog aI:=by
 refine XOk.over progX_ok fun K d hd=>?_
 unfold aI at hd
 split at hd
 ·cases hd;exact .inr ⟨_,_,rfl,aIm⟩
 ·cases hd;exact .inr ⟨_,_,rfl,aIl⟩
 ·cases hd;exact .inr ⟨_,_,rfl,aIk⟩
 ·cases hd;exact .inr ⟨_,_,rfl,aIj⟩
 ·cases hd;exact .inr ⟨_,_,rfl,aIi⟩
 ·cases hd;exact .inr ⟨_,_,rfl,aIh⟩
 ·cases hd;exact .inr ⟨_,_,rfl,aIg⟩
 ·cases hd;exact .inr ⟨_,_,rfl,aIf⟩
 ·cases hd;exact .inr ⟨_,_,rfl,aIe⟩
 ·cases hd;exact .inr ⟨_,_,rfl,aFA⟩
 ·cases hd;exact .inr ⟨_,_,rfl,aFz⟩
 ·cases hd;exact .inr ⟨_,_,rfl,aId⟩
 ·exact .inl ⟨hd,aJe hd⟩

def specZ:iC:=⟨fun K xs=>match K,xs with
 | 58,[.bool false,.int k e]=>some (.ifc 110 (.agg [.int k e]))
 | _,_=>none,fun K=>if K=21 then some saySay else none,fun _ _ _=>none⟩
theorem aAG {D:Nat→Option XFn}:aJT prog D specZ:=by
 intro K xs v hx B Y r h H ys sh hA
 unfold specZ at hx
 dsimp only at hx
 split at hx
 ·cases hx
  exact aPa progX_ok.mixed _ _ sh hA
 ·cases hx
theorem xJ {D:Nat→Option XFn} (hD:D 21=some (aLK 41)):∀ K i,specZ.say K=some i→aGB prog D i K:=by
 intro K i hi
 unfold specZ at hi
 dsimp only at hi
 split at hi
 ·rename_i hK
  cases hi
  subst hK
  exact aJa hD rfl progX_ok.mixed
 ·cases hi
end Go.Proofs.YtmapgnepfgnphaaGreatDoor
namespace Go.Proofs.YtmapgnepfgnphaaGreatDoor
open Go Go.DL
theorem rf0:aV aI specZ 400 rw0.K rw0.as rw0.h=some (rw0.v,rw0.h'):=by kernel_rfl
theorem rf1:aV aI specZ 400 rw1.K rw1.as rw1.h=some (rw1.v,rw1.h'):=by kernel_rfl
theorem rf2:aV aI specZ 400 rw2.K rw2.as rw2.h=some (rw2.v,rw2.h'):=by kernel_rfl
theorem rf3:aV aI specZ 400 rw3.K rw3.as rw3.h=some (rw3.v,rw3.h'):=by kernel_rfl
theorem rf6:aV aI specZ 400 rw6.K rw6.as rw6.h=some (rw6.v,rw6.h'):=by kernel_rfl
theorem rf7:aV aI specZ 400 rw7.K rw7.as rw7.h=some (rw7.v,rw7.h'):=by kernel_rfl
theorem rf8:aV aI specZ 400 rw8.K rw8.as rw8.h=some (rw8.v,rw8.h'):=by kernel_rfl
theorem rf9:aV aI specZ 400 rw9.K rw9.as rw9.h=some (rw9.v,rw9.h'):=by kernel_rfl
theorem aOW:aV aI specZ 400 rw10.K rw10.as rw10.h=some (rw10.v,rw10.h'):=by kernel_rfl
theorem aOU:aV aI specZ 400 rw12.K rw12.as rw12.h=some (rw12.v,rw12.h'):=by kernel_rfl
theorem aOT:aV aI specZ 400 rw13.K rw13.as rw13.h=some (rw13.v,rw13.h'):=by kernel_rfl
theorem aOR:aV aI specZ 400 rw15.K rw15.as rw15.h=some (rw15.v,rw15.h'):=by kernel_rfl
theorem aOQ:aV aI specZ 400 rw16.K rw16.as rw16.h=some (rw16.v,rw16.h'):=by kernel_rfl
theorem aOP:aV aI specZ 400 rw17.K rw17.as rw17.h=some (rw17.v,rw17.h'):=by kernel_rfl
theorem aOO:aV aI specZ 400 rw18.K rw18.as rw18.h=some (rw18.v,rw18.h'):=by kernel_rfl
theorem aON:aV aI specZ 400 rw19.K rw19.as rw19.h=some (rw19.v,rw19.h'):=by kernel_rfl
theorem aOM:aV aI specZ 400 rw20.K rw20.as rw20.h=some (rw20.v,rw20.h'):=by kernel_rfl
theorem aOL:aV aI specZ 400 rw21.K rw21.as rw21.h=some (rw21.v,rw21.h'):=by kernel_rfl
theorem aOK:aV aI specZ 400 rw22.K rw22.as rw22.h=some (rw22.v,rw22.h'):=by kernel_rfl
theorem aOJ:aV aI specZ 400 rw23.K rw23.as rw23.h=some (rw23.v,rw23.h'):=by kernel_rfl
theorem aOI:aV aI specZ 400 rw24.K rw24.as rw24.h=some (rw24.v,rw24.h'):=by kernel_rfl
theorem aOH:aV aI specZ 400 rw25.K rw25.as rw25.h=some (rw25.v,rw25.h'):=by kernel_rfl
theorem aOG:aV aI specZ 400 rw26.K rw26.as rw26.h=some (rw26.v,rw26.h'):=by kernel_rfl
theorem aOF:aV aI specZ 400 rw27.K rw27.as rw27.h=some (rw27.v,rw27.h'):=by kernel_rfl
theorem aOE:aV aI specZ 400 rw28.K rw28.as rw28.h=some (rw28.v,rw28.h'):=by kernel_rfl
theorem aOD:aV aI specZ 400 rw29.K rw29.as rw29.h=some (rw29.v,rw29.h'):=by kernel_rfl
theorem aOC:aV aI specZ 400 rw30.K rw30.as rw30.h=some (rw30.v,rw30.h'):=by kernel_rfl
theorem aOB:aV aI specZ 400 rw31.K rw31.as rw31.h=some (rw31.v,rw31.h'):=by kernel_rfl
theorem aOA:aV aI specZ 400 rw32.K rw32.as rw32.h=some (rw32.v,rw32.h'):=by kernel_rfl
theorem aOz:aV aI specZ 400 rw33.K rw33.as rw33.h=some (rw33.v,rw33.h'):=by kernel_rfl
theorem aOy:aV aI specZ 400 rw34.K rw34.as rw34.h=some (rw34.v,rw34.h'):=by kernel_rfl
theorem aOx:aV aI specZ 400 rw35.K rw35.as rw35.h=some (rw35.v,rw35.h'):=by kernel_rfl
theorem aOw:aV aI specZ 400 rw36.K rw36.as rw36.h=some (rw36.v,rw36.h'):=by kernel_rfl
theorem aOv:aV aI specZ 400 rw37.K rw37.as rw37.h=some (rw37.v,rw37.h'):=by kernel_rfl
theorem aOu:aV aI specZ 400 rw38.K rw38.as rw38.h=some (rw38.v,rw38.h'):=by kernel_rfl
theorem aOt:aV aI specZ 400 rw39.K rw39.as rw39.h=some (rw39.v,rw39.h'):=by kernel_rfl
theorem aOs:aV aI specZ 400 rw40.K rw40.as rw40.h=some (rw40.v,rw40.h'):=by kernel_rfl
theorem aOr:aV aI specZ 400 rw41.K rw41.as rw41.h=some (rw41.v,rw41.h'):=by kernel_rfl
theorem aOq:aV aI specZ 400 rw42.K rw42.as rw42.h=some (rw42.v,rw42.h'):=by kernel_rfl
theorem aOp:aV aI specZ 400 rw43.K rw43.as rw43.h=some (rw43.v,rw43.h'):=by kernel_rfl
theorem aOo:aV aI specZ 400 rw44.K rw44.as rw44.h=some (rw44.v,rw44.h'):=by kernel_rfl
theorem aOn:aV aI specZ 400 rw45.K rw45.as rw45.h=some (rw45.v,rw45.h'):=by kernel_rfl
theorem aOm:aV aI specZ 400 rw46.K rw46.as rw46.h=some (rw46.v,rw46.h'):=by kernel_rfl
theorem aOl:aV aI specZ 400 rw47.K rw47.as rw47.h=some (rw47.v,rw47.h'):=by kernel_rfl
theorem aOj:aV aI specZ 400 rw49.K rw49.as rw49.h=some (rw49.v,rw49.h'):=by kernel_rfl
theorem aOi:aV aI specZ 400 rw50.K rw50.as rw50.h=some (rw50.v,rw50.h'):=by kernel_rfl
theorem aOh:aV aI specZ 400 rw51.K rw51.as rw51.h=some (rw51.v,rw51.h'):=by kernel_rfl
theorem aOg:aV aI specZ 400 rw52.K rw52.as rw52.h=some (rw52.v,rw52.h'):=by kernel_rfl
theorem aOf:aV aI specZ 400 rw53.K rw53.as rw53.h=some (rw53.v,rw53.h'):=by kernel_rfl
theorem aOe:aV aI specZ 400 rw54.K rw54.as rw54.h=some (rw54.v,rw54.h'):=by kernel_rfl
theorem aOd:aV aI specZ 400 rw55.K rw55.as rw55.h=some (rw55.v,rw55.h'):=by kernel_rfl
theorem aOb:aV aI specZ 400 rw57.K rw57.as rw57.h=some (rw57.v,rw57.h'):=by kernel_rfl
theorem aOa:aV aI specZ 400 rw58.K rw58.as rw58.h=some (rw58.v,rw58.h'):=by kernel_rfl
theorem aNZ:aV aI specZ 400 rw59.K rw59.as rw59.h=some (rw59.v,rw59.h'):=by kernel_rfl
theorem aNY:aV aI specZ 400 rw60.K rw60.as rw60.h=some (rw60.v,rw60.h'):=by kernel_rfl
theorem aNX:aV aI specZ 400 rw61.K rw61.as rw61.h=some (rw61.v,rw61.h'):=by kernel_rfl
theorem aNW:aV aI specZ 400 rw62.K rw62.as rw62.h=some (rw62.v,rw62.h'):=by kernel_rfl
theorem aNV:aV aI specZ 400 rw63.K rw63.as rw63.h=some (rw63.v,rw63.h'):=by kernel_rfl
theorem aNS:aV aI specZ 400 rw66.K rw66.as rw66.h=some (rw66.v,rw66.h'):=by kernel_rfl
theorem aNR:aV aI specZ 400 rw68.K rw68.as rw68.h=some (rw68.v,rw68.h'):=by kernel_rfl
theorem aNQ:aV aI specZ 400 rw69.K rw69.as rw69.h=some (rw69.v,rw69.h'):=by kernel_rfl
theorem aNP:aV aI specZ 400 rw70.K rw70.as rw70.h=some (rw70.v,rw70.h'):=by kernel_rfl
theorem aNO:aV aI specZ 400 rw71.K rw71.as rw71.h=some (rw71.v,rw71.h'):=by kernel_rfl
theorem aNN:aV aI specZ 400 rw72.K rw72.as rw72.h=some (rw72.v,rw72.h'):=by kernel_rfl
theorem aNM:aV aI specZ 400 rw73.K rw73.as rw73.h=some (rw73.v,rw73.h'):=by kernel_rfl
theorem aNL:aV aI specZ 400 rw74.K rw74.as rw74.h=some (rw74.v,rw74.h'):=by kernel_rfl
theorem aNJ:aV aI specZ 400 rw76.K rw76.as rw76.h=some (rw76.v,rw76.h'):=by kernel_rfl
theorem aNI:aV aI specZ 400 rw77.K rw77.as rw77.h=some (rw77.v,rw77.h'):=by kernel_rfl
theorem aNH:aV aI specZ 400 rw78.K rw78.as rw78.h=some (rw78.v,rw78.h'):=by kernel_rfl
theorem aNG:aV aI specZ 400 rw79.K rw79.as rw79.h=some (rw79.v,rw79.h'):=by kernel_rfl
theorem aNF:aV aI specZ 400 rw80.K rw80.as rw80.h=some (rw80.v,rw80.h'):=by kernel_rfl
theorem aNE:aV aI specZ 400 rw81.K rw81.as rw81.h=some (rw81.v,rw81.h'):=by kernel_rfl
theorem aND:aV aI specZ 400 rw82.K rw82.as rw82.h=some (rw82.v,rw82.h'):=by kernel_rfl
theorem aNA:aV aI specZ 400 rw85.K rw85.as rw85.h=some (rw85.v,rw85.h'):=by kernel_rfl
def aAC:List cW:=[rw0,rw1,rw2,rw3,rw6,rw7,rw8,rw9,rw10,rw12,rw13,rw15,rw16,rw17,rw18,rw19,rw20,rw21,rw22,rw23,rw24,rw25,rw26,rw27,rw28,rw29,rw30,rw31,rw32,rw33,rw34,rw35,rw36,rw37,rw38,rw39,rw40,rw41,rw42,rw43,rw44,rw45,rw46,rw47,rw49,rw50,rw51,rw52,rw53,rw54,rw55,rw57,rw58,rw59,rw60,rw61,rw62,rw63,rw66,rw68,rw69,rw70,rw71,rw72,rw73,rw74,rw76,rw77,rw78,rw79,rw80,rw81,rw82,rw85]
theorem aGK:∀ q∈aAC,∃ n,aV aI specZ n q.K q.as q.h=some (q.v,q.h'):=by
 intro q hq
 simp only[aAC,List.mem_cons,List.not_mem_nil,or_false]at hq
 rcases hq with rfl|rfl|rfl|rfl|rfl|rfl|rfl|rfl|rfl|rfl|rfl|rfl|rfl|rfl|rfl|rfl|rfl|rfl|rfl|rfl|rfl|rfl|rfl|rfl|rfl|rfl|rfl|rfl|rfl|rfl|rfl|rfl|rfl|rfl|rfl|rfl|rfl|rfl|rfl|rfl|rfl|rfl|rfl|rfl|rfl|rfl|rfl|rfl|rfl|rfl|rfl|rfl|rfl|rfl|rfl|rfl|rfl|rfl|rfl|rfl|rfl|rfl|rfl|rfl|rfl|rfl|rfl|rfl|rfl|rfl|rfl|rfl|rfl|rfl
 ·exact⟨400,rf0⟩
 ·exact⟨400,rf1⟩
 ·exact⟨400,rf2⟩
 ·exact⟨400,rf3⟩
 ·exact⟨400,rf6⟩
 ·exact⟨400,rf7⟩
 ·exact⟨400,rf8⟩
 ·exact⟨400,rf9⟩
 ·exact⟨400,aOW⟩
 ·exact⟨400,aOU⟩
 ·exact⟨400,aOT⟩
 ·exact⟨400,aOR⟩
 ·exact⟨400,aOQ⟩
 ·exact⟨400,aOP⟩
 ·exact⟨400,aOO⟩
 ·exact⟨400,aON⟩
 ·exact⟨400,aOM⟩
 ·exact⟨400,aOL⟩
 ·exact⟨400,aOK⟩
 ·exact⟨400,aOJ⟩
 ·exact⟨400,aOI⟩
 ·exact⟨400,aOH⟩
 ·exact⟨400,aOG⟩
 ·exact⟨400,aOF⟩
 ·exact⟨400,aOE⟩
 ·exact⟨400,aOD⟩
 ·exact⟨400,aOC⟩
 ·exact⟨400,aOB⟩
 ·exact⟨400,aOA⟩
 ·exact⟨400,aOz⟩
 ·exact⟨400,aOy⟩
 ·exact⟨400,aOx⟩
 ·exact⟨400,aOw⟩
 ·exact⟨400,aOv⟩
 ·exact⟨400,aOu⟩
 ·exact⟨400,aOt⟩
 ·exact⟨400,aOs⟩
 ·exact⟨400,aOr⟩
 ·exact⟨400,aOq⟩
 ·exact⟨400,aOp⟩
 ·exact⟨400,aOo⟩
 ·exact⟨400,aOn⟩
 ·exact⟨400,aOm⟩
 ·exact⟨400,aOl⟩
 ·exact⟨400,aOj⟩
 ·exact⟨400,aOi⟩
 ·exact⟨400,aOh⟩
 ·exact⟨400,aOg⟩
 ·exact⟨400,aOf⟩
 ·exact⟨400,aOe⟩
 ·exact⟨400,aOd⟩
 ·exact⟨400,aOb⟩
 ·exact⟨400,aOa⟩
 ·exact⟨400,aNZ⟩
 ·exact⟨400,aNY⟩
 ·exact⟨400,aNX⟩
 ·exact⟨400,aNW⟩
 ·exact⟨400,aNV⟩
 ·exact⟨400,aNS⟩
 ·exact⟨400,aNR⟩
 ·exact⟨400,aNQ⟩
 ·exact⟨400,aNP⟩
 ·exact⟨400,aNO⟩
 ·exact⟨400,aNN⟩
 ·exact⟨400,aNM⟩
 ·exact⟨400,aNL⟩
 ·exact⟨400,aNJ⟩
 ·exact⟨400,aNI⟩
 ·exact⟨400,aNH⟩
 ·exact⟨400,aNG⟩
 ·exact⟨400,aNF⟩
 ·exact⟨400,aNE⟩
 ·exact⟨400,aND⟩
 ·exact⟨400,aNA⟩
def rV:iC:={ specZ with orc:=wY aAC }
theorem rf4:aV aI rV 400 rw4.K rw4.as rw4.h=some (rw4.v,rw4.h'):=by kernel_rfl
theorem aOV:aV aI rV 400 rw11.K rw11.as rw11.h=some (rw11.v,rw11.h'):=by kernel_rfl
theorem aOS:aV aI rV 400 rw14.K rw14.as rw14.h=some (rw14.v,rw14.h'):=by kernel_rfl
theorem aOc:aV aI rV 400 rw56.K rw56.as rw56.h=some (rw56.v,rw56.h'):=by kernel_rfl
theorem aNU:aV aI rV 400 rw64.K rw64.as rw64.h=some (rw64.v,rw64.h'):=by kernel_rfl
theorem aNK:aV aI rV 400 rw75.K rw75.as rw75.h=some (rw75.v,rw75.h'):=by kernel_rfl
theorem aNC:aV aI rV 400 rw83.K rw83.as rw83.h=some (rw83.v,rw83.h'):=by kernel_rfl
def aDO:List cW:=[rw4,rw11,rw14,rw56,rw64,rw75,rw83]
theorem aGJ:∀ q∈aDO,∃ n,aV aI rV n q.K q.as q.h=some (q.v,q.h'):=by
 intro q hq
 simp only[aDO,List.mem_cons,List.not_mem_nil,or_false]at hq
 rcases hq with rfl|rfl|rfl|rfl|rfl|rfl|rfl
 ·exact⟨400,rf4⟩
 ·exact⟨400,aOV⟩
 ·exact⟨400,aOS⟩
 ·exact⟨400,aOc⟩
 ·exact⟨400,aNU⟩
 ·exact⟨400,aNK⟩
 ·exact⟨400,aNC⟩
def xK:iC:={ specZ with orc:=wY (aDO++aAC) }
theorem rf5:aV aI xK 400 rw5.K rw5.as rw5.h=some (rw5.v,rw5.h'):=by kernel_rfl
theorem aOk:aV aI xK 400 rw48.K rw48.as rw48.h=some (rw48.v,rw48.h'):=by kernel_rfl
theorem aNT:aV aI xK 400 rw65.K rw65.as rw65.h=some (rw65.v,rw65.h'):=by kernel_rfl
theorem aNB:aV aI xK 400 rw84.K rw84.as rw84.h=some (rw84.v,rw84.h'):=by kernel_rfl
theorem aNz:aV aI xK 400 rw86.K rw86.as rw86.h=some (rw86.v,rw86.h'):=by kernel_rfl
def aGI:List cW:=[rw5,rw48,rw65,rw84,rw86]
theorem aGH:∀ q∈aGI,∃ n,aV aI xK n q.K q.as q.h=some (q.v,q.h'):=by
 intro q hq
 simp only[aGI,List.mem_cons,List.not_mem_nil,or_false]at hq
 rcases hq with rfl|rfl|rfl|rfl|rfl
 ·exact⟨400,rf5⟩
 ·exact⟨400,aOk⟩
 ·exact⟨400,aNT⟩
 ·exact⟨400,aNB⟩
 ·exact⟨400,aNz⟩
def aLu:iC:={ specZ with orc:=wY (aGI++(aDO++aAC)) }
end Go.Proofs.YtmapgnepfgnphaaGreatDoor
namespace Go.Proofs.YtmapgnepfgnphaaGreatDoor
open Go Go.DL Go.Proofs.Tryz

def wO (q:cW):Prop:=∀ (B:Base) (Y:Nat→Option YI),YOk prog B aI Y→∀ (r:Nat→Option Nat) (H:Hp) (ys:List AV),SH aI Y r q.h H→RnL aI Y r q.as ys→FnW B prog q.K ys H (eN aI Y r q.v q.h')
theorem aEe {S:iC} {T:List cW} (h:∀ q∈T,wO q) (hS:S.orc=wY T):aIw prog aI S:=by
 intro K xs hh q hq B Y hY r H ys sh hA
 rw[hS]at hq
 obtain⟨u,hu,rfl,rfl,rfl,rfl⟩:=aAW hq
 exact h u hu B Y hY r H ys sh hA
def aGA (S:iC):Prop:=∀ (n:Nat) (B:Base) (Y:Nat→Option YI),YOk prog B aI Y→dK prog B aI Y (aV aI S n)
theorem qE {S:iC} (hz:aGA S) {q:cW} (h:∃ n,aV aI S n q.K q.as q.h=some (q.v,q.h')):wO q:=by
 obtain⟨n,hn⟩:=h
 exact fun B Y hY r H ys sh hA=>hz n B Y hY r q.h H q.K q.as ys q.v q.h' sh hA hn
theorem uD {T:List cW} (h:∀ q∈T,wO q):aGA { specZ with orc:=wY T }:=fun n B Y hY =>
 ((uJ (S:={ specZ with orc:=wY T }) aAT (aAG (D:=aI)) (xJ (D:=aI) rfl) (aEe h rfl) n).1 B Y hY).1
theorem aGQ:aGA specZ:=fun n B Y hY =>
 ((uJ (S:=specZ) aAT (aAG (D:=aI)) (xJ (D:=aI) rfl) (fun K xs hh q hq=>by cases hq) n).1 B Y hY).1
theorem aIc:∀ q∈aAC,wO q:=fun q hq=>qE aGQ (aGK q hq)
theorem aIb:∀ q∈aDO++aAC,wO q:=fun q hq=>(List.mem_append.1 hq).elim (fun hq=>qE (uD aIc) (aGJ q hq)) (aIc q)
theorem aLD:∀ q∈aGI++(aDO++aAC),wO q:=fun q hq=>(List.mem_append.1 hq).elim (fun hq=>qE (uD aIb) (aGH q hq)) (aIb q)
theorem aDM:aV aI aLu 400 13 [] []=some (.bool true,[]):=by kernel_rfl
theorem aEL:wO ⟨13,[],[],.bool true,[]⟩:=qE (uD aLD) ⟨400,aDM⟩
def zY:List AV→XH→Option (AV×XH):=fun xs h=>match xs with
 | []=>some (.bool true,h)
 | _=>none
theorem aLI {D:Nat→Option XFn}:jF D 13 zY:=by
 intro B Y r h H xs ys v h' sh hr hx
 unfold zY at hx
 split at hx
 ·cases hx
  rw[hr.nil_inv]
  have h0:=aEL B (fun _=>none) (fun l i h=>by simp at h) (fun _=>none) noH [] SH.none (RnL.self fun a ha=>by cases ha)
  have h1:CallV B prog (.fn (.func 13) [] []) [] (fun c=>if (fun _:Nat=>False) c then H c else none) (eN aI (fun _=>none) (fun _=>none) (.bool true) []):=by
   have e:(fun c=>if (fun _:Nat=>False) c then H c else none)=noH:=by funext c;exact if_neg (fun h=>h)
   rw[e];exact h0
  refine CallV.mono (CallV.frameS (H:=H) (fun _=>False) h1) ?_
  rintro v' H'' ⟨H',⟨r',k1,k2,k3⟩,e1,e2⟩
  obtain⟨rfl,_⟩:=k3.same (Gd.bool true).gr
  refine⟨r,DL.Sub.refl r,⟨sh.dom,sh.inj,fun b x hb=>?_⟩,(Gd.bool true).rn⟩
  obtain⟨c,y,a1,a2,a3⟩:=sh.blk b x hb
  exact⟨c,y,a1,(e2 c (fun h=>h) y a2).1,a3⟩
 ·cases hx
def aH (K:Nat):Option XFn:=match K with
 | 13=>some (sU zY)
 | K=>aI K
theorem aFy:XOk prog aH:=by
 refine XOk.over progX_ok fun K d hd=>?_
 unfold aH at hd
 split at hd
 ·cases hd;exact .inr ⟨_,_,rfl,aLI⟩
 ·unfold aI at hd
  split at hd
  ·cases hd;exact .inr ⟨_,_,rfl,aIm⟩
  ·cases hd;exact .inr ⟨_,_,rfl,aIl⟩
  ·cases hd;exact .inr ⟨_,_,rfl,aIk⟩
  ·cases hd;exact .inr ⟨_,_,rfl,aIj⟩
  ·cases hd;exact .inr ⟨_,_,rfl,aIi⟩
  ·cases hd;exact .inr ⟨_,_,rfl,aIh⟩
  ·cases hd;exact .inr ⟨_,_,rfl,aIg⟩
  ·cases hd;exact .inr ⟨_,_,rfl,aIf⟩
  ·cases hd;exact .inr ⟨_,_,rfl,aIe⟩
  ·cases hd;exact .inr ⟨_,_,rfl,aFA⟩
  ·cases hd;exact .inr ⟨_,_,rfl,aFz⟩
  ·cases hd;exact .inr ⟨_,_,rfl,aId⟩
  ·exact .inl ⟨hd,aJe hd⟩
end Go.Proofs.YtmapgnepfgnphaaGreatDoor
namespace Go.Proofs.YtmapgnepfgnphaaGreatDoor
open Go Go.DL

def dY (x:Nat):Nat:=(x+224)%256
def bO (s:List Nat):List Nat:=s.take 40++List.replicate (40-s.length) 32
def sX:Nat→List Nat→Nat
 | _,[]=>0
 | i,x::r=>(i+1)*dY x+sX (i+1) r
def sR (row:Nat) (f:List Nat):Nat:=(row+sX 0 f)%9973
def nH (c:Nat):List Nat:=[48+c/1000,48+c/100%10,48+c/10%10,48+c%10]
def iU (row:Nat) (f:List Nat):List Nat:=nH (sR row f)++(f++[10])
def bU (times:Nat):List Nat→List Nat→List Nat
 | a::f,b::o=>(32+(dY a+times*dY b)%95)::bU times f o
 | _,_=>[]
def bN (s:ByteArray):List Nat:=s.data.toList.map UInt8.toNat
def fP (l:List Nat):ByteArray:=⟨⟨l.map UInt8.ofNat⟩⟩
def nM (l:List Nat):AV:=.agg (l.map fun(n:Nat)=>.int .u8 (n:Int))
end Go.Proofs.YtmapgnepfgnphaaGreatDoor
namespace Go.Proofs.YtmapgnepfgnphaaGreatDoor
open Go Go.DL
set_option maxRecDepth 100000
set_option maxHeartbeats 4000000
abbrev U (n:Nat):AV:=.int .u8 (n:Int)
theorem tE (p:Prop):p=True∨p=False:=by
 by_cases h:p
 ·exact .inl (eq_true h)
 ·exact .inr (eq_false h)
theorem eC {α:Type} {l:List α} {i:Nat} (h:i<l.length):∃ x,l[i]?=some x:=⟨_,List.getElem?_eq_getElem h⟩
theorem eS {n i:Nat} (h:i<n) (hn:n≤9223372036854775807):IntKind.i64.wrap ((i:Int)+1)=(i:Int)+1:=aG (by omega) (by omega)
theorem p57 {xs:List AV} {h:XH}:runW aH 57 xs h=uX xs h:=fW rfl rfl xs h
theorem aPb {xs:List AV} {h:XH}:runW aH 143 xs h=mO xs h:=fW rfl rfl xs h
theorem q44 {vs:List AV} {h:XH} (hl:vs.length≤15):runW aH 44 vs h=cR none x44.res x44.ownR h.length (execW aH 44 h.length none x44.body (aP (if x44.ownA then vs else fY vs)) h):=bG rfl hl h rfl
theorem aOY {vs:List AV} {h:XH} (hl:vs.length≤33):runW aH 119 vs h=cR none x119.res x119.ownR h.length (execW aH 119 h.length none x119.body (aP (if x119.ownA then vs else fY vs)) h):=bG rfl hl h rfl

def bE (l:List Nat):List AV:=l.map fun(n:Nat)=>.int .u8 (n:Int)
theorem bI (l:List Nat):nM l = .agg (bE l):=rfl
theorem aM (l:List Nat):(bE l).length=l.length:=by simp[bE]
theorem aEP {l:List Nat} {i x:Nat} (h:l[i]?=some x):(bE l)[i]?=some (U x):=by simp[bE,h]
theorem bD (l:List Nat):iR (bE l)=true:=dH fun v hv=>by
 obtain⟨n,_,rfl⟩:=List.mem_map.1 hv;rfl
theorem bX (l:List Nat):slL (bE l)=[]:=by
 induction l with
 | nil=>rfl
 | cons a l ih=>show rW _++slL (bE l)=[];rw[ih];rfl
theorem bT (l:List Nat):qM (bE l)=[]:=by
 induction l with
 | nil=>rfl
 | cons a l ih=>show sD _++qM (bE l)=[];rw[ih];rfl
theorem bV (s:Nat→Option Nat) (l:List Nat):jX s (bE l)=bE l:=by
 induction l with
 | nil=>rfl
 | cons a l ih=>show rnA s _::jX s (bE l)=_;rw[ih];rfl
theorem bY (l:List Nat):fY (bE l)=bE l:=by
 induction l with
 | nil=>rfl
 | cons a l ih=>show oS _::fY (bE l)=_;rw[ih];rfl
theorem aEO {l:List Nat} {i x:Nat} (h:i<l.length):bK (bE l) i [.int .u8 (x:Int)]=bE (l.set i x):=by
 unfold bK bE
 rw[List.map_set,List.set_eq_take_append_cons_drop,if_pos (by simpa using h)]
 simp
theorem fV {a b:List Nat} (h:a.length=b.length):bK (bE a) 0 (bE b)=bE b:=by
 unfold bK
 rw[List.take_zero,List.nil_append,List.drop_eq_nil_of_le (by rw[aM,aM];omega),List.append_nil]
theorem eA {l:List Nat} (h:l.length=40):List.take 40 (bE l)=bE l:=List.take_of_length_le (by rw[aM];omega)
theorem fN {l:List Nat} (h:l.length=40):List.take 40 (List.drop 0 (bE l))=bE l:=by rw[List.drop_zero];exact eA h

def nf (i:Nat):List Nat:=List.replicate i 32++List.replicate (40-i) 0
theorem cS {i:Nat} (h:i≤40):(nf i).length=40:=by simp[nf];omega
theorem aJo {i:Nat} (h:i<40):bK (bE (nf i)) i [.int .u8 32]=bE (nf (i+1)):=by
 have h1:=aEO (l:=nf i) (i:=i) (x:=32) (by rw[cS (by omega)];exact h)
 have h2:(nf i).set i 32=nf (i+1):=by
  unfold nf
  obtain⟨k,hk⟩:∃ k,40-i=k+1:=⟨39-i,by omega⟩
  have hk':40-(i+1)=k:=by omega
  rw[hk,hk',List.replicate_succ,List.replicate_succ',List.set_append_right _ _ (by simp)]
  simp
 rw[←h2];exact h1
theorem eK (l:List Nat):(bO l).length=40:=by simp[bO];omega
theorem aQw (s:ByteArray):bK (bE (nf 40)) 0 ((s.data.toList.map fun b=>AV.int .u8 (b.toNat:Int)).take (min s.size 40))=bE (bO (bN s)):=by
 have hs:s.size=s.data.toList.length:=by rw[Array.length_toList];rfl
 have hn:bE (nf 40)=List.replicate 40 (U 32):=rfl
 rw[hn]
 unfold bK bO bN bE
 rw[List.map_append,List.map_take,List.map_map,List.take_zero,List.nil_append,hs]
 have e:((s.data.toList.map fun b=>AV.int .u8 (b.toNat:Int)).take (min s.data.toList.length 40))=(s.data.toList.map ((fun n:Nat=>AV.int .u8 (n:Int))∘UInt8.toNat)).take 40:=by
  by_cases h:s.data.toList.length≤40
  ·rw[Nat.min_eq_left h,List.take_of_length_le (by simp),List.take_of_length_le (by simpa using h)];rfl
  ·rw[Nat.min_eq_right (by omega)];rfl
 rw[e]
 congr 1
 simp only[Nat.zero_add,List.length_take,List.length_map,List.drop_replicate,List.map_replicate]
 congr 1
 omega
theorem cpR (s:ByteArray):zI 1 [some (XB.blk true (ABlk.cells true (bE (nf 0)))),some (XB.blk true (ABlk.cells true (bE (nf 40))))] (AV.sl 1 0 1 40) (AV.str s)=some (.int .i64 ((min s.size 40:Nat):Int),[some (XB.blk true (ABlk.cells true (bE (nf 0)))),some (XB.blk true (ABlk.cells true (bE (bO (bN s)))))]):=by
 have hc:=aQw s
 have l40:(bE (nf 40)).length=40:=by rw[aM];exact cS (by omega)
 unfold zI tU
 simp only[dU,bB,List.getD_cons_succ,List.getD_cons_zero,if_true,l40]
 simp only[true_and,Nat.zero_add,Nat.mul_one,Nat.le_refl,if_true,Option.map_some,List.set_cons_succ,List.set_cons_zero,iB,Bool.and_true]
 rw[hc]
theorem aLW {i:Nat} (h:i<40):(i+1≤40)=True:=eq_true (by omega)
theorem w44 (s:ByteArray):runW aH 44 [.str s] []=some (nM (bO (bN s)),[]):=by
 rw[q44 (by simp)];unfold x44;dsimp only
 have e0:((40:Int)<40)=False:=eq_false (by omega)
 have l40:(bE (nf 40)).length=40:=by rw[aM];exact cS (by omega)
 have l0:(bE (nf 0)).length=40:=by rw[aM];exact cS (by omega)
 have g0:=bD (nf 0)
 rw[bI]
 sym =>
  simp[Zb,Zf,Zh,Zl,Zu,Zv,YV,XM,VB,VE,VF,VJ,VK,VN,Uh,Ui,Un,Uo,UP,UT,UU,Tc,e0]
  tactic =>
   unfold aHR
   rw[aY 40 (fun i=>[.str s,.pt 0 0,.pt 1 0,I (i:Nat)]) (fun i=>[some (.blk true (.cells true (bE (nf 0)))),some (.blk true (.cells true (bE (nf i))))])]
   ·have c2:=eK (bN s)
    have c4:=aM (bO (bN s))
    rw[c2]at c4
    have c5:=eA c2
    have c6:=fN c2
    have c7:=bD (bO (bN s))
    have c3:=cpR s
    have c8:=fV (a:=nf 0) (b:=bO (bN s)) (by rw[c2];exact cS (by omega))
    (sym=>(simp[Za,Zb,Zc,Zf,Zh,Zl,Zm,Zn,Zu,Z0,ZG,ZL,ZP,ZQ,ZT,ZU,Yu,YK,Xd,Xo,XN,Wb,Wd,We,Wf,Wg,Wt,Wx,Wz,WB,WC,Ve,Vm,Vn,Vo,Vp,Vq,Vr,Vs,Vu,Vv,Vw,Vy,V0,V6,V8,VD,VG,VI,VN,VU,VZ,Ud,Ue,Uu,UA,UB,UE,UG,UH,UN,UP,UQ,US,UU,UV,UZ,Tb,Tc,Td,Te,Tf,Tg,Ty,T5,e0,l40,l0,c3,c4,c5,c6,c7,c8,g0,bX,bT,bV,bY];all_goals tactic=>exact rfl))
   ·(sym=>(simp[Za,Y7,YG,YJ,YO,Xa,Xc,Xh,Wd,Wl,Wn,Wo,Wq,Wr,Wt,Wu,Wv,Wx,Wz,WB,WC,WE,WJ,WK,WO,Vz,V4,V5,VC,VD,VE,VF,VG,VI,VL,VX,Ud,Ue,Uf,Ug,Ta,Ts];all_goals tactic=>exact rfl))
   ·intro i hi
    have i1:((i:Int)<40)=True:=eq_true (by omega)
    have a2:=eS (n:=40) hi (by omega)
    have n1:(bE (nf i)).length=40:=by rw[aM];exact cS (by omega)
    have n2:=aJo hi
    have n3:=aLW hi
    (sym=>(simp[Za,Zb,Zc,Zf,Zh,Zl,Zm,Zu,Z0,ZC,ZP,ZQ,Yp,Yu,Yz,Y2,YA,YG,YJ,YO,YV,Xa,Xc,Xh,XZ,Wd,Wg,Wn,Wo,Wq,Wr,Wt,Wu,Wv,Wx,Wz,WB,WC,WE,WJ,WK,WO,V0,V4,V5,V6,V7,VC,VD,VE,VF,VG,VI,VJ,VK,VL,VN,VU,VX,VY,Ud,Ue,Uf,Ug,Uh,Ui,UG,UH,UN,UP,UR,UT,UU,UX,Ta,Tb,Tc,Tq,Tr,Ts,T5,i1,a2,n1,n2,n3];all_goals tactic=>exact rfl))
   ·(sym=>(simp[Za,Zb,Zf,Zh,Zl,Zm,Z0,Yu,V0,V6,V8,V9,VZ,UN,UP,US,UU,UV,Tb,Tc,T5,e0];all_goals tactic=>exact rfl))
def tmZ (a b:Int):Int:=Int.tmod a b
def tdZ (a b:Int):Int:=Int.tdiv a b
def aFv (z:Bool) (k:IntKind) (v:Int):Option AV:=if z then none else some (.int k v)
theorem aL (k:IntKind) (v:Int):aFv false k v=some (.int k v):=rfl
theorem aE {k:IntKind} {a b:Int}:gM .rem k a k b=aFv (decide (b=0)) k (tmZ a b):=by
 by_cases h:b=0<;>simp[gM,aFv,h,tmZ]
theorem aF {k:IntKind} {a b:Int}:gM .quo k a k b=aFv (decide (b=0)) k (k.wrap (tdZ a b)):=by
 by_cases h:b=0<;>simp[gM,aFv,h,tdZ]
theorem jH (a b:Nat):tmZ (a:Int) (b:Int)=((a%b:Nat):Int):=by rw[tmZ,Int.tmod_eq_emod_of_nonneg (by omega)];exact(Int.natCast_emod a b).symm

theorem aAq (x:Nat):dY x<256:=Nat.mod_lt _ (by decide)
theorem aGp {x:Nat} (h:x<256):IntKind.u8.wrap ((x:Int)-32)=(dY x:Int):=by
 unfold dY
 simp[IntKind.wrap,IntKind.bits,IntKind.signed]
 omega
theorem yY (x:Nat):∀ (l:List Nat) (k:Nat),sX k (l++[x])=sX k l+(k+l.length+1)*dY x
 | [],k=>by simp[sX]
 | a::l,k=>by
   rw[List.cons_append,sX,yY x l (k+1),sX,List.length_cons]
   rw[show k+1+l.length+1=k+(l.length+1)+1 by omega]
   omega
theorem aDB:∀ (l:List Nat) (k:Nat),sX k l≤l.length*((k+l.length)*255)
 | [],k=>by simp[sX]
 | a::l,k=>by
   have h1:=aDB l (k+1)
   have h2:=aAq a
   rw[sX,List.length_cons]
   have h3:(k+1)*dY a≤(k+(l.length+1))*255:=Nat.mul_le_mul (by omega) (by omega)
   have h4:k+1+l.length=k+(l.length+1):=by omega
   rw[h4]at h1
   rw[Nat.add_mul l.length 1]
   omega
def iT (row:Nat) (f:List Nat) (i:Nat):Nat:=row+sX 0 (f.take i)
theorem aIu (row:Nat) (f:List Nat):iT row f 0=row:=by simp[iT,sX]
theorem aIt {row:Nat} {f:List Nat} {i x:Nat} (h:f[i]?=some x):iT row f (i+1)=iT row f i+(i+1)*dY x:=by
 have hi:i<f.length:=(List.getElem?_eq_some_iff.1 h).1
 have ht:f.take (i+1)=f.take i++[x]:=by rw[List.take_add_one,h];rfl
 unfold iT
 rw[ht,yY,List.length_take,Nat.min_eq_left (by omega)]
 rw[show 0+i+1=i+1 by omega,Nat.add_assoc]
theorem aGy {row:Nat} {f:List Nat} (hf:f.length=40) (i:Nat):iT row f i≤row+408000:=by
 have h:=aDB (f.take i) 0
 have h1:(f.take i).length≤40:=by rw[List.length_take];omega
 have h2:(f.take i).length*((0+(f.take i).length)*255)≤40*(40*255):=Nat.mul_le_mul h1 (Nat.mul_le_mul (by omega) (Nat.le_refl _))
 unfold iT
 omega
theorem aGz {row:Nat} {f:List Nat} (hf:f.length=40):iT row f 40%9973=sR row f:=by
 unfold iT sR
 rw[List.take_of_length_le (by omega)]

theorem aGt (l1 l2:List UInt8):(⟨⟨l1⟩⟩:ByteArray)++⟨⟨l2⟩⟩=⟨⟨l1++l2⟩⟩:=by
 have h:((⟨⟨l1⟩⟩:ByteArray)++⟨⟨l2⟩⟩).data=(⟨⟨l1++l2⟩⟩:ByteArray).data:=by
  rw[ByteArray.data_append]
  simp
 cases hx:(⟨⟨l1⟩⟩:ByteArray)++⟨⟨l2⟩⟩with
 | mk d=>rw[hx]at h;simp only at h;rw[h]
theorem gS {a b:ByteArray} (h:a.size+b.size≤1000000):sT BinOp.add a b=some (.str (a++b)):=by
 have e:IntKind.i64.max=9223372036854775807:=by decide
 simp only[sT]
 rw[if_neg (by rw[e];omega)]
theorem xG (l:List UInt8):(⟨⟨l⟩⟩:ByteArray).size=l.length:=rfl
def aCu (c:Nat):ByteArray:=fP (nH c)
theorem aHw {c:Nat} (h:c<9973):1≤(Lib.itoa (c:Int)).length∧(Lib.itoa (c:Int)).length≤4∧Lib.repeatL [48] (4-(Lib.itoa (c:Int)).length)++Lib.itoa (c:Int)=(nH c).map UInt8.ofNat:=by
 have e:Lib.itoa (c:Int)=Lib.decDigits c:=by
  unfold Lib.itoa
  rw[if_neg (by omega)];rfl
 rw[e]
 by_cases h1:c<10
 ·rw[Lib.decDigits_one h1]
  refine⟨by simp,by simp,?_⟩
  have:nH c=[48,48,48,48+c]:=by simp[nH];omega
  rw[this];rfl
 ·by_cases h2:c<100
  ·rw[Lib.decDigits_two h1 h2]
   refine⟨by simp,by simp,?_⟩
   have:nH c=[48,48,48+c/10,48+c%10]:=by simp[nH];omega
   rw[this];rfl
  ·have s3:∀ {m:Nat},¬m<10→Lib.decDigits m=Lib.decDigits (m/10)++[UInt8.ofNat (48+m%10)]:=fun {m} hm=>by
    conv=>lhs;rw[Lib.decDigits,dif_neg hm]
   by_cases h3:c<1000
   ·rw[s3 h1,Lib.decDigits_two (by omega) (by omega)]
    refine⟨by simp,by simp,?_⟩
    have:nH c=[48,48+c/10/10,48+c/10%10,48+c%10]:=by simp[nH];omega
    rw[this];rfl
   ·rw[s3 h1,s3 (by omega),Lib.decDigits_two (by omega) (by omega)]
    refine⟨by simp,by simp,?_⟩
    have:nH c=[48+c/10/10/10,48+c/10/10%10,48+c/10%10,48+c%10]:=by simp[nH];omega
    rw[this];rfl

theorem w57 {c:Nat} (h:c<9973):runW aH 57 [I (c:Int)] []=some (.str ⟨⟨Lib.itoa (c:Int)⟩⟩,[]):=by
 rw[p57];unfold uX;dsimp only;rw[if_pos (by omega)]
theorem aNv {d:Nat} (h:d≤4):runW aH 143 [.str ⟨#[48]⟩,I (d:Int)] []=some (.str ⟨⟨Lib.repeatL [48] d⟩⟩,[]):=by
 rw[aPb];unfold mO;dsimp only
 rw[if_pos (by refine⟨by omega,by omega,by decide⟩)]
 simp

theorem aNw {f:List Nat} {row:Nat} (hf:f.length=40) (hb:∀ (i x:Nat),f[i]?=some x→x<256) (hrow:row≤1000000):runW aH 119 [nM f,I (row:Int)] []=some (.str (aCu (sR row f)),[]):=by
 rw[aOY (by simp)];unfold x119;dsimp only
 have e0:((40:Int)<40)=False:=eq_false (by omega)
 have lf:=aM f
 rw[hf]at lf
 have gf:=bD f
 rw[bI]
 have t1:=eA hf
 have t2:=fN hf
 sym =>
  simp[aE,aF,aL,Za,Zb,Zf,Zh,Zl,Zm,Zo,Zu,Zx,ZL,YY,XK,XN,Wb,Wd,We,Wf,Wl,Vz,VB,VF,VK,Un,Uo,Ux,Uy,UA,UB,UE,UI,UP,UT,UU,Tb,Tc,e0,lf,gf,t1,t2,bX,bT,bV,bY]
  tactic =>
   unfold aEK
   rw[aY 40 (fun i=>[I (iT row f i:Nat),.agg (bE f),I (i:Nat)]) (fun _=>[])]
   ·have hc:sR row f<9973:=Nat.mod_lt _ (by decide)
    have c1:tmZ ((iT row f 40:Nat):Int) 9973=((sR row f:Nat):Int):=by rw[←aGz hf];exact jH _ _
    have c2:=w57 hc
    obtain⟨d1,d2,d3⟩:=aHw hc
    have c3:=aNv (d:=4-(Lib.itoa ((sR row f:Nat):Int)).length) (by omega)
    have c4:aCu (sR row f)=(⟨⟨Lib.repeatL [48] (4-(Lib.itoa ((sR row f:Nat):Int)).length)⟩⟩:ByteArray)++⟨⟨Lib.itoa ((sR row f:Nat):Int)⟩⟩:=by
     rw[aGt,d3];rfl
    rw[c4]
    have c5:(⟨⟨Lib.itoa ((sR row f:Nat):Int)⟩⟩:ByteArray).size=(Lib.itoa ((sR row f:Nat):Int)).length:=rfl
    have c6:IntKind.i64.wrap (4-((Lib.itoa ((sR row f:Nat):Int)).length:Int))=((4-(Lib.itoa ((sR row f:Nat):Int)).length:Nat):Int):=by rw[aG (by omega) (by omega)];omega
    have c7:=gS (a:=⟨⟨Lib.repeatL [48] (4-(Lib.itoa ((sR row f:Nat):Int)).length)⟩⟩) (b:=⟨⟨Lib.itoa ((sR row f:Nat):Int)⟩⟩) (by
     rw[xG,xG,Lib.repeatL_length]
     simp only[List.length_cons,List.length_nil,Nat.zero_add,Nat.mul_one]
     omega)
    generalize Lib.itoa ((sR row f:Nat):Int)=ss at *
    generalize hz:(⟨⟨ss⟩⟩:ByteArray)=a at *
    generalize hd:4-ss.length=d at *
    generalize hy:(⟨⟨Lib.repeatL [48] d⟩⟩:ByteArray)=z at *
    (sym=>(simp[aE,aF,aL,Za,Zb,Zf,Zh,Zl,Zm,Zu,Z0,ZK,ZT,ZV,Ya,Yb,Yk,Yq,Yu,YG,YJ,Xa,Xc,Xn,XM,Wk,Wt,Ww,Wx,Wy,WB,WC,WF,WG,WQ,WR,WS,Ve,Vm,Vn,Vo,Vp,Vq,Vr,Vs,Vu,Vv,Vw,Vx,V0,V6,V8,VC,VD,VF,VG,VI,VK,VZ,Uc,Ud,Ue,Uf,Ug,UN,UO,UP,UQ,US,UU,UV,UZ,Tb,Tc,Ty,T5,e0,lf,c1,c2,c3,c5,c6,c7,bX,bT,bV,bY];all_goals tactic=>exact rfl))
   ·have a0:=aIu row f
    (sym=>(simp[aE,aF,aL,Za,Y7,YG,YK,Xa,Xd,Wt,Wx,Wz,WB,WC,V4,V5,VC,VD,VG,VI,Ud,Ue,Uf,Ug,Ta,lf,a0,bX,bT,bV,bY];all_goals tactic=>exact rfl))
   ·intro i hi
    have i1:((i:Int)<40)=True:=eq_true (by omega)
    have a2:=eS (n:=40) hi (by omega)
    obtain⟨x,hx⟩:=eC (l:=f) (i:=i) (by omega)
    have hx':=aEP hx
    have hxb:=hb i x hx
    have b1:=aGp hxb
    have hcx:=aAq x
    have b2:IntKind.i64.wrap ((dY x:Nat):Int)=((dY x:Nat):Int):=aG (by omega) (by omega)
    have hm:(i+1)*dY x≤40*255:=Nat.mul_le_mul (by omega) (by omega)
    have b3:IntKind.i64.wrap (((i:Int)+1)*((dY x:Nat):Int))=(((i+1)*dY x:Nat):Int):=by
     have:(((i:Int)+1)*((dY x:Nat):Int))=(((i+1)*dY x:Nat):Int):=by rw[Int.natCast_mul];rfl
     rw[this];exact aG (by omega) (by omega)
    have hal:=aGy (row:=row) hf i
    have b4:IntKind.i64.wrap (((iT row f i:Nat):Int)+(((i+1)*dY x:Nat):Int))=((iT row f (i+1):Nat):Int):=by
     rw[aIt hx,aG (by omega) (by omega)];omega
    generalize iT row f i=A at *
    generalize iT row f (i+1)=A' at *
    generalize dY x=cx at *
    generalize (i+1)*cx=px at *
    (sym=>(simp[aE,aF,aL,Za,Zb,Zf,Zh,Zl,Zm,Zu,Z0,ZA,ZE,Yg,Yp,Yq,Yr,Yu,Yz,Y2,YE,YG,YK,Xa,Xd,Wt,Wx,Wy,WB,WC,V0,V4,V5,V6,V7,VC,VD,VG,VI,VU,VY,Uc,Ud,Ue,Uf,Ug,UF,UN,UP,UR,UT,UU,UX,Ta,Tb,Tc,Tq,T5,i1,a2,hx',b1,b2,b3,b4,lf,bX,bT,bV,bY];all_goals tactic=>exact rfl))
   ·(sym=>(simp[aE,aF,aL,Za,Zb,Zf,Zh,Zl,Zm,Z0,Yu,V0,V6,V8,V9,VZ,UN,UP,US,UU,UV,Tb,Tc,T5,e0];all_goals tactic=>exact rfl))
theorem q77 {vs:List AV} {h:XH} (hl:vs.length≤12):runW aH 77 vs h=cR none x77.res x77.ownR h.length (execW aH 77 h.length none x77.body (aP (if x77.ownA then vs else fY vs)) h):=bG rfl hl h rfl
theorem q45 {vs:List AV} {h:XH} (hl:vs.length≤31):runW aH 45 vs h=cR none x45.res x45.ownR h.length (execW aH 45 h.length none x45.body (aP (if x45.ownA then vs else fY vs)) h):=bG rfl hl h rfl
def wQ (f:List Nat):Prop:=∀ (i x:Nat),f[i]?=some x→x<256
theorem kN:∀ {f:List Nat},eV (bE f)=some (f.map UInt8.ofNat)
 | []=>rfl
 | x::f=>by
   have ih:=kN (f:=f)
   show (eV (bE f)).map _=_
   rw[ih];rfl

theorem aGs {run:cF} {g:Nat} {vs:List AV} {v:AV} {hl h:XH} (hn:qM vs=[]) (hr:∀ s,jX s vs=vs) (hrun:run g vs []=some (v,hl)) (hg:gdA v=true):iS run (.fn (.func g) [] []) vs h=some v:=by
 unfold iS
 dsimp only
 have hp:cA (.fn (.func g) [] []) vs h=[]:=by
  unfold cA mQ
  dsimp only
  rw[List.nil_append,List.append_nil,hn]
  rfl
 rw[hp,List.nil_append,List.append_nil,hr]
 show (match run g vs []with|some (v,hl)=>if gdA v&&yL [] hl then some v else none|none=>none)=some v
 rw[hrun]
 dsimp only
 rw[hg]
 cases hl<;>rfl
theorem w77 {f:List Nat} {row:Nat} (hf:f.length=40) (hb:wQ f) (hrow:row≤1000000):runW aH 77 [nM f,I (row:Int)] []=some (.str (fP (iU row f)),[]):=by
 rw[q77 (by simp)];unfold x77;dsimp only
 have lf:=aM f
 rw[hf]at lf
 have gf:=bD f
 have c1:=aNw hf hb hrow
 rw[bI]at c1 ⊢
 have t1:=eA hf
 have t2:=fN hf
 have bu:=kN (f:=f)
 have cq:=aGs (run:=runW aH) (h:=[some (XB.blk true (ABlk.cells true (bE f)))]) (by show sD (.agg (bE f))++_=[];simp only[sD,bT];rfl) (fun s=>by show rnA s (.agg (bE f))::_=_;simp only[rnA,bV];rfl) c1 rfl
 have hd:(aCu (sR row f)).size=4:=rfl
 have s1:=gS (a:=aCu (sR row f)) (b:=⟨⟨f.map UInt8.ofNat⟩⟩) (by rw[hd,xG,List.length_map];omega)
 have s2:=gS (a:=aCu (sR row f)++⟨⟨f.map UInt8.ofNat⟩⟩) (b:=⟨#[10]⟩) (by rw[ByteArray.size_append,hd,xG,List.length_map];simp[ByteArray.size];omega)
 have s3:fP (iU row f)=(aCu (sR row f)++⟨⟨f.map UInt8.ofNat⟩⟩)++⟨#[10]⟩:=by
  unfold aCu fP iU
  rw[aGt,aGt]
  simp
 rw[s3]
 (sym=>(simp[aE,aF,aL,Za,Zb,Zf,Zg,Zh,Zk,Zl,Zm,Zn,Zo,Zu,Zx,Z0,ZG,ZM,ZO,ZY,YJ,YY,Xc,Xl,Xn,XK,XM,XN,Wb,Wd,We,Wf,Wl,Wt,Wx,Wz,WB,WC,Ve,Vg,Vh,Vi,Vm,Vn,Vo,Vp,Vq,Vr,Vs,Vu,Vv,Vw,Vx,Vz,VB,VC,VD,VF,VG,VI,VK,VL,VU,Ud,Ue,Un,Uo,Uu,Ux,Uy,U3,U4,UA,UB,UE,UI,UO,UP,UQ,UU,Tb,Tc,Td,Te,Tf,Tg,Ty,T7,T8,T9,TA,TB,TC,TR,TS,TT,lf,gf,t1,t2,cq,bu,s1,s2,bX,bT,bV,bY];all_goals tactic=>exact rfl))

def pv (t x y:Nat):Nat:=32+(dY x+t*dY y)%95
theorem uY {t x y:Nat}:∀ {l m:List Nat},l.length=m.length→bU t (l++[x]) (m++[y])=bU t l m++[pv t x y]
 | [],[],_=>rfl
 | [],_::_,h=>by simp at h
 | _::_,[],h=>by simp at h
 | a::l,b::m,h=>by
   simp only[List.cons_append,bU]
   rw[uY (by simpa using h)]
theorem gJ {t:Nat}:∀ {l m:List Nat},l.length=m.length→(bU t l m).length=l.length
 | [],[],_=>rfl
 | [],_::_,h=>by simp at h
 | _::_,[],h=>by simp at h
 | a::l,b::m,h=>by simp only[bU,List.length_cons,gJ (l:=l) (m:=m) (by simpa using h)]
theorem aLG (t x y:Nat):pv t x y<127:=by
 have:=Nat.mod_lt (dY x+t*dY y) (show 0<95 by decide)
 unfold pv;omega
theorem jZ {t:Nat}:∀ {l m:List Nat},wQ (bU t l m)
 | [],m=>by intro i x h;simp[bU]at h
 | a::l,[]=>by intro i x h;simp[bU]at h
 | a::l,b::m=>by
   intro i x h
   simp only[bU]at h
   cases i with
   | zero=>simp at h;subst h;exact Nat.lt_of_lt_of_le (aLG t a b) (by decide)
   | succ i=>exact jZ (l:=l) (m:=m) i x (by simpa using h)
def plS (t:Nat) (f o:List Nat) (i:Nat):List Nat:=bU t (f.take i) (o.take i)++f.drop i
section
variable {t:Nat} {f o:List Nat}
theorem aOZ:plS t f o 0=f:=by simp[plS,bU]
theorem aLM (hf:f.length=40) (ho:o.length=40):plS t f o 40=bU t f o:=by
 unfold plS
 rw[List.take_of_length_le (by omega),List.take_of_length_le (by omega),List.drop_eq_nil_of_le (by omega),List.append_nil]
theorem vA (hf:f.length=40) (ho:o.length=40) {i:Nat} (hi:i≤40):(bU t (f.take i) (o.take i)).length=i:=by
 rw[gJ (by simp[hf,ho])];simp;omega
theorem aCc (hf:f.length=40) (ho:o.length=40) {i:Nat} (hi:i≤40):(plS t f o i).length=40:=by
 unfold plS
 rw[List.length_append,vA hf ho hi,List.length_drop];omega
theorem aLL (hf:f.length=40) (ho:o.length=40) {i x:Nat} (hi:i<40) (hx:f[i]?=some x):(plS t f o i)[i]?=some x:=by
 unfold plS
 rw[List.getElem?_append_right (by rw[vA hf ho (by omega)];exact Nat.le_refl _),vA hf ho (by omega),Nat.sub_self,List.getElem?_drop]
 exact hx
theorem aJi (hf:f.length=40) (ho:o.length=40) {i x y:Nat} (hi:i<40) (hx:f[i]?=some x) (hy:o[i]?=some y):bK (bE (plS t f o i)) i [.int .u8 ((pv t x y:Nat):Int)]=bE (plS t f o (i+1)):=by
 rw[aEO (by rw[aCc hf ho (by omega)];exact hi)]
 congr 1
 unfold plS
 have h1:f.take (i+1)=f.take i++[x]:=by rw[List.take_add_one,hx];rfl
 have h2:o.take (i+1)=o.take i++[y]:=by rw[List.take_add_one,hy];rfl
 have h3:f.drop i=x::f.drop (i+1):=by
  obtain⟨k1,k2⟩:=List.getElem?_eq_some_iff.1 hx
  rw[←k2]
  exact List.drop_eq_getElem_cons k1
 rw[h1,h2,uY (by simp[hf,ho]),h3,List.set_append_right _ _ (by rw[vA hf ho (by omega)];exact Nat.le_refl _),vA hf ho (by omega),Nat.sub_self]
 simp
end

theorem w45 {f o:List Nat} {t:Nat} (hf:f.length=40) (ho:o.length=40) (bf:wQ f) (bo:wQ o) (ht:t≤94):runW aH 45 [nM f,nM o,I (t:Int)] []=some (nM (bU t f o),[]):=by
 rw[q45 (by simp)];unfold x45;dsimp only
 have e0:((40:Int)<40)=False:=eq_false (by omega)
 have lf:=aM f
 rw[hf]at lf
 have lo:=aM o
 rw[ho]at lo
 have gf:=bD f
 have go:=bD o
 have l0:(bE (nf 0)).length=40:=by rw[aM];exact cS (by omega)
 have g0:=bD (nf 0)
 rw[bI,bI,bI]
 sym =>
  simp[aE,aF,aL,Za,Zb,Zf,Zh,Zl,Zo,Zu,Zv,Zx,YV,YY,XK,XN,Wb,Wl,Vz,VB,VE,VF,VJ,VK,VN,Uh,Ui,Un,Uo,Ux,Uy,UI,UP,UT,UU,Tb,Tc,e0,lf,lo,gf,go,bX,bT,bV,bY]
  tactic =>
   unfold aHQ
   rw[aY 40 (fun i=>[I (t:Int),.pt 0 0,.pt 1 0,.pt 2 0,I (i:Nat)]) (fun i=>[some (.blk true (.cells true (bE (plS t f o i)))),some (.blk true (.cells true (bE o))),some (.blk true (.cells true (bE (nf 0))))])]
   ·have hp:=aLM (t:=t) hf ho
    have hpl:=aCc (t:=t) hf ho (i:=40) (by omega)
    rw[hp]at hpl
    have c4:=aM (bU t f o)
    rw[hpl]at c4
    have c5:=eA hpl
    have c6:=fN hpl
    have c7:=bD (bU t f o)
    have c8:=fV (a:=nf 0) (b:=bU t f o) (by rw[hpl];exact cS (by omega))
    (sym=>(simp[aE,aF,aL,Za,Zb,Zc,Zf,Zh,Zl,Zm,Z0,ZL,ZP,ZQ,Yu,YK,Xd,Xo,XN,Wb,Wd,We,Wf,Wg,Wt,Wx,Wz,WB,WC,Ve,Vm,Vn,Vo,Vp,Vq,Vr,Vs,Vu,Vv,Vw,Vy,V0,V6,V8,VD,VG,VI,VN,VU,VZ,Ud,Ue,UA,UB,UE,UG,UH,UN,UP,UQ,US,UU,UV,UZ,Tb,Tc,Ty,T5,e0,hp,lo,l0,c4,c5,c6,c7,c8,go,g0,bX,bT,bV,bY];all_goals tactic=>exact rfl))
   ·have h0:=aOZ (t:=t) (f:=f) (o:=o)
    (sym=>(simp[aE,aF,aL,Za,Y7,YG,YO,Xa,Xh,Wd,Wl,Wn,Wo,Wq,Wr,Wt,Wu,Wv,Wx,Wz,WB,WC,WE,WJ,WK,WO,Vz,V4,V5,VC,VD,VE,VF,VG,VI,VL,VX,Ud,Ue,Uf,Ug,Ta,Ts,h0,lf,lo,gf,go,bX,bT,bV,bY];all_goals tactic=>exact rfl))
   ·intro i hi
    have i1:((i:Int)<40)=True:=eq_true (by omega)
    have a2:=eS (n:=40) hi (by omega)
    obtain⟨x,hx⟩:=eC (l:=f) (i:=i) (by omega)
    obtain⟨y,hy⟩:=eC (l:=o) (i:=i) (by omega)
    have hx':=aEP (aLL (t:=t) hf ho hi hx)
    have hy':=aEP hy
    have b1:=aGp (bf i x hx)
    have b2:=aGp (bo i y hy)
    have hcx:=aAq x
    have hcy:=aAq y
    have b3:IntKind.i64.wrap ((dY x:Nat):Int)=((dY x:Nat):Int):=aG (by omega) (by omega)
    have b4:IntKind.i64.wrap ((dY y:Nat):Int)=((dY y:Nat):Int):=aG (by omega) (by omega)
    have hm:t*dY y≤94*255:=Nat.mul_le_mul ht (by omega)
    have b5:IntKind.i64.wrap ((t:Int)*((dY y:Nat):Int))=((t*dY y:Nat):Int):=by
     have:((t:Int)*((dY y:Nat):Int))=((t*dY y:Nat):Int):=by rw[Int.natCast_mul]
     rw[this];exact aG (by omega) (by omega)
    have b6:IntKind.i64.wrap (((dY x:Nat):Int)+((t*dY y:Nat):Int))=((dY x+t*dY y:Nat):Int):=by
     rw[aG (by omega) (by omega)];omega
    have b7:tmZ ((dY x+t*dY y:Nat):Int) 95=(((dY x+t*dY y)%95:Nat):Int):=jH _ _
    have hr:=Nat.mod_lt (dY x+t*dY y) (show 0<95 by decide)
    have b8:IntKind.u8.wrap (((dY x+t*dY y)%95:Nat):Int)=(((dY x+t*dY y)%95:Nat):Int):=by
     simp[IntKind.wrap,IntKind.bits,IntKind.signed];omega
    have b9:IntKind.u8.wrap (32+(((dY x+t*dY y)%95:Nat):Int))=((pv t x y:Nat):Int):=by
     unfold pv
     simp[IntKind.wrap,IntKind.bits,IntKind.signed];omega
    have ns:=aJi (t:=t) hf ho hi hx hy
    have n1:=aM (plS t f o i)
    rw[aCc hf ho (by omega)]at n1
    have n3:=aLW hi
    generalize pv t x y=P at *
    generalize (dY x+t*dY y)%95=R at *
    generalize dY x+t*dY y=S at *
    generalize t*dY y=T at *
    generalize dY x=cx at *
    generalize dY y=cy at *
    (sym=>(simp[aE,aF,aL,Za,Zb,Zc,Zf,Zh,Zi,Zl,Zm,Zu,Z0,ZA,ZC,ZM,ZO,ZP,ZR,ZS,Yg,Yp,Yq,Yr,Yu,Yz,Y2,YA,YG,YO,YV,Xa,Xh,XZ,Wc,Wd,We,Wf,Wg,Wn,Wo,Wq,Wr,Wt,Wu,Wv,Wx,Wz,WB,WC,WE,WJ,WK,WO,WU,V0,V4,V5,V6,V7,VC,VD,VE,VF,VG,VI,VJ,VK,VL,VN,VR,VS,VU,VX,VY,VZ,Ua,Ub,Ud,Ue,Uf,Ug,Uh,Ui,UA,UB,UF,UG,UH,UN,UP,UR,UT,UU,UX,Ta,Tb,Tc,Tq,Tr,Ts,Tx,T5,i1,a2,hx',hy',b1,b2,b3,b4,b5,b6,b7,b8,b9,ns,n1,n3,lo,l0,go,g0,bX,bT,bV,bY];all_goals tactic=>exact rfl))
   ·(sym=>(simp[aE,aF,aL,Za,Zb,Zf,Zh,Zl,Zm,Z0,Yu,V0,V6,V8,V9,VZ,UN,UP,US,UU,UV,Tb,Tc,T5,e0];all_goals tactic=>exact rfl))
theorem q46 {vs:List AV} {h:XH} (hl:vs.length≤6):runW aH 46 vs h=cR none x46.res x46.ownR h.length (execW aH 46 h.length none x46.body (aP (if x46.ownA then vs else fY vs)) h):=bG rfl hl h rfl
theorem q36 {vs:List AV} {h:XH} (hl:vs.length≤5):runW aH 36 vs h=cR none x36.res x36.ownR h.length (execW aH 36 h.length none x36.body (aP (if x36.ownA then vs else fY vs)) h):=bG rfl hl h rfl
theorem q42 {vs:List AV} {h:XH} (hl:vs.length≤23):runW aH 42 vs h=cR none x42.res x42.ownR h.length (execW aH 42 h.length none x42.body (aP (if x42.ownA then vs else fY vs)) h):=bG rfl hl h rfl
theorem p74 {xs:List AV} {h:XH}:runW aH 74 xs h=aCZ xs h:=fW rfl rfl xs h
theorem p80 {xs:List AV} {h:XH}:runW aH 80 xs h=uV xs h:=fW rfl rfl xs h
def sG (f:List Nat):ByteArray:=⟨⟨Lib.trimRightB (f.map UInt8.ofNat) 32⟩⟩
theorem w46 {f:List Nat} (hf:f.length=40):runW aH 46 [nM f] []=some (.str (sG f),[]):=by
 rw[q46 (by simp)];unfold x46;dsimp only
 have lf:=aM f
 rw[hf]at lf
 have gf:=bD f
 have bu:=kN (f:=f)
 have t1:=eA hf
 have t2:=fN hf
 have c1:runW aH 80 [.str ⟨⟨f.map UInt8.ofNat⟩⟩,.str ⟨⟨[32]⟩⟩] []=some (.str (sG f),[]):=by
  rw[p80];unfold uV;dsimp only
  rw[if_pos ⟨by decide,by rw[xG,List.length_map];omega⟩]
  rfl
 rw[bI]
 (sym=>(simp[Za,Zb,Zf,Zh,Zl,Zm,Zn,Zo,Zu,Zx,ZG,ZT,ZV,Ya,Yb,YJ,YY,Xc,Xn,XM,XN,Wb,Wd,We,Wf,Wk,Wl,Wt,Ww,Wx,Wy,Wz,WB,WC,WF,WG,WQ,WR,WS,Ve,Vm,Vn,Vo,Vp,Vq,Vr,Vs,Vu,Vv,Vw,Vx,Vz,VB,VC,VD,VF,VG,VI,VJ,VK,VL,VU,Uc,Ud,Ue,Uf,Ug,Un,Uo,Uu,Ux,Uy,U3,U4,UI,UP,UQ,UU,Tb,Tc,Td,Te,Tf,Tg,Ty,TR,TS,TT,lf,gf,t1,t2,bu,c1,bX,bT,bV,bY];all_goals tactic=>exact rfl))
theorem w36 (s:ByteArray):runW aH 36 [.str s] []=some (.bool (iK s.data.toList),[]):=by
 rw[q36 (by simp)];unfold x36;dsimp only
 have c1:runW aH 74 [.str s,.fn (.func 75) [] []] []=some (.bool (iK s.data.toList),[]):=by rw[p74];rfl
 (sym=>(simp[Za,Zb,Zf,Zg,Zh,Zj,Zl,Zu,ZT,ZV,Ya,Yb,YH,YJ,YQ,Xb,Xc,Xj,Xm,Xn,XL,XM,Wk,Wl,Wt,Ww,Wx,Wy,WB,WC,WF,WG,WQ,WR,WS,Ve,Vg,Vh,Vi,Vm,Vn,Vo,Vp,Vq,Vr,Vs,Vu,Vv,Vw,Vx,Vz,VB,VC,VD,VF,VG,VI,VK,Uc,Ud,Ue,Uf,Ug,Un,Uo,UP,UQ,UU,Tb,Tc,Ty,T7,T8,T9,TA,TB,TC,c1];all_goals tactic=>exact rfl))

def dT (s:ByteArray):ByteArray:=mA s 4 44
def wX (s:ByteArray):List Nat:=bO (bN (dT s))
def sK (s:ByteArray) (n:Nat):Bool := !iK (dT s).data.toList&&((fP (iU n (wX s))).toList==s.toList)
theorem aAs (s:ByteArray):wQ (bN s):=by
 intro i x h
 unfold bN at h
 rw[List.getElem?_map,Option.map_eq_some_iff]at h
 obtain⟨b,_,rfl⟩:=h
 exact b.toNat_lt
theorem iN {l:List Nat} (h:wQ l):wQ (bO l):=by
 intro i x hx
 unfold bO at hx
 rw[List.getElem?_append]at hx
 split at hx
 ·rw[List.getElem?_take]at hx
  split at hx
  ·exact h i x hx
  ·cases hx
 ·rw[List.getElem?_replicate]at hx
  split at hx
  ·simp only[oSI]at hx;omega
  ·cases hx
theorem eI (a b:ByteArray):sT BinOp.eql a b=some (.bool (a.toList==b.toList)):=rfl
theorem w42 {s:ByteArray} {n:Nat} (hs:s.size=45) (hn:n≤1000000):runW aH 42 [.str s,I (n:Int)] []=some (.tup [nM (wX s),.bool (sK s n)],[]):=by
 rw[q42 (by simp)];unfold x42;dsimp only
 have hs':((45:Int)=45)=True:=eq_true rfl
 have l1:=eK (bN (dT s))
 have b1:=iN (aAs (dT s))
 have c1:=w44 (dT s)
 have c2:=w36 (dT s)
 have c3:=w77 (row:=n) l1 b1 hn
 have hx:mA s 4 44=dT s:=rfl
 have n44:Int.toNat 44=44:=rfl
 have n4:Int.toNat 4=4:=rfl
 have n45:((4:Int)≤((44:Nat):Int))=True:=eq_true (by omega)
 rw[bI]at c1 c3 ⊢
 have lf:=aM (bO (bN (dT s)))
 rw[l1]at lf
 have t1:=eA l1
 have t2:=fN l1
 have gf:=bD (bO (bN (dT s)))
 have l0:(bE (nf 0)).length=40:=by rw[aM];exact cS (by omega)
 have g0:=bD (nf 0)
 have a1:=fV (a:=nf 0) (b:=bO (bN (dT s))) (by rw[l1];exact cS (by omega))
 have e1:=eI (fP (iU n (bO (bN (dT s))))) s
 unfold sK wX
 cases hu:iK (dT s).data.toList with
 | true =>
   rw[hu]at c2
   (sym=>(simp[Za,Zb,Zc,Ze,Zf,Zg,Zh,Zk,Zl,Zm,Zn,Zp,Zs,Zu,Zv,Zw,Z8,ZI,ZM,ZO,ZP,ZQ,ZR,ZS,ZT,ZV,ZW,ZX,Ya,Yb,Yd,Yf,Y9,YH,YJ,YK,YL,YV,Xb,Xc,Xd,Xe,Xl,Xm,Xo,Xp,XK,XL,XM,XN,XO,Wb,Wc,Wd,We,Wf,Wg,Wh,Wj,Wk,Wl,Wt,Ww,Wx,Wy,Wz,WB,WC,WF,WG,WQ,WR,WS,WU,WV,WW,WX,Ve,Vg,Vh,Vi,Vm,Vn,Vo,Vp,Vq,Vr,Vt,Vu,Vv,Vw,Vx,Vy,Vz,VB,VC,VD,VE,VF,VG,VI,VJ,VK,VN,VO,VQ,VR,VS,VT,VU,Ua,Ub,Uc,Ud,Ue,Uf,Ug,Uh,Ui,Uj,Uk,Un,Uo,Uq,Uv,Uw,UA,UB,UE,UG,UH,UP,UQ,UU,Tb,Tc,Tl,Tm,Tn,Tp,Tx,Ty,T6,T7,T8,T9,TA,TB,TC,hs,hx,n44,n4,n45,c1,c2,lf,t1,t2,gf,l0,g0,a1,bX,bT,bV,bY];all_goals tactic=>exact rfl))
 | false =>
   rw[hu]at c2
   (sym=>(simp[Za,Zb,Zc,Ze,Zf,Zg,Zh,Zk,Zl,Zm,Zn,Zp,Zq,Zu,Zv,Zw,Z0,Z8,ZI,ZM,ZO,ZP,ZQ,ZR,ZS,ZT,ZV,ZW,ZX,Ya,Yb,Yc,Yf,Y9,YG,YH,YJ,YK,YL,YV,Xa,Xb,Xc,Xd,Xe,Xl,Xm,Xo,Xp,XK,XL,XM,XN,XO,Wb,Wc,Wd,We,Wf,Wg,Wh,Wj,Wk,Wl,Wt,Ww,Wx,Wy,Wz,WB,WC,WF,WG,WQ,WR,WS,WU,WV,WW,WX,Ve,Vg,Vh,Vi,Vm,Vn,Vo,Vp,Vq,Vr,Vt,Vu,Vv,Vw,Vx,Vy,Vz,VB,VC,VD,VE,VF,VG,VI,VJ,VK,VM,VN,VR,VS,VT,VU,Ua,Ub,Uc,Ud,Ue,Uf,Ug,Uh,Ui,Uj,Uk,Un,Uo,Uq,Uv,Uw,UA,UB,UE,UG,UH,UO,UP,UQ,UU,Tb,Tc,Tl,Tm,Tn,Tp,Tx,Ty,T6,T7,T8,T9,TA,TB,TC,hs,hx,n44,n4,n45,c1,c2,c3,e1,lf,t1,t2,gf,l0,g0,a1,bX,bT,bV,bY];all_goals tactic=>exact rfl))
theorem q43 {vs:List AV} {h:XH} (hl:vs.length≤18):runW aH 43 vs h=cR none x43.res x43.ownR h.length (execW aH 43 h.length none x43.body (aP (if x43.ownA then vs else fY vs)) h):=bG rfl hl h rfl
def dB (C:List Nat) (k:Nat):List Nat:=(C.drop (k*40)).take 40
def bZ (C:List Nat):Nat→List Nat
 | 0=>bO []
 | k+1=>bU 1 (bZ C k) (dB C k)
theorem oG {C:List Nat} {n k:Nat} (h:n*40≤C.length) (hk:k<n):(dB C k).length=40:=by
 have h1:(k+1)*40≤n*40:=Nat.mul_le_mul_right _ hk
 have h2:(k+1)*40=k*40+40:=by omega
 simp[dB];omega
theorem tN {C:List Nat} (h:wQ C) (k:Nat):wQ (dB C k):=by
 intro i x hx
 unfold dB at hx
 rw[List.getElem?_take]at hx
 split at hx
 ·rw[List.getElem?_drop]at hx;exact h _ _ hx
 ·cases hx
theorem cY {C:List Nat} {n:Nat} (h:n*40≤C.length):∀ k,k≤n→(bZ C k).length=40
 | 0,_=>eK []
 | k+1,hk=>by
   have h1:=cY h k (by omega)
   rw[bZ,gJ (by rw[h1,oG h (by omega)])]
   exact h1
theorem nT {C:List Nat}:∀ k,wQ (bZ C k)
 | 0=>iN (fun i x h=>by simp at h)
 | k+1=>jZ
theorem yS {C:List Nat} {k:Nat}:((bE C).drop (k*40)).take 40=bE (dB C k):=by
 simp[bE,dB,List.map_take,List.map_drop]

def aEB:XCode:=(.loop [2,3,7,8,9] (.seq (.reg [] false [⟨0,(some 10),(.bin .lss (.t 9) (.t 8)),none⟩]) (.seq (.cond (.t 10) .skip (.exit 0)) (.seq (.block 1 (.seq (.reg [] false [⟨0,(some 11),(.idx 40 (.t 7) (.t 9)),none⟩,⟨0,(some 12),(.load true 40 (.t 11)),none⟩,⟨0,(some 5),(.alloc (bE (nf 0))),none⟩,⟨0,none,(.store 40 (.t 5) (.t 12) []),none⟩]) (.reg [] false [⟨0,(some 13),(.load true 40 (.t 3)),none⟩,⟨0,(some 14),(.load true 40 (.t 5)),none⟩,⟨0,(some 15),(.callf false (.c (.fn (.func 45) [] [])) [(.t 13),(.t 14),(.c (.int .i64 1))] []),none⟩,⟨0,none,(.store 40 (.t 3) (.t 15) []),none⟩]))) (.reg [] false [⟨0,(some 16),(.bin .add (.t 9) (.c (.int .i64 1))),none⟩,⟨0,(some 9),(.mv (.t 16)),none⟩])))))
theorem aEC:aHS=aEB:=rfl
theorem w43 {C:List Nat} {n:Nat} (hC:n*40≤C.length) (hb:wQ C) (hn:n≤1000):runW aH 43 [.sl 0 0 40 n] [some (.blk true (.cells true (bE C)))]=some (nM (bZ C n),[some (.blk true (.cells true (bE C)))]):=by
 rw[q43 (by simp)];unfold x43;dsimp only
 have c1:=w44 ⟨⟨[]⟩⟩
 have hnf:bO (bN ⟨⟨[]⟩⟩)=bO []:=rfl
 rw[hnf]at c1
 rw[bI]at c1 ⊢
 have l0:(bE (nf 0)).length=40:=by rw[aM];exact cS (by omega)
 have g0:=bD (nf 0)
 have l1:=eK []
 have lf:=aM (bO [])
 rw[l1]at lf
 have gf:=bD (bO [])
 have a1:=fV (a:=nf 0) (b:=bO []) (by rw[l1];exact cS (by omega))
 have t1:=eA l1
 have t2:=fN l1
 have gC:=bD C
 sym =>
  simp[Za,Zb,Zc,Zf,Zh,Zl,Zm,Zu,Zv,ZK,ZP,ZQ,ZT,ZV,Ya,Yb,Yj,YJ,YV,Xc,Xd,XW,Wb,Wd,Wg,Wh,Wj,Wk,Wl,Wt,Ww,Wy,WF,WG,WQ,WR,WS,Vz,VB,VC,VD,VE,VF,VG,VJ,VK,VN,VU,Uc,Ud,Ue,Uf,Ug,Uh,Ui,Un,Uo,Uq,UG,UH,UP,UT,UU,Tb,Tc,c1,l0,g0,lf,gf,a1,t1,t2,gC,bX,bT,bV,bY]
  tactic =>
   rw[aEC]
   unfold aEB
   rw[aY n (fun i=>[.pt 1 0,.pt 2 0,.sl 0 0 40 n,I (n:Nat),I (i:Nat)]) (fun i=>[some (.blk true (.cells true (bE C))),some (.blk true (.cells true (bE (nf 0)))),some (.blk true (.cells true (bE (bZ C i))))])]
   ·have e0:((n:Int)<(n:Int))=False:=eq_false (by omega)
    have l3:=cY hC n (Nat.le_refl _)
    have c4:=aM (bZ C n)
    rw[l3]at c4
    have c5:=eA l3
    have c6:=fN l3
    have c7:=bD (bZ C n)
    have c8:=fV (a:=nf 0) (b:=bZ C n) (by rw[l3];exact cS (by omega))
    (sym=>(simp[Za,Zb,Zc,Zf,Zh,Zl,Zm,Z0,ZL,ZP,ZQ,Yu,YK,Xd,Xo,XN,Wb,Wd,We,Wf,Wg,Wt,Wx,Wz,WB,WC,WJ,WK,WN,WO,Ve,Vm,Vn,Vo,Vp,Vq,Vr,Vs,Vu,Vv,Vw,Vy,V0,V6,V8,VC,VD,VG,VH,VI,VN,VU,VZ,Ud,Ue,U9,UA,UB,UE,UG,UH,UN,UP,UQ,US,UU,UV,UZ,Tb,Ty,e0,l0,g0,c4,c5,c6,c7,c8,gC,bX,bT,bV,bY];all_goals tactic=>exact rfl))
   ·have s0:bZ C 0=bO []:=rfl
    (sym=>(simp[Za,Y7,YG,YN,YO,Xa,Xg,Xh,Wd,Wn,Wo,Wq,Wr,Wt,Wu,Wv,Wx,Wz,WB,WC,WE,WJ,WK,WN,WO,V4,V5,VC,VD,VE,VF,VG,VH,VI,VL,VX,Ud,Ue,Uf,Ug,Ta,s0,l0,g0,lf,gf,gC,bX,bT,bV,bY];all_goals tactic=>exact rfl))
   ·intro i hi
    have i1:((i:Int)<(n:Int))=True:=eq_true (by omega)
    have a2:=eS hi (by omega)
    have lC:=aM C
    have i3:(i*40+40≤(bE C).length)=True:=eq_true (by
     rw[lC]
     have h1:(i+1)*40≤n*40:=Nat.mul_le_mul_right _ hi
     omega)
    have fu:=yS (C:=C) (k:=i)
    have l3:=cY hC i (by omega)
    have l4:=cY hC (i+1) (by omega)
    have l5:=oG hC hi
    have w:=w45 (t:=1) l3 l5 (nT i) (tN hb i) (by omega)
    have ws:bU 1 (bZ C i) (dB C i)=bZ C (i+1):=rfl
    rw[ws]at w
    rw[bI,bI,bI]at w
    have m3:=aM (bZ C i)
    rw[l3]at m3
    have m4:=aM (bZ C (i+1))
    rw[l4]at m4
    have m5:=aM (dB C i)
    rw[l5]at m5
    have c8:=fV (a:=nf 0) (b:=dB C i) (by rw[l5];exact cS (by omega))
    have c9:=fV (a:=bZ C i) (b:=bZ C (i+1)) (by rw[l3,l4])
    have k3:=eA l3
    have k4:=fN l3
    have k5:=eA l5
    have k6:=fN l5
    have g3:=bD (bZ C i)
    have g4:=bD (bZ C (i+1))
    have g5:=bD (dB C i)
    have w':runW aH 45 [.agg (bE (bZ C i)),.agg (bE (dB C i)),I 1] []=some (.agg (bE (bZ C (i+1))),[]):=w
    generalize bZ C (i+1)=S' at *
    generalize bZ C i=S at *
    generalize dB C i=f at *
    (sym=>(simp[Za,Zb,Zc,Zf,Zh,Zl,Zm,Zu,Zv,Z0,ZD,ZL,ZP,ZQ,ZT,ZV,Ya,Yb,Yl,Yp,Yu,Yz,Y2,YG,YK,YN,YO,Xa,Xd,Xg,Xh,Wb,Wd,We,Wf,Wg,Wk,Wn,Wo,Wq,Wr,Wt,Wu,Wv,Ww,Wx,Wy,Wz,WB,WC,WE,WF,WG,WJ,WK,WN,WO,WQ,WR,WS,V0,V4,V5,V6,V7,VC,VD,VE,VF,VG,VH,VI,VJ,VK,VL,VN,VU,VX,VY,Uc,Ud,Ue,Uf,Ug,UA,UB,UE,UG,UH,UN,UP,UR,UT,UU,UX,Ta,Tb,Tc,Tr,i1,a2,i3,fu,w',m3,m4,m5,c8,c9,k3,k4,k5,k6,g3,g4,g5,gC,l0,g0,bX,bT,bV,bY];all_goals tactic=>exact rfl))
   ·have e0:((n:Int)<(n:Int))=False:=eq_false (by omega)
    (sym=>(simp[Za,Zb,Zf,Zh,Zl,Zm,Z0,Yu,V0,V6,V8,V9,VZ,U9,UN,UP,US,UU,UV,Tb,e0];all_goals tactic=>exact rfl))
theorem yX {cs:List AV} {s:Nat}:∀ {n o i:Nat},i<n→(cV cs o s n)[i]?=some ((cs.drop (o+i*s)).take s)
 | 0,_,_,h=>absurd h (by omega)
 | n+1,o,0,_=>by rw[cV,List.getElem?_cons_zero,Nat.zero_mul,Nat.add_zero]
 | n+1,o,i+1,h=>by
   rw[cV,List.getElem?_cons_succ,yX (by omega),Nat.add_mul i 1,Nat.one_mul,Nat.add_assoc,Nat.add_comm s]
theorem aNh {C:List Nat} {n:Nat} (hC:n*40≤C.length):(cV (bE C) 0 40 n).length=n∧∀ i,i<n→(cV (bE C) 0 40 n)[i]?=some (bE (dB C i)):=by
 obtain⟨h1,_,_⟩:=pI (cs:=bE C) (s:=40) (n:=n) (o:=0) (by rw[aM];omega)
 refine⟨h1,fun i hi=>?_⟩
 rw[yX hi,Nat.zero_add,yS]
theorem aNu {C:List Nat} {n:Nat} (hC:n*40≤C.length) (hb:wQ C) (hn:n≤1000):runW aH 43 [.fs (cV (bE C) 0 40 n)] []=some (nM (bZ C n),[]):=by
 rw[q43 (by simp)];unfold x43;dsimp only
 have c1:=w44 ⟨⟨[]⟩⟩
 have hnf:bO (bN ⟨⟨[]⟩⟩)=bO []:=rfl
 rw[hnf]at c1
 rw[bI]at c1 ⊢
 have l0:(bE (nf 0)).length=40:=by rw[aM];exact cS (by omega)
 have g0:=bD (nf 0)
 have l1:=eK []
 have lf:=aM (bO [])
 rw[l1]at lf
 have gf:=bD (bO [])
 have a1:=fV (a:=nf 0) (b:=bO []) (by rw[l1];exact cS (by omega))
 have t1:=eA l1
 have t2:=fN l1
 obtain⟨rl,ra⟩:=aNh hC
 generalize cV (bE C) 0 40 n=R at *
 sym =>
  simp[Za,Zb,Zc,Zf,Zh,Zl,Zm,Zu,Zv,ZK,ZP,ZQ,ZT,ZV,Ya,Yb,Yi,YJ,YV,Xc,Xd,XV,Wb,Wd,Wg,Wh,Wj,Wk,Wl,Wt,Ww,Wy,WF,WG,WQ,WR,WS,Vz,VB,VC,VD,VE,VF,VG,VJ,VK,VN,VU,Uc,Ud,Ue,Uf,Ug,Uh,Ui,Un,Uo,Uq,UG,UH,UP,UT,UU,Tb,Tc,rl,c1,l0,g0,lf,gf,a1,t1,t2,bX,bT,bV,bY]
  tactic =>
   rw[aEC]
   unfold aEB
   rw[aY n (fun i=>[.pt 0 0,.pt 1 0,.fs R,I (n:Nat),I (i:Nat)]) (fun i=>[some (.blk true (.cells true (bE (nf 0)))),some (.blk true (.cells true (bE (bZ C i))))])]
   ·have e0:((n:Int)<(n:Int))=False:=eq_false (by omega)
    have l3:=cY hC n (Nat.le_refl _)
    have c4:=aM (bZ C n)
    rw[l3]at c4
    have c5:=eA l3
    have c6:=fN l3
    have c7:=bD (bZ C n)
    have c8:=fV (a:=nf 0) (b:=bZ C n) (by rw[l3];exact cS (by omega))
    (sym=>(simp[Za,Zb,Zc,Zf,Zh,Zl,Zm,Z0,ZL,ZP,ZQ,Yu,YK,Xd,Xo,XN,Wb,Wd,We,Wf,Wg,Wt,Wx,Wz,WB,WC,Ve,Vm,Vn,Vo,Vp,Vq,Vr,Vs,Vu,Vv,Vw,Vy,V0,V6,V8,VD,VG,VI,VN,VU,VZ,Ud,Ue,U9,UA,UB,UE,UG,UH,UN,UP,UQ,US,UU,UV,UZ,Tb,Ty,e0,l0,g0,c4,c5,c6,c7,c8,bX,bT,bV,bY];all_goals tactic=>exact rfl))
   ·have s0:bZ C 0=bO []:=rfl
    (sym=>(simp[Za,Y7,YG,YM,YO,Xa,Xf,Xh,Wd,Wn,Wo,Wq,Wr,Wt,Wu,Wv,Wx,Wz,WB,WC,WE,WJ,WK,WO,V4,V5,VC,VD,VE,VF,VG,VI,VL,VX,Ud,Ue,Uf,Ug,Ta,Ts,s0,l0,g0,lf,gf,bX,bT,bV,bY];all_goals tactic=>exact rfl))
   ·intro i hi
    have i1:((i:Int)<(n:Int))=True:=eq_true (by omega)
    have a2:=eS hi (by omega)
    have i3:(i<R.length)=True:=eq_true (by omega)
    have fu:=ra i hi
    have l3:=cY hC i (by omega)
    have l4:=cY hC (i+1) (by omega)
    have l5:=oG hC hi
    have w:=w45 (t:=1) l3 l5 (nT i) (tN hb i) (by omega)
    have ws:bU 1 (bZ C i) (dB C i)=bZ C (i+1):=rfl
    rw[ws]at w
    rw[bI,bI,bI]at w
    have m3:=aM (bZ C i)
    rw[l3]at m3
    have m4:=aM (bZ C (i+1))
    rw[l4]at m4
    have m5:=aM (dB C i)
    rw[l5]at m5
    have c8:=fV (a:=nf 0) (b:=dB C i) (by rw[l5];exact cS (by omega))
    have c9:=fV (a:=bZ C i) (b:=bZ C (i+1)) (by rw[l3,l4])
    have k3:=eA l3
    have k4:=fN l3
    have k5:=eA l5
    have k6:=fN l5
    have g3:=bD (bZ C i)
    have g4:=bD (bZ C (i+1))
    have g5:=bD (dB C i)
    have w':runW aH 45 [.agg (bE (bZ C i)),.agg (bE (dB C i)),I 1] []=some (.agg (bE (bZ C (i+1))),[]):=w
    generalize bZ C (i+1)=S' at *
    generalize bZ C i=S at *
    generalize dB C i=f at *
    (sym=>(simp[Za,Zb,Zc,Zf,Zh,Zl,Zm,Zu,Zv,Z0,ZD,ZL,ZP,ZQ,ZT,ZV,Ya,Yb,Ym,Yn,Yp,Yu,Yz,Y2,YG,YK,YM,YO,Xa,Xd,Xf,Xh,Wb,Wd,We,Wf,Wg,Wk,Wn,Wo,Wq,Wr,Wt,Wu,Wv,Ww,Wx,Wy,Wz,WB,WC,WE,WF,WG,WJ,WK,WO,WQ,WR,WS,V0,V4,V5,V6,V7,VC,VD,VE,VF,VG,VI,VJ,VK,VL,VN,VU,VX,VY,Uc,Ud,Ue,Uf,Ug,UA,UB,UC,UD,UE,UG,UH,UN,UP,UR,UT,UU,UX,Ta,Tb,Tc,Ts,i1,a2,i3,fu,rl,w',m3,m4,m5,c8,c9,k3,k4,k5,k6,g3,g4,g5,l0,g0,bX,bT,bV,bY];all_goals tactic=>exact rfl))
   ·have e0:((n:Int)<(n:Int))=False:=eq_false (by omega)
    (sym=>(simp[Za,Zb,Zf,Zh,Zl,Zm,Z0,Yu,V0,V6,V8,V9,VZ,U9,UN,UP,US,UU,UV,Tb,e0];all_goals tactic=>exact rfl))
theorem q69 {vs:List AV} {h:XH} (hl:vs.length≤19):runW aH 69 vs h=cR none x69.res x69.ownR h.length (execW aH 69 h.length none x69.body (aP (if x69.ownA then vs else fY vs)) h):=bG rfl hl h rfl
theorem aLN {xs:List AV} {h:XH}:runW aH 115 xs h=aAa xs h:=fW rfl rfl xs h
theorem p71 {xs:List AV} {h:XH}:runW aH 71 xs h=aAU xs h:=fW rfl rfl xs h
def iD (s:ByteArray):List AV:=s.data.toList.map fun b=>.int .u8 (b.toNat:Int)
theorem aAD (s:ByteArray):(iD s).length=s.size:=by
 unfold iD;rw[List.length_map,Array.length_toList];rfl
theorem aEW (a b:ByteArray):iD a++iD b=iD (a++b):=by
 unfold iD
 rw[←List.map_append,ByteArray.data_append,Array.toList_append]
theorem tC (s:ByteArray):iR (iD s)=true:=dH fun v hv=>by
 obtain⟨n,_,rfl⟩:=List.mem_map.1 hv;rfl
theorem aFN {α:Type} {g:α→AV} (hg:∀ a,sD (g a)=[]) (l:List α):qM (l.map g)=[]:=by
 induction l with
 | nil=>rfl
 | cons a l ih=>show sD _++qM (l.map g)=[];rw[ih,hg];rfl
theorem aFL {α:Type} {g:α→AV} (hg:∀ a,rW (g a)=[]) (l:List α):slL (l.map g)=[]:=by
 induction l with
 | nil=>rfl
 | cons a l ih=>show rW _++slL (l.map g)=[];rw[ih,hg];rfl
theorem aFM {α:Type} {g:α→AV} {s:Nat→Option Nat} (hg:∀ a,rnA s (g a)=g a) (l:List α):jX s (l.map g)=l.map g:=by
 induction l with
 | nil=>rfl
 | cons a l ih=>show rnA s _::jX s (l.map g)=_;rw[ih,hg];rfl
theorem pY (s:ByteArray):qM (iD s)=[]:=aFN (fun _=>rfl) _
theorem pW (s:ByteArray):slL (iD s)=[]:=aFL (fun _=>rfl) _
theorem pX (f:Nat→Option Nat) (s:ByteArray):jX f (iD s)=iD s:=aFM (fun _=>rfl) _
theorem aDC:∀ l:List UInt8,sS (l.map fun b=>AV.int .u8 (b.toNat:Int))=some l
 | []=>rfl
 | b::l=>by
   have ih:=aDC l
   have hb:=b.toNat_lt
   show (if 0≤(b.toNat:Int)∧(b.toNat:Int)<256 then (sS (l.map fun b=>AV.int .u8 (b.toNat:Int))).map (UInt8.ofNat (b.toNat:Int).toNat :: ·) else none)=_
   rw[if_pos (by omega),ih]
   simp

theorem aAF {H:Hp} {s:ByteArray}:dU 1 H (.str s)=some (s.size,iD s):=rfl
theorem aBm {h:XH} {s:ByteArray}:iB h (.str s)=true:=rfl
theorem aNt {s:ByteArray} (h0:0<s.size) (h1:s.size≤100000):runW aH 69 [.bp 0,.str s] [some (.blk true (.cells true [.nilpt,.nilsl]))] =
 some (.tup [I (s.size:Nat),.nilifc],[some (.blk false (.cells true [.pt 0 0,.sb 1 s.size])),some (.blk true (.cells true (iD s)))]):=by
 rw[q69 (by simp)];unfold x69;dsimp only
 have c1:runW aH 115 [.bp 0] [some (.blk true (.cells true [.nilpt,.nilsl]))]=some (.tup [],[some (.blk false (.cells true [.pt 0 0,.nilsl]))]):=by rw[aLN];rfl
 have z1:(s.size=0)=False:=eq_false (by omega)
 have z2:(s.size*1048577≤1099511627776)=True:=eq_true (by omega)
 have z3:(s.size≤1099511627776)=True:=eq_true (by omega)
 have g1:=tC s
 (sym=>(simp[Za,Zb,Zc,Zf,Zg,Zh,Zj,Zl,Zm,Zo,Zu,Zz,ZB,ZK,ZL,ZP,ZQ,ZT,ZV,ZZ,Ya,Yb,Yh,Yk,YG,YL,YO,YT,Xa,Xe,Xh,Xi,Xk,Xl,Xp,Xw,XK,XM,XO,XY,Wd,We,Wf,Wg,Wh,Wj,Wk,Wl,Wm,Wn,Wp,Wq,Wr,Ws,Wt,Wu,Wv,Ww,Wx,Wy,Wz,WB,WC,WE,WF,WG,WH,WJ,WK,WL,WN,WO,WP,WQ,WR,WS,WT,Ve,Vg,Vh,Vi,Vm,Vn,Vo,Vp,Vq,Vr,Vt,Vu,Vv,Vw,Vx,Vz,VB,VC,VD,VE,VF,VG,VH,VI,VJ,VK,VL,VN,VP,VU,VX,Uc,Ud,Ue,Uf,Ug,Uh,Ui,Uj,Uk,Un,Uo,Uq,U5,U6,UA,UB,UF,UG,UH,UI,UM,UP,UQ,UU,Tb,Tc,Ty,T7,T8,T9,TA,TB,TC,TE,TH,TI,TJ,TL,TM,TN,TO,TQ,c1,z1,z2,z3,aAF,aBm,pY,pW,pX,g1];all_goals tactic=>exact rfl))

theorem aLl {s a:ByteArray} (h0:0<s.size) (h1:s.size≤100000) (h2:a.size≤100000):runW aH 69 [.bp 0,.str s] [some (.blk false (.cells true [.pt 0 0,.sb 1 a.size])),some (.blk true (.cells true (iD a)))] =
 some (.tup [I (s.size:Nat),.nilifc],[some (.blk false (.cells true [.pt 0 0,.sb 2 (a.size+s.size)])),none,some (.blk true (.cells true (iD (a++s))))]):=by
 rw[q69 (by simp)];unfold x69;dsimp only
 have c1:runW aH 115 [.bp 0] [some (.blk false (.cells true [.pt 0 0,.sb 1 a.size])),some (.blk true (.cells true (iD a)))]=some (.tup [],[some (.blk false (.cells true [.pt 0 0,.sb 1 a.size])),some (.blk true (.cells true (iD a)))]):=by rw[aLN];rfl
 have l1:=aAD a
 have z3:(a.size+s.size≤1099511627776)=True:=eq_true (by omega)
 have z4:(a.size+s.size≤1099511627776∧True)=True:=eq_true ⟨by omega,trivial⟩
 have g1:=tC s
 have g2:=tC a
 have g3:=tC (a++s)
 have e1:=aEW a s
 (sym=>(simp[Za,Zb,Zc,Zf,Zg,Zh,Zj,Zl,Zm,Zo,Zu,Zz,ZB,ZK,ZL,ZP,ZQ,ZT,ZV,ZZ,Ya,Yb,Yh,Yk,YG,YL,YO,YT,Xa,Xe,Xh,Xk,Xl,Xp,Xw,XK,XM,XO,XY,Wd,We,Wf,Wg,Wh,Wj,Wk,Wl,Wm,Wn,Wo,Wp,Wq,Wr,Ws,Wt,Wu,Wv,Ww,Wx,Wy,Wz,WB,WF,WG,WH,WI,WJ,WK,WL,WM,WN,WO,WP,WQ,WR,WS,WT,Ve,Vg,Vh,Vi,Vm,Vn,Vo,Vp,Vq,Vr,Vt,Vu,Vv,Vw,Vx,Vz,VB,VC,VD,VE,VF,VG,VH,VI,VJ,VK,VL,VN,VP,VU,VW,VX,Uc,Ud,Ue,Uf,Ug,Uh,Ui,Uj,Uk,Un,Uo,Uq,U5,UA,UB,UF,UG,UH,UJ,UP,UQ,UU,Tb,Tc,Ty,T7,T8,T9,TA,TB,TC,TE,TF,TG,TH,TI,TJ,TL,TM,TN,TO,TQ,c1,l1,z3,aAF,aBm,pY,pW,pX,g1,g2,g3,e1];all_goals tactic=>exact rfl))
theorem w71 {a:ByteArray} (h0:0<a.size) (h1:a.size≤1000000):runW aH 71 [.bp 0] [some (.blk false (.cells true [.pt 0 0,.sb 1 a.size])),some (.blk true (.cells true (iD a)))]=some (.str a,[some (.blk false (.cells true [.pt 0 0,.sb 1 a.size])),none]):=by
 rw[p71]
 have hl:=aAD a
 have hb:=aDC a.data.toList
 have hsz:a.size=a.data.toList.length:=by rw[Array.length_toList];rfl
 unfold aAU
 simp only[bB,List.getD_cons_zero,List.getD_cons_succ]
 rw[List.take_of_length_le (by rw[hl];exact Nat.le_refl _)]
 unfold iD
 rw[hb]
 cases hd:a.data.toList with
 | nil=>rw[hsz,hd]at h0;simp at h0
 | cons x l =>
   dsimp only
   have hc:a.size≤(List.map (fun b:UInt8=>AV.int IntKind.u8 (b.toNat:Int)) (x::l)).length∧(1:Nat)≠0∧a.size≤1000000:=⟨by rw[List.length_map,←hd,←hsz];exact Nat.le_refl _,by decide,h1⟩
   rw[if_pos hc]
   have ha:(⟨⟨x::l⟩⟩:ByteArray)=a:=by
    rw[←hd]
   rw[ha]
   rfl
theorem q38 {vs:List AV} {h:XH} (hl:vs.length≤40):runW aH 38 vs h=cR none x38.res x38.ownR h.length (execW aH 38 h.length none x38.body (aP (if x38.ownA then vs else fY vs)) h):=bG rfl hl h rfl
def aHH:XCode:=(.loop [1,5,6,9,10,11] (.seq (.reg [] false [⟨0,(some 12),(.bin .lss (.t 11) (.t 10)),none⟩]) (.seq (.cond (.t 12) .skip (.exit 0)) (.seq (.block 1 (.seq (.reg [] false [⟨0,(some 13),(.mv (.t 11)),none⟩,⟨0,(some 14),(.idx 1 (.t 9) (.t 11)),none⟩,⟨0,(some 15),(.load false 1 (.t 14)),none⟩,⟨0,(some 7),(.mv (.t 13)),none⟩,⟨0,(some 8),(.mv (.t 15)),none⟩]) (.seq (.reg [(8,false)] false [⟨0,(some 16),(.mv (.t 6)),none⟩,⟨0,(some 17),(.mv (.t 8)),none⟩,⟨0,(some 18),(.callf false (.c (.fn (.func 44) [] [])) [(.t 17)] []),none⟩,⟨0,(some 19),(.bslice 40 1 (bE (nf 0)) [(0,(40,(.t 18)))]),none⟩,⟨0,(some 20),(.app 40 40 (.t 16) (.t 19)),none⟩,⟨0,(some 6),(.mv (.t 20)),none⟩]) (.reg [(5,false)] false [⟨0,(some 21),(.mv (.t 6)),none⟩,⟨0,(some 22),(.mv (.t 7)),none⟩,⟨0,(some 23),(.idx 40 (.t 21) (.t 22)),none⟩,⟨0,(some 24),(.load true 40 (.t 23)),none⟩,⟨0,(some 25),(.mv (.t 1)),none⟩,⟨0,(some 26),(.mv (.t 7)),none⟩,⟨0,(some 27),(.bin .add (.t 25) (.t 26)),none⟩,⟨0,(some 28),(.callf false (.c (.fn (.func 77) [] [])) [(.t 24),(.t 27)] []),none⟩,⟨0,(some 29),(.callf false (.c (.fn (.func 69) [] [])) [(.t 5),(.t 28)] []),none⟩])))) (.reg [] false [⟨0,(some 30),(.bin .add (.t 11) (.c (.int .i64 1))),none⟩,⟨0,(some 11),(.mv (.t 30)),none⟩])))))
theorem aIz:aHV=aHH:=rfl
def jL (s:ByteArray):List Nat:=bO (bN s)
theorem iZ (s:ByteArray):(jL s).length=40:=eK _
theorem tK (s:ByteArray):wQ (jL s):=iN (aAs s)
def Cn (ls:List ByteArray) (i:Nat):List Nat:=((ls.take i).map jL).flatten
def zP (row:Nat) (f:List Nat):ByteArray:=fP (iU row f)
def Bn (ls:List ByteArray) (row:Nat):Nat→ByteArray
 | 0=>⟨⟨[]⟩⟩
 | i+1=>Bn ls row i++zP (row+i) (jL (ls.getD i ⟨⟨[]⟩⟩))
theorem aFn {row:Nat} {f:List Nat} (h:f.length=40):(iU row f).length=45:=by simp[iU,nH,h]
theorem uH {row:Nat} {f:List Nat} (h:f.length=40):(zP row f).size=45:=by
 unfold zP fP
 rw[xG,List.length_map,aFn h]
theorem qX (ls:List ByteArray) (row:Nat):∀ i,(Bn ls row i).size=i*45
 | 0=>rfl
 | i+1=>by rw[Bn,ByteArray.size_append,qX ls row i,uH (iZ _)];omega
theorem aHv (a:ByteArray):(⟨⟨[]⟩⟩:ByteArray)++a=a:=by
 cases a with
 | mk d=>cases d with
   | mk l=>rw[aGt];rfl
theorem hZ {ls:List ByteArray}:∀ {i:Nat},i≤ls.length→(Cn ls i).length=i*40
 | 0,_=>by simp[Cn]
 | i+1,h=>by
   have ih:=hZ (ls:=ls) (i:=i) (by omega)
   unfold Cn at *
   rw[List.take_add_one]
   obtain⟨x,hx⟩:=eC (l:=ls) (i:=i) (by omega)
   rw[hx]
   simp only[Option.toList_some,List.map_append,List.map_cons,List.map_nil,List.flatten_append,List.flatten_cons,List.flatten_nil,List.append_nil,List.length_append,ih,iZ]
   omega
theorem aHG {ls:List ByteArray} {i:Nat} {s:ByteArray} (h:ls[i]?=some s):Cn ls (i+1)=Cn ls i++jL s:=by
 unfold Cn
 rw[List.take_add_one,h]
 simp
theorem aJV (ls:List ByteArray) (i:Nat):wQ (Cn ls i):=by
 intro k x h
 have hm:=List.mem_of_getElem? h
 unfold Cn at hm
 obtain⟨l,h1,h2⟩:=List.mem_flatten.1 hm
 obtain⟨s,_,rfl⟩:=List.mem_map.1 h1
 obtain⟨j,hj⟩:=List.getElem?_of_mem h2
 exact tK s j x hj
theorem aNo {ls:List ByteArray} {i:Nat} {s:ByteArray} (h:ls[i]?=some s):((bE (Cn ls (i+1))).drop (i*40)).take 40=bE (jL s):=by
 have hi:i<ls.length:=(List.getElem?_eq_some_iff.1 h).1
 have hl:=hZ (ls:=ls) (i:=i) (by omega)
 rw[aHG h]
 unfold bE
 rw[List.map_append,List.drop_append_of_le_length (by rw[List.length_map,hl];exact Nat.le_refl _),List.drop_eq_nil_of_le (by rw[List.length_map,hl];exact Nat.le_refl _),List.nil_append]
 exact List.take_of_length_le (by rw[List.length_map,iZ];exact Nat.le_refl _)
theorem aEQ (a b:List Nat):bE a++bE b=bE (a++b):=by simp[bE]
theorem aJW {ls:List ByteArray} {row i:Nat} {s:ByteArray} (h:ls[i]?=some s):Bn ls row (i+1)=Bn ls row i++zP (row+i) (jL s):=by
 rw[Bn,List.getD_eq_getElem?_getD,h];rfl
def lS (i:Nat):AV:=if i=0 then .nilsl else .sl 2 0 40 i
def lG (ls:List ByteArray) (row i:Nat):XH:=if i=0 then [some (.blk true (.cells true [.nilpt,.nilsl]))] else
 [some (.blk false (.cells true [.pt 0 0,.sb 1 (Bn ls row i).size])),some (.blk true (.cells true (iD (Bn ls row i)))),some (.blk true (.cells true (bE (Cn ls i))))]
def rS (ls:List ByteArray):List (List AV):=ls.map fun s=>[.str s]
theorem jK (ls:List ByteArray):(rS ls).length=ls.length:=by simp[rS]
theorem gI {ls:List ByteArray} {i:Nat} {s:ByteArray} (h:ls[i]?=some s):(rS ls)[i]?=some [.str s]:=by simp[rS,h]

theorem w38 {ls:List ByteArray} {row:Nat} (h0:1≤ls.length) (h1:ls.length≤1000) (hr:row≤10000):runW aH 38 [.fs (rS ls),I (row:Int)] []=some (.str (Bn ls row ls.length++zP (row+ls.length) (bZ (Cn ls ls.length) ls.length)),[]):=by
 rw[q38 (by simp)];unfold x38;dsimp only
 have rl:=jK ls
 have l0:(bE (nf 0)).length=40:=by rw[aM];exact cS (by omega)
 have gz:=bD (nf 0)
 sym =>
  simp[Za,Zb,Zf,Zh,Zl,Zm,Zu,ZK,Yi,XK,XV,Wl,Vz,VB,VF,VK,Un,Uo,UP,UT,UU,Tb,Tc,TD,rl]
  tactic =>
   rw[aIz]
   unfold aHH
   rw[aY ls.length (fun i=>[I (row:Int),.bp 0,lS i,.fs (rS ls),I (ls.length:Nat),I (i:Nat)]) (fun i=>lG ls row i)]
   ·have hn0:¬ls.length=0:=by omega
    have e0:((ls.length:Int)<(ls.length:Int))=False:=eq_false (by omega)
    have s0:lS ls.length = .sl 2 0 40 ls.length:=if_neg hn0
    have g0:lG ls row ls.length=[some (.blk false (.cells true [.pt 0 0,.sb 1 (Bn ls row ls.length).size])),some (.blk true (.cells true (iD (Bn ls row ls.length)))),some (.blk true (.cells true (bE (Cn ls ls.length))))]:=if_neg hn0
    have bz:=qX ls row ls.length
    have lc:=hZ (ls:=ls) (Nat.le_refl _)
    have c1:=aNu (C:=Cn ls ls.length) (n:=ls.length) (by omega) (aJV ls _) h1
    have l3:=cY (C:=Cn ls ls.length) (n:=ls.length) (by omega) ls.length (Nat.le_refl _)
    have b3:=nT (C:=Cn ls ls.length) ls.length
    have c2:=w77 (row:=row+ls.length) l3 b3 (by omega)
    have zs:=uH (row:=row+ls.length) l3
    have nr:fP (iU (row+ls.length) (bZ (Cn ls ls.length) ls.length))=zP (row+ls.length) (bZ (Cn ls ls.length) ls.length):=rfl
    rw[nr]at c2
    rw[bI]at c1 c2
    have c3:=aLl (s:=zP (row+ls.length) (bZ (Cn ls ls.length) ls.length)) (a:=Bn ls row ls.length) (by omega) (by omega) (by omega)
    rw[zs]at c3
    have sz:(Bn ls row ls.length++zP (row+ls.length) (bZ (Cn ls ls.length) ls.length)).size=(Bn ls row ls.length).size+45:=by rw[ByteArray.size_append,zs]
    have c4:=w71 (a:=Bn ls row ls.length++zP (row+ls.length) (bZ (Cn ls ls.length) ls.length)) (by omega) (by omega)
    rw[sz]at c4
    have r1:IntKind.i64.wrap ((row:Int)+(ls.length:Int))=((row+ls.length:Nat):Int):=by rw[aG (by omega) (by omega)];omega
    have m1:=aM (bZ (Cn ls ls.length) ls.length)
    rw[l3]at m1
    have k5:=eA l3
    have k6:=fN l3
    have g5:=bD (bZ (Cn ls ls.length) ls.length)
    have gc:=bD (Cn ls ls.length)
    have fz:(ls.length*40≤(bE (Cn ls ls.length)).length)=True:=eq_true (by rw[aM,lc];exact Nat.le_refl _)
    have fl:=(aNh (C:=Cn ls ls.length) (n:=ls.length) (by omega)).1
    generalize Bn ls row ls.length++zP (row+ls.length) (bZ (Cn ls ls.length) ls.length)=T at *
    generalize zP (row+ls.length) (bZ (Cn ls ls.length) ls.length)=R at *
    generalize bZ (Cn ls ls.length) ls.length=f at *
    generalize (Bn ls row ls.length).size=sz at *
    generalize Bn ls row ls.length=B0 at *
    generalize Cn ls ls.length=C0 at *
    (sym=>(simp[Za,Zb,Zf,Zg,Zh,Zj,Zl,Zm,Zu,Z0,ZK,ZT,ZV,Ya,Yb,Yi,Yp,Yu,YG,YJ,YK,YM,YO,YZ,Xa,Xc,Xd,Xe,Xf,Xh,Xk,Xn,Xr,Xx,XI,XJ,XM,XV,Wd,Wg,Wj,Wk,Wm,Wn,Wo,Wp,Wq,Ws,Wt,Wu,Wv,Ww,Wx,Wy,Wz,WB,WC,WF,WG,WH,WI,WJ,WK,WL,WO,WP,WQ,WR,WS,WT,Vb,Vc,Vd,Ve,Vf,Vg,Vh,Vi,Vj,Vk,Vl,Vm,Vn,Vo,Vp,Vq,Vr,Vs,Vu,Vv,Vw,Vx,V0,V6,V8,VC,VD,VE,VF,VG,VI,VJ,VK,VL,VN,VP,VU,VW,VX,VZ,Uc,Ud,Ue,Uf,Ug,Uh,Ui,Ul,Um,U9,UN,UP,UQ,US,UU,UV,UZ,Tb,Tc,Tr,Ty,Tz,T2,T6,T7,T8,T9,TA,TB,TC,TH,TI,TJ,TK,TM,TN,TO,TP,TQ,s0,g0,e0,fz,fl,c1,c2,c3,c4,r1,m1,k5,k6,g5,gc,zs,rl,bX,bT,bV,bY,pY,pW,pX];all_goals tactic=>exact rfl))
   ·have s0:lS 0 = .nilsl:=rfl
    have g0:lG ls row 0=[some (.blk true (.cells true [.nilpt,.nilsl]))]:=rfl
    (sym=>(simp[Za,Y7,YG,YM,YP,Xa,Xf,Xi,Wd,Wl,Wn,Wq,Wr,Wt,Wu,Wv,Wx,Wz,WB,WC,WE,WJ,WK,WO,Vz,V4,V5,VC,VD,VF,VG,VI,VL,VX,Ud,Ue,Uf,Ug,Ta,Ts,TM,TN,s0,g0,rl];all_goals tactic=>exact rfl))
   ·intro i hi
    have i1:((i:Int)<(ls.length:Int))=True:=eq_true (by omega)
    have a2:=eS hi (by omega)
    obtain⟨s,hs⟩:=eC hi
    have hx:=gI hs
    have i2:(i<(rS ls).length)=True:=eq_true (by omega)
    have c1:=w44 s
    rw[bI]at c1
    have lf:=iZ s
    have c2:=w77 (row:=row+i) lf (tK s) (by omega)
    rw[bI]at c2
    have r1:IntKind.i64.wrap ((row:Int)+(i:Int))=((row+i:Nat):Int):=by rw[aG (by omega) (by omega)];omega
    have m1:=aM (jL s)
    rw[lf]at m1
    have k5:=eA lf
    have k6:=fN lf
    have g5:=bD (jL s)
    have c8:=fV (a:=nf 0) (b:=jL s) (by rw[lf];exact cS (by omega))
    have zs:=uH (row:=row+i) lf
    have nl:bO (bN s)=jL s:=rfl
    have nr:fP (iU (row+i) (jL s))=zP (row+i) (jL s):=rfl
    rw[nl]at c1
    rw[nr]at c2
    by_cases hi0:i=0
    ·subst hi0
     have s0:lS 0 = .nilsl:=rfl
     have g0:lG ls row 0=[some (.blk true (.cells true [.nilpt,.nilsl]))]:=rfl
     have cn:=aHG hs
     have cn0:Cn ls 0=[]:=rfl
     rw[cn0,List.nil_append]at cn
     have bn:=aJW (row:=row) hs
     have bn0:Bn ls row 0=⟨⟨[]⟩⟩:=rfl
     rw[bn0,aHv]at bn
     rw[Nat.add_zero]at c2 zs
     have bn:Bn ls row (0+1)=zP row (jL s):=bn
     have c3:=aNt (s:=zP row (jL s)) (by omega) (by omega)
     rw[zs]at c3
     have s1:lS (0+1) = .sl 2 0 40 1:=rfl
     have g1:lG ls row (0+1)=[some (.blk false (.cells true [.pt 0 0,.sb 1 (Bn ls row (0+1)).size])),some (.blk true (.cells true (iD (Bn ls row (0+1))))),some (.blk true (.cells true (bE (Cn ls (0+1)))))]:=rfl
     rw[s1,g1,cn,bn,zs]
     have j1:((0:Int)<(ls.length:Int))=True:=eq_true (by omega)
     have j2:(0<(rS ls).length)=True:=eq_true (by omega)
     have j3:IntKind.i64.wrap ((row:Int)+0)=(row:Int):=by rw[Int.add_zero];exact aG (by omega) (by omega)
     have j4:(0<ls.length)=True:=eq_true (by omega)
     generalize hR:zP row (jL s)=R at *
     generalize jL s=f at *
     (sym=>(simp[Za,Zb,Zd,Ze,Zf,Zg,Zh,Zj,Zl,Zm,Zo,Zu,Zy,Z0,ZD,ZL,ZT,ZV,ZZ,Ya,Yb,Yl,Ym,Yn,Yp,Yu,Y4,Y6,Y7,Y8,YG,YJ,YK,YM,YN,YO,YY,Xa,Xc,Xd,Xe,Xf,Xg,Xh,Xk,Xn,XM,Wb,Wd,We,Wf,Wg,Wj,Wk,Wm,Wn,Wo,Wp,Wq,Wr,Ws,Wt,Wu,Wv,Ww,Wx,Wy,Wz,WB,WC,WE,WF,WG,WH,WJ,WK,WL,WO,WP,WQ,WR,WS,WT,Ve,Vg,Vh,Vi,V0,V4,V5,V6,V7,VC,VD,VE,VF,VG,VI,VJ,VK,VL,VN,VU,VW,VX,VY,Ua,Ub,Uc,Ud,Ue,Uf,Ug,Ur,Us,Ut,Uz,U0,U1,U2,U3,U4,U5,U6,UA,UB,UC,UD,UE,UF,UI,UK,UL,UM,UN,UP,UR,UT,UU,UX,Ta,Tb,Tc,Ts,Tv,Ty,T6,T7,T8,T9,TA,TB,TC,TH,TJ,TM,TN,TO,TQ,s0,g0,j1,j2,j3,j4,hx,c1,c2,c3,m1,k5,k6,g5,c8,zs,rl,l0,gz,bX,bT,bV,bY,pY,pW,pX];all_goals tactic=>exact rfl))
    ·have s0:lS i = .sl 2 0 40 i:=if_neg hi0
     have g0:lG ls row i=[some (.blk false (.cells true [.pt 0 0,.sb 1 (Bn ls row i).size])),some (.blk true (.cells true (iD (Bn ls row i)))),some (.blk true (.cells true (bE (Cn ls i))))]:=if_neg hi0
     have s1:lS (i+1) = .sl 2 0 40 (i+1):=if_neg (by omega)
     have g1:lG ls row (i+1)=[some (.blk false (.cells true [.pt 0 0,.sb 1 (Bn ls row (i+1)).size])),some (.blk true (.cells true (iD (Bn ls row (i+1))))),some (.blk true (.cells true (bE (Cn ls (i+1)))))]:=if_neg (by omega)
     have bn:=aJW (row:=row) hs
     have bz:=qX ls row i
     have bs1:(Bn ls row (i+1)).size=(Bn ls row i).size+45:=by rw[bn,ByteArray.size_append,zs]
     have ap:=aEQ (Cn ls i) (jL s)
     rw[←aHG hs]at ap
     have ca:=aNo hs
     have lc:=aM (Cn ls i)
     rw[hZ (by omega)]at lc
     have lc1:=aM (Cn ls (i+1))
     rw[hZ (by omega)]at lc1
     have gc:=bD (Cn ls i)
     have gc1:=bD (Cn ls (i+1))
     have c3:=aLl (s:=zP (row+i) (jL s)) (a:=Bn ls row i) (by omega) (by omega) (by omega)
     rw[zs,←bn]at c3
     rw[s1,g1,bs1]
     have z2:((i+1)*40≤1099511627776)=True:=eq_true (by omega)
     have z3:(i+1≤1099511627776)=True:=eq_true (by omega)
     have z4:((i:Int)<((i+1:Nat):Int))=True:=eq_true (by omega)
     have z5:(i*40+40≤(i+1)*40)=True:=eq_true (by omega)
     generalize (Bn ls row i).size=sz at *
     generalize Bn ls row (i+1)=B1 at *
     generalize Bn ls row i=B0 at *
     generalize Cn ls (i+1)=C1 at *
     generalize Cn ls i=C0 at *
     generalize zP (row+i) (jL s)=R at *
     generalize jL s=f at *
     (sym=>(simp[Za,Zb,Zd,Ze,Zf,Zg,Zh,Zj,Zl,Zm,Zo,Zu,Zy,Z0,ZD,ZL,ZT,ZV,ZZ,Ya,Yb,Yl,Ym,Yn,Yp,Yu,Yz,Y2,YG,YJ,YK,YM,YN,YO,YY,Xa,Xc,Xd,Xe,Xf,Xg,Xh,Xk,Xn,XM,Wb,Wd,We,Wf,Wg,Wj,Wk,Wm,Wn,Wo,Wp,Wq,Wr,Ws,Wt,Wu,Wv,Ww,Wx,Wy,Wz,WB,WC,WE,WF,WG,WH,WI,WJ,WK,WL,WO,WP,WQ,WR,WS,WT,Ve,Vg,Vh,Vi,V0,V4,V5,V6,V7,VC,VD,VE,VF,VG,VI,VJ,VK,VL,VN,VU,VW,VX,VY,Ua,Ub,Uc,Ud,Ue,Uf,Ug,Ur,Us,Ut,Uz,U0,U1,U2,U3,U4,U5,U7,U8,UA,UB,UC,UD,UE,UF,UI,UJ,UK,UL,UN,UP,UR,UT,UU,UX,Ta,Tb,Tc,Tr,Ts,Tv,Ty,T6,T7,T8,T9,TA,TB,TC,TH,TJ,TM,TN,TO,TQ,s0,g0,i1,i2,a2,hx,c1,c2,c3,r1,m1,k5,k6,g5,c8,zs,rl,l0,gz,ap,ca,lc,lc1,gc,gc1,z2,z3,z4,z5,bX,bT,bV,bY,pY,pW,pX];all_goals tactic=>exact rfl))
   ·have e0:((ls.length:Int)<(ls.length:Int))=False:=eq_false (by omega)
    (sym=>(simp[Za,Zb,Zf,Zh,Zl,Zm,Z0,Yu,V0,V6,V8,V9,VZ,U9,UN,UP,US,UU,UV,Tb,e0];all_goals tactic=>exact rfl))
theorem q35 {vs:List AV} {h:XH} (hl:vs.length≤15):runW aH 35 vs h=cR none x35.res x35.ownR h.length (execW aH 35 h.length none x35.body (aP (if x35.ownA then vs else fY vs)) h):=bG rfl hl h rfl
theorem q14 {vs:List AV} {h:XH} (hl:vs.length≤45):runW aH 14 vs h=cR none x14.res x14.ownR h.length (execW aH 14 h.length none x14.body (aP (if x14.ownA then vs else fY vs)) h):=bG rfl hl h rfl
theorem p37 {xs:List AV} {h:XH}:runW aH 37 xs h=mN xs h:=fW rfl rfl xs h
def nC (f:Nat→Int):Nat→Int
 | 0=>0
 | n+1=>if nC f n=0 then f n else nC f n
theorem rJ (f:Nat→Int):∀ n,∃ m,m≤n∧(∀ i,i<m→f i=0)∧((m=n∧nC f n=0)∨(m<n∧f m≠0∧nC f n=f m))
 | 0=>⟨0,Nat.le_refl _,fun i hi=>absurd hi (by omega),.inl ⟨rfl,rfl⟩⟩
 | n+1=>by
   obtain⟨m,h1,h2,h3⟩:=rJ f n
   rcases h3 with ⟨rfl,h3⟩|⟨h4,h5,h6⟩
   ·by_cases hf:f m=0
    ·refine⟨m+1,Nat.le_refl _,fun i hi=>?_,.inl ⟨rfl,by rw[nC,if_pos h3,hf]⟩⟩
     by_cases him:i=m
     ·subst him;exact hf
     ·exact h2 i (by omega)
    ·exact⟨m,by omega,h2,.inr ⟨by omega,hf,by rw[nC,if_pos h3]⟩⟩
   ·exact⟨m,by omega,h2,.inr ⟨by omega,h5,by rw[nC,if_neg (by rw[h6];exact h5),h6]⟩⟩
theorem w35 (lo n hi:Int):runW aH 35 [I lo,I n,I hi] []=some (.bool (decide (lo≤n)&&decide (n≤hi)),[]):=by
 rw[q35 (by simp)];unfold x35;dsimp only
 rcases tE (lo≤n)with h1|h1
 ·have d1:decide (lo≤n)=true:=by simp[h1]
  (sym=>(simp[Za,Zb,Zf,Zh,Zl,Zm,Zp,Zq,Zu,Zw,Z0,Yc,Yv,YH,Xb,Xm,XK,XL,Wl,Wt,Wx,Wy,WB,WC,Ve,Vm,Vn,Vo,Vp,Vq,Vr,Vs,Vu,Vv,Vw,Vx,Vz,VB,VD,VG,VI,VK,VM,VY,Uc,Ud,Ue,Un,Uo,UN,UP,UQ,UU,Tb,Tc,Ty,h1,d1];all_goals tactic=>exact rfl))
 ·have d1:decide (lo≤n)=false:=by simp[h1]
  (sym=>(simp[Za,Zb,Zf,Zh,Zl,Zm,Zp,Zs,Zu,Zw,Z0,Yd,Yv,YH,Xb,Xm,XK,XL,Wl,Wt,Wx,Wy,WB,WC,Ve,Vm,Vn,Vo,Vp,Vq,Vr,Vs,Vu,Vv,Vw,Vx,Vz,VB,VD,VG,VI,VK,VO,VZ,Uc,Ud,Ue,Un,Uo,UN,UP,UQ,UU,Tb,Tc,Ty,h1,d1];all_goals tactic=>exact rfl))
def lnE (s:ByteArray):Int:=if 40<s.size then 14 else if s.size=0||(iK s.data.toList||Lib.hasSuffix s.data.toList [32]) then 13 else 0
def fM:ByteArray:=⟨#[]⟩
def lsE (ls:List ByteArray):Int:=nC (fun i=>lnE (ls.getD i fM)) ls.length
def pgE (ls:List ByteArray) (row:Int):Int:=if (decide (0≤row)&&decide (row≤1000))=true then (if ls.length=0 then 4 else if 5<ls.length then 1 else lsE ls) else 2
def pgB (ls:List ByteArray) (row:Nat):ByteArray:=Bn ls row ls.length++zP (row+ls.length) (bZ (Cn ls ls.length) ls.length)
theorem aCN (s:ByteArray):s.toList=s.data.toList:=ByteArray.toList_eq s
theorem lM (s:ByteArray):(s.toList==(⟨#[]⟩:ByteArray).toList)=decide (s.size=0):=by
 rw[aCN,aCN]
 cases s with
 | mk d =>
   cases d with
   | mk l=>cases l<;>rfl
theorem aJj {s:ByteArray} (hs:s.size≤1000000):runW aH 37 [.str s,.str ⟨#[32]⟩] []=some (.bool (Lib.hasSuffix s.data.toList [32]),[]):=by
 rw[p37];unfold mN;dsimp only;rw[if_pos hs]
theorem aBf {s:ByteArray} (h:40<s.size):lnE s=14:=by rw[lnE,if_pos h]
theorem w14 {ls:List ByteArray} {row:Int} (hn:ls.length≤1000) (hz:∀ s∈ls,s.size≤1000000):runW aH 14 [.fs (rS ls),I row] []=some (.tup [.str (if pgE ls row=0 then pgB ls row.toNat else fM),I (pgE ls row)],[]):=by
 rw[q14 (by simp)];unfold x14;dsimp only
 have rl:=jK ls
 have c1:=w35 0 row 1000
 unfold pgE
 cases hb:decide (0≤row)&&decide (row≤1000)with
 | false =>
   rw[hb]at c1
   have hE:fM=⟨#[]⟩:=rfl
   (sym=>(simp[Za,Zb,Zf,Zg,Zh,Zj,Zl,Zm,Zu,Z8,ZT,ZV,Ya,Yb,Yf,YG,YJ,YL,Xa,Xb,Xc,Xe,Xl,Xn,Xp,XK,XM,XO,XV,Wk,Wl,Wt,Ww,Wx,Wy,WB,WC,WF,WG,WQ,WR,WS,Ve,Vg,Vh,Vi,Vm,Vn,Vo,Vp,Vq,Vr,Vt,Vu,Vv,Vw,Vx,Vz,V6,V7,VB,VC,VD,VF,VG,VI,VK,VR,Uc,Ud,Ue,Uf,Ug,Uj,Uk,Un,Uo,UP,UQ,UT,UU,UW,UY,Tb,Tc,Ty,T7,T8,T9,TA,TB,TC,c1,hE];all_goals tactic=>exact rfl))
 | true =>
   rw[hb]at c1
   rcases tE (ls.length=0)with h0|h0
   ·have h0':=of_eq_true h0
    have z0:((ls.length:Int)=0)=True:=eq_true (by omega)
    have hE:fM=⟨#[]⟩:=rfl
    (sym=>(simp[Za,Zb,Zf,Zg,Zh,Zj,Zl,Zm,Zu,Z0,Z8,ZK,ZT,ZV,Ya,Yb,Yf,Yi,Ys,YG,YJ,YL,Xa,Xb,Xc,Xe,Xl,Xn,Xp,XK,XM,XO,XV,Wk,Wl,Wt,Ww,Wx,Wy,WB,WC,WF,WG,WQ,WR,WS,Ve,Vg,Vh,Vi,Vm,Vn,Vo,Vp,Vq,Vr,Vt,Vu,Vv,Vw,Vx,Vz,V6,V7,V8,VB,VC,VD,VF,VG,VI,VK,VQ,VY,Uc,Ud,Ue,Uf,Ug,Uj,Uk,Un,Uo,UN,UP,UQ,UT,UU,UW,UY,Tb,Tc,Ty,T7,T8,T9,TA,TB,TC,c1,rl,h0,z0,hE];all_goals tactic=>exact rfl))
   ·have h0':=of_eq_false h0
    have z0:((ls.length:Int)=0)=False:=eq_false (by omega)
    rcases tE (5<ls.length)with h5|h5
    ·have h5':=of_eq_true h5
     have z5:((5:Int)<(ls.length:Int))=True:=eq_true (by omega)
     have hE:fM=⟨#[]⟩:=rfl
     (sym=>(simp[Za,Zb,Zf,Zg,Zh,Zj,Zl,Zm,Zu,Z0,Z8,ZK,ZT,ZV,Ya,Yb,Yf,Yi,Ys,Yw,YG,YJ,YL,Xa,Xb,Xc,Xe,Xl,Xn,Xp,XK,XM,XO,XV,Wk,Wl,Wt,Ww,Wx,Wy,WB,WC,WF,WG,WQ,WR,WS,Ve,Vg,Vh,Vi,Vm,Vn,Vo,Vp,Vq,Vr,Vt,Vu,Vv,Vw,Vx,Vz,V6,V7,V8,VB,VC,VD,VF,VG,VI,VK,VQ,VY,VZ,Uc,Ud,Ue,Uf,Ug,Uj,Uk,Un,Uo,UN,UP,UQ,UT,UU,UW,UY,Tb,Tc,Ty,T7,T8,T9,TA,TB,TC,c1,rl,h0,z0,h5,z5,hE];all_goals tactic=>exact rfl))
    ·have h5':=of_eq_false h5
     have z5:((5:Int)<(ls.length:Int))=False:=eq_false (by omega)
     unfold lsE
     obtain⟨m,m1,m2,m3⟩:=rJ (fun i=>lnE (ls.getD i fM)) ls.length
     have e0:((ls.length:Int)<(ls.length:Int))=False:=eq_false (by omega)
     simp only[Bool.and_eq_true,decide_eq_true_eq]at hb
     obtain⟨R,hR⟩:∃ R:Nat,row=(R:Int):=⟨row.toNat,by omega⟩
     have hR1:row.toNat=R:=by omega
     rw[hR1]
     subst hR
     have w:=w38 (ls:=ls) (row:=R) (by omega) (by omega) (by omega)
     have hE:fM=⟨#[]⟩:=rfl
     have hP:Bn ls R ls.length++zP (R+ls.length) (bZ (Cn ls ls.length) ls.length)=pgB ls R:=rfl
     rw[hP]at w
     generalize pgB ls R=P at *
     sym =>
      simp[Za,Zb,Zf,Zg,Zh,Zj,Zl,Zm,Zu,Z0,Z8,ZK,ZT,ZV,Ya,Yb,Yf,Yi,Ys,Yw,YG,Xa,Xb,Xl,XK,XV,Wk,Wl,Wt,Ww,Wy,WF,WG,WQ,WR,WS,Ve,Vg,Vh,Vi,Vz,V6,V8,VB,VC,VD,VF,VG,VK,VQ,VZ,Uc,Ud,Ue,Uf,Ug,Un,Uo,UN,UP,UR,UT,UU,UX,Tb,Tc,Ty,T7,T8,T9,TA,TB,TC,c1,rl,h0,z0,h5,z5]
      tactic =>
       unfold aHY
       rw[aY m (fun i=>[.fs (rS ls),I (R:Int),.fs (rS ls),I (ls.length:Nat),I (i:Nat)]) (fun _=>[])]
       ·rcases m3 with ⟨rfl,hf⟩|⟨hm,hf,hF⟩
        ·rw[hf]
         (sym=>(simp[Za,Zb,Zf,Zg,Zh,Zj,Zl,Zm,Zu,Z0,ZT,ZV,Ya,Yb,Yu,YG,YJ,YL,YM,Xa,Xc,Xe,Xf,Xl,Xn,Xp,Xq,XK,XM,XO,XV,Wk,Wt,Ww,Wx,Wy,WB,WC,WF,WG,WQ,WR,WS,Ve,Vg,Vh,Vi,Vm,Vn,Vo,Vp,Vq,Vr,Vt,Vu,Vv,Vw,Vx,V0,V6,V8,VC,VD,VF,VG,VI,VK,VZ,Uc,Ud,Ue,Uf,Ug,Uj,Uk,Un,Uo,U9,UN,UP,UQ,US,UU,UV,UZ,Tb,Tc,Ty,T7,T8,T9,TA,TB,TC,e0,w];all_goals tactic=>exact rfl))
        ·rw[hF]
         obtain⟨s,hs⟩:=eC hm
         have hx:=gI hs
         have g1:ls.getD m fM=s:=by rw[List.getD_eq_getElem?_getD,hs];rfl
         rw[g1]at hf ⊢
         have i1:((m:Int)<(ls.length:Int))=True:=eq_true (by omega)
         have i2:(m<(rS ls).length)=True:=eq_true (by omega)
         have c2:=w36 s
         have c3:=aJj (hz s (List.mem_of_getElem? hs))
         have em:=lM s
         have eq1:=eI s ⟨#[]⟩
         rw[em]at eq1
         rcases tE (40<s.size)with k1|k1
         ·have k2:((40:Int)<(s.size:Int))=True:=eq_true (by have:=of_eq_true k1;omega)
          rw[aBf (of_eq_true k1)]
          (sym=>(simp[Za,Zb,Zf,Zh,Zl,Zm,Zu,Z0,ZD,ZK,ZL,Yk,Ym,Yn,Yu,Yw,Yz,Y2,YG,YJ,YL,Xa,Xc,Xe,Xl,Xn,Xp,XK,XM,XO,Wm,Wt,Wx,Wy,WB,WC,Ve,Vm,Vn,Vo,Vp,Vq,Vr,Vt,Vu,Vv,Vw,Vx,V0,V6,V7,VD,VG,VI,VJ,VK,VU,VY,Uc,Ud,Ue,Uf,Ug,Uj,Uk,Un,Uo,UC,UD,UF,UN,UP,UQ,UR,UT,UU,UW,UY,Tb,Tc,Ty,rl,i1,i2,hx,k2,hE];all_goals tactic=>exact rfl))
         ·have k2:((40:Int)<(s.size:Int))=False:=eq_false (by have:=of_eq_false k1;omega)
          have hL:lnE s=13:=by
           unfold lnE at hf ⊢
           rw[if_neg (of_eq_false k1)]at hf ⊢
           split
           ·rfl
           ·rename_i hc;rw[if_neg hc]at hf;exact absurd rfl hf
          unfold lnE at hf
          rw[if_neg (of_eq_false k1)]at hf
          rw[hL]
          cases hz:decide (s.size=0)with
          | true =>
            rw[hz]at eq1
            (sym=>(simp[Za,Zb,Zf,Zh,Zl,Zm,Zp,Zt,Zu,Zw,Z0,ZD,ZK,ZL,Yc,Yk,Ym,Yn,Yu,Yw,Yz,Y2,YG,YJ,YL,Xa,Xc,Xe,Xl,Xn,Xp,XK,XM,XO,Wm,Wt,Wx,Wy,WB,WC,Ve,Vm,Vn,Vo,Vp,Vq,Vr,Vt,Vu,Vv,Vw,Vx,V0,V6,V7,V8,VD,VG,VI,VJ,VK,VU,VY,VZ,Uc,Ud,Ue,Uf,Ug,Uj,Uk,Un,Uo,UC,UD,UF,UN,UO,UP,UQ,UR,UT,UU,UW,UY,Tb,Tc,Ty,rl,i1,i2,hx,k2,hE,eq1];all_goals tactic=>exact rfl))
          | false =>
            rw[hz]at eq1
            cases hu:iK s.data.toList with
            | true =>
              rw[hu]at c2
              (sym=>(simp[Za,Zb,Zf,Zh,Zl,Zm,Zp,Zr,Zt,Zu,Zw,Z0,ZD,ZK,ZL,ZT,ZV,Ya,Yb,Yc,Yd,Yk,Ym,Yn,Yu,Yw,Yz,Y2,YG,YJ,YL,Xa,Xb,Xc,Xe,Xl,Xn,Xp,XK,XM,XO,Wk,Wm,Wt,Ww,Wx,Wy,WB,WC,WF,WG,WQ,WR,WS,Ve,Vm,Vn,Vo,Vp,Vq,Vr,Vt,Vu,Vv,Vw,Vx,V0,V6,V7,V8,VC,VD,VF,VG,VI,VJ,VK,VU,VY,VZ,Uc,Ud,Ue,Uf,Ug,Uj,Uk,Un,Uo,UC,UD,UF,UN,UO,UP,UQ,UR,UT,UU,UW,UY,Tb,Tc,Ty,rl,i1,i2,hx,k2,hE,eq1,c2];all_goals tactic=>exact rfl))
            | false =>
              rw[hu]at c2
              cases hh:Lib.hasSuffix s.data.toList [32]with
              | true =>
                rw[hh]at c3
                (sym=>(simp[Za,Zb,Zf,Zh,Zl,Zm,Zp,Zr,Zu,Zw,Z0,ZD,ZK,ZL,ZT,ZV,Ya,Yb,Yd,Yk,Ym,Yn,Yu,Yw,Yz,Y2,YG,YJ,YL,Xa,Xb,Xc,Xe,Xl,Xn,Xp,XK,XM,XO,Wk,Wm,Wt,Ww,Wx,Wy,WB,WC,WF,WG,WQ,WR,WS,Ve,Vm,Vn,Vo,Vp,Vq,Vr,Vt,Vu,Vv,Vw,Vx,V0,V6,V7,V8,VC,VD,VF,VG,VI,VJ,VK,VU,VY,VZ,Uc,Ud,Ue,Uf,Ug,Uj,Uk,Un,Uo,UC,UD,UF,UN,UO,UP,UQ,UR,UT,UU,UW,UY,Tb,Tc,Ty,rl,i1,i2,hx,k2,hE,eq1,c2,c3];all_goals tactic=>exact rfl))
              | false =>
                rw[hz,hu,hh]at hf
                exact absurd rfl hf
       ·(sym=>(simp[Za,Y7,YG,YM,Xa,Xf,XK,Wl,Wt,Wx,Wy,WB,WC,Vz,V4,V5,VC,VD,VG,VI,Uc,Ud,Ue,Uf,Ug,Ta,T8,T9,rl];all_goals tactic=>exact rfl))
       ·intro i hi
        obtain⟨s,hs⟩:=eC (l:=ls) (i:=i) (by omega)
        have hx:=gI hs
        have g1:ls.getD i fM=s:=by rw[List.getD_eq_getElem?_getD,hs];rfl
        have hf:=m2 i hi
        rw[g1]at hf
        have i1:((i:Int)<(ls.length:Int))=True:=eq_true (by omega)
        have a2:=eS (n:=ls.length) (i:=i) (by omega) (by omega)
        have i2:(i<(rS ls).length)=True:=eq_true (by omega)
        have c2:=w36 s
        have c3:=aJj (hz s (List.mem_of_getElem? hs))
        have em:=lM s
        have eq1:=eI s ⟨#[]⟩
        rw[em]at eq1
        unfold lnE at hf
        split at hf
        ·exact absurd hf (by decide)
        ·rename_i k1
         have k2:((40:Int)<(s.size:Int))=False:=eq_false (by omega)
         split at hf
         ·exact absurd hf (by decide)
         ·rename_i hc
          simp only[Bool.or_eq_true,not_or,Bool.not_eq_true]at hc
          obtain⟨hz,hu,hh⟩:=hc
          rw[hz]at eq1
          rw[hu]at c2
          rw[hh]at c3
          (sym=>(simp[Za,Zb,Zf,Zh,Zl,Zm,Zp,Zr,Zu,Zw,Z0,ZD,ZK,ZL,ZT,ZV,Ya,Yb,Yd,Yk,Ym,Yn,Yp,Yu,Yw,Yz,Y2,YG,YJ,YM,Xa,Xb,Xc,Xf,Wk,Wm,Wt,Ww,Wx,Wy,WB,WC,WF,WG,WQ,WR,WS,V0,V4,V5,V6,V7,V8,VC,VD,VF,VG,VI,VJ,VK,VU,VY,VZ,Uc,Ud,Ue,Uf,Ug,UC,UD,UF,UN,UO,UP,UR,UT,UU,UX,Ta,Tb,Tc,rl,i1,i2,a2,hx,k2,eq1,c2,c3];all_goals tactic=>exact rfl))
       ·rcases m3 with ⟨rfl,hf⟩|⟨hm,hf,hF⟩
        ·(sym=>(simp[Za,Zb,Zf,Zh,Zl,Zm,Z0,Yu,V0,V6,V8,V9,VZ,U9,UN,UP,US,UU,UV,Tb,e0];all_goals tactic=>exact rfl))
        ·obtain⟨s,hs⟩:=eC hm
         have hx:=gI hs
         have g1:ls.getD m fM=s:=by rw[List.getD_eq_getElem?_getD,hs];rfl
         rw[g1]at hf
         have i1:((m:Int)<(ls.length:Int))=True:=eq_true (by omega)
         have i2:(m<(rS ls).length)=True:=eq_true (by omega)
         have c2:=w36 s
         have c3:=aJj (hz s (List.mem_of_getElem? hs))
         have em:=lM s
         have eq1:=eI s ⟨#[]⟩
         rw[em]at eq1
         rcases tE (40<s.size)with k1|k1
         ·have k2:((40:Int)<(s.size:Int))=True:=eq_true (by have:=of_eq_true k1;omega)
          (sym=>(simp[Za,Zb,Zf,Zh,Zl,Zm,Zu,Z0,ZD,ZK,ZL,Yk,Ym,Yn,Yu,Yw,Yz,Y2,Wm,V0,V6,V7,VA,VJ,VK,VU,VY,UC,UD,UF,UN,UP,UQ,UR,UT,UU,UW,UY,Tb,Tc,rl,i1,i2,hx,k2,hE];all_goals tactic=>exact rfl))
         ·have k2:((40:Int)<(s.size:Int))=False:=eq_false (by have:=of_eq_false k1;omega)
          unfold lnE at hf
          rw[if_neg (of_eq_false k1)]at hf
          cases hz:decide (s.size=0)with
          | true =>
            rw[hz]at eq1
            (sym=>(simp[Za,Zb,Zf,Zh,Zl,Zm,Zp,Zt,Zu,Zw,Z0,ZD,ZK,ZL,Yc,Yk,Ym,Yn,Yu,Yw,Yz,Y2,Wm,V0,V6,V7,V8,VA,VJ,VK,VU,VY,VZ,UC,UD,UF,UN,UO,UP,UQ,UR,UT,UU,UW,UY,Tb,Tc,rl,i1,i2,hx,k2,hE,eq1];all_goals tactic=>exact rfl))
          | false =>
            rw[hz]at eq1
            cases hu:iK s.data.toList with
            | true =>
              rw[hu]at c2
              (sym=>(simp[Za,Zb,Zf,Zh,Zl,Zm,Zp,Zr,Zt,Zu,Zw,Z0,ZD,ZK,ZL,ZT,ZV,Ya,Yb,Yc,Yd,Yk,Ym,Yn,Yu,Yw,Yz,Y2,YJ,Xb,Xc,Wk,Wm,Wt,Ww,Wy,WF,WG,WQ,WR,WS,V0,V6,V7,V8,VA,VC,VD,VF,VG,VJ,VK,VU,VY,VZ,Uc,Ud,Ue,Uf,Ug,UC,UD,UF,UN,UO,UP,UQ,UR,UT,UU,UW,UY,Tb,Tc,rl,i1,i2,hx,k2,hE,eq1,c2];all_goals tactic=>exact rfl))
            | false =>
              rw[hu]at c2
              cases hh:Lib.hasSuffix s.data.toList [32]with
              | true =>
                rw[hh]at c3
                (sym=>(simp[Za,Zb,Zf,Zh,Zl,Zm,Zp,Zr,Zu,Zw,Z0,ZD,ZK,ZL,ZT,ZV,Ya,Yb,Yd,Yk,Ym,Yn,Yu,Yw,Yz,Y2,YJ,Xb,Xc,Wk,Wm,Wt,Ww,Wy,WF,WG,WQ,WR,WS,V0,V6,V7,V8,VA,VC,VD,VF,VG,VJ,VK,VU,VY,VZ,Uc,Ud,Ue,Uf,Ug,UC,UD,UF,UN,UO,UP,UQ,UR,UT,UU,UW,UY,Tb,Tc,rl,i1,i2,hx,k2,hE,eq1,c2,c3];all_goals tactic=>exact rfl))
              | false =>
                rw[hz,hu,hh]at hf
                exact absurd rfl hf
theorem q16 {vs:List AV} {h:XH} (hl:vs.length≤121):runW aH 16 vs h=cR none x16.res x16.ownR h.length (execW aH 16 h.length none x16.body (aP (if x16.ownA then vs else fY vs)) h):=bG rfl hl h rfl
def aHJ:XCode:=(.loop [0,1,4,5,7,8,9,35,36] (.seq (.reg [] false [⟨0,(some 37),(.bin .lss (.t 36) (.t 35)),none⟩]) (.seq (.cond (.t 37) .skip (.exit 1)) (.seq (.block 2 (.seq (.reg [] false [⟨0,(some 38),(.mv (.t 36)),none⟩,⟨0,(some 10),(.mv (.t 38)),none⟩]) (.seq (.reg [] false [⟨0,(some 40),(.mv (.t 0)),none⟩,⟨0,(some 41),(.mv (.t 10)),none⟩,⟨0,(some 42),(.bin .mul (.t 41) (.c (.int .i64 45))),none⟩,⟨0,(some 43),(.mv (.t 10)),none⟩,⟨0,(some 44),(.bin .add (.t 43) (.c (.int .i64 1))),none⟩,⟨0,(some 45),(.bin .mul (.t 44) (.c (.int .i64 45))),none⟩,⟨0,(some 46),(.slstr (.t 40) (some (.t 42)) (some (.t 45))),none⟩,⟨0,(some 47),(.mv (.t 1)),none⟩,⟨0,(some 48),(.mv (.t 10)),none⟩,⟨0,(some 49),(.bin .add (.t 47) (.t 48)),none⟩,⟨0,(some 50),(.callf false (.c (.fn (.func 42) [] [])) [(.t 46),(.t 49)] []),none⟩,⟨0,(some 39),(.mv (.t 50)),none⟩,⟨0,(some 51),(.ext (.t 39) 0),none⟩,⟨0,(some 52),(.ext (.t 39) 1),none⟩,⟨0,(some 11),(.alloc (bE (nf 0))),none⟩,⟨0,none,(.store 40 (.t 11) (.t 51) []),none⟩,⟨0,(some 12),(.mv (.t 52)),none⟩]) (.seq (.seq (.reg [] false [⟨0,(some 53),(.mv (.t 12)),none⟩,⟨0,(some 54),(.not (.t 53)),none⟩]) (.cond (.t 54) (.seq (.reg [] false [⟨0,(some 55),(.mv (.t 10)),none⟩,⟨0,(some 9),(.mv (.t 55)),none⟩]) (.reg [] false [⟨0,(some 56),(.mv (.t 5)),none⟩,⟨0,(some 57),(.bin .add (.t 56) (.c (.int .i64 1))),none⟩,⟨0,(some 5),(.mv (.t 57)),none⟩])) .skip)) (.reg [] false [⟨0,(some 58),(.mv (.t 8)),none⟩,⟨0,(some 59),(.load true 40 (.t 11)),none⟩,⟨0,(some 60),(.bslice 40 1 (bE (nf 0)) [(0,(40,(.t 59)))]),none⟩,⟨0,(some 61),(.app 40 40 (.t 58) (.t 60)),none⟩,⟨0,(some 8),(.mv (.t 61)),none⟩]))))) (.reg [] false [⟨0,(some 62),(.bin .add (.t 36) (.c (.int .i64 1))),none⟩,⟨0,(some 36),(.mv (.t 62)),none⟩])))))
def aHI:XCode:=(.loop [4,5,105,106,107] (.seq (.reg [] false [⟨0,(some 108),(.bin .lss (.t 107) (.t 106)),none⟩]) (.seq (.cond (.t 108) .skip (.exit 4)) (.seq (.block 5 (.seq (.reg [] false [⟨0,(some 109),(.idx 40 (.t 105) (.t 107)),none⟩,⟨0,(some 110),(.load true 40 (.t 109)),none⟩,⟨0,(some 15),(.alloc (bE (nf 0))),none⟩,⟨0,none,(.store 40 (.t 15) (.t 110) []),none⟩]) (.reg [] false [⟨0,(some 111),(.mv (.t 4)),none⟩,⟨0,(some 112),(.load true 40 (.t 15)),none⟩,⟨0,(some 113),(.callf false (.c (.fn (.func 46) [] [])) [(.t 112)] []),none⟩,⟨0,(some 114),(.bslice 1 1 [(.str ⟨#[]⟩)] [(0,(1,(.t 113)))]),none⟩,⟨0,(some 115),(.app 1 16 (.t 111) (.t 114)),none⟩,⟨0,(some 4),(.mv (.t 115)),none⟩]))) (.reg [] false [⟨0,(some 116),(.bin .add (.t 107) (.c (.int .i64 1))),none⟩,⟨0,(some 107),(.mv (.t 116)),none⟩])))))
def aIC:XCode:=(.seq (.seq (.reg [] false [⟨0,(some 103),(.mv (.t 8)),none⟩,⟨0,(some 104),(.mv (.t 13)),none⟩,⟨0,(some 105),(.slsl 40 (.t 103) none (some (.t 104))),none⟩,⟨0,(some 106),(.len false (.t 105)),none⟩,⟨0,(some 107),(.mv (.c (.int .i64 0))),none⟩]) (.block 4 aHI)) (.seq (.seq (.reg [(4,false)] false [⟨0,(some 117),(.mv (.t 4)),none⟩,⟨0,(some 118),(.callf false (.c (.fn (.func 47) [] [])) [(.t 117),(.c (.str ⟨#[]⟩))] []),none⟩]) (.cond (.t 118) (.seq (.reg [] false [⟨0,(some 4),(.mv (.c .nilsl)),none⟩,⟨0,(some 5),(.mv (.c (.int .i64 0))),none⟩,⟨0,(some 6),(.mv (.c (.int .i64 13))),none⟩]) .ret) .skip)) (.seq (.reg [] false [⟨0,(some 119),(.mv (.t 4)),none⟩,⟨0,(some 120),(.mv (.t 5)),none⟩,⟨0,(some 4),(.mv (.t 119)),none⟩,⟨0,(some 5),(.mv (.t 120)),none⟩,⟨0,(some 6),(.mv (.c (.int .i64 0))),none⟩]) .ret)))
def aJY:XCode:=(.seq (.reg [] false [⟨0,(some 4),(.mv (.c .nilsl)),none⟩,⟨0,(some 5),(.mv (.c (.int .i64 0))),none⟩,⟨0,(some 6),(.mv (.c (.int .i64 0))),none⟩]) (.seq (.reg [] false [⟨0,(some 16),(.mv (.t 0)),none⟩,⟨0,(some 17),(.len true (.t 16)),none⟩,⟨0,(some 18),(.bin .quo (.t 17) (.c (.int .i64 45))),none⟩,⟨0,(some 7),(.mv (.t 18)),none⟩]) (.seq (.block 0 (.seq (.reg [] false [⟨0,(some 20),(.mv (.t 1)),none⟩,⟨0,(some 21),(.callf false (.c (.fn (.func 35) [] [])) [(.c (.int .i64 0)),(.t 20),(.c (.int .i64 1000))] []),none⟩,⟨0,(some 22),(.not (.t 21)),none⟩,⟨0,(some 19),(.mv (.t 22)),none⟩]) (.cond (.t 19) (.seq (.reg [] false [⟨0,(some 4),(.mv (.c .nilsl)),none⟩,⟨0,(some 5),(.mv (.c (.int .i64 0))),none⟩,⟨0,(some 6),(.mv (.c (.int .i64 2))),none⟩]) .ret) (.seq (.reg [] false [⟨0,(some 24),(.mv (.t 0)),none⟩,⟨0,(some 25),(.len true (.t 24)),none⟩,⟨0,(some 26),(.bin .rem (.t 25) (.c (.int .i64 45))),none⟩,⟨0,(some 27),(.bin .neq (.t 26) (.c (.int .i64 0))),none⟩,⟨0,(some 28),(.mv (.t 27)),none⟩,⟨0,(some 29),(.mv (.t 7)),(some (28,false))⟩,⟨0,(some 30),(.bin .lss (.t 29) (.c (.int .i64 2))),(some (28,false))⟩,⟨0,(some 31),(.pick (.t 28) (.c (.bool true)) (.t 30)),none⟩,⟨0,(some 23),(.mv (.t 31)),none⟩]) (.cond (.t 23) (.seq (.reg [] false [⟨0,(some 4),(.mv (.c .nilsl)),none⟩,⟨0,(some 5),(.mv (.c (.int .i64 0))),none⟩,⟨0,(some 6),(.mv (.c (.int .i64 20))),none⟩]) .ret) (.seq (.reg [] false [⟨0,(some 33),(.mv (.t 7)),none⟩,⟨0,(some 34),(.bin .gtr (.t 33) (.c (.int .i64 6))),none⟩,⟨0,(some 32),(.mv (.t 34)),none⟩]) (.cond (.t 32) (.seq (.reg [] false [⟨0,(some 4),(.mv (.c .nilsl)),none⟩,⟨0,(some 5),(.mv (.c (.int .i64 0))),none⟩,⟨0,(some 6),(.mv (.c (.int .i64 1))),none⟩]) .ret) .skip))))))) (.seq (.reg [] false [⟨0,(some 8),(.mv (.c .nilsl)),none⟩]) (.seq (.reg [] false [⟨0,(some 9),(.mv (.c (.int .i64 (-1)))),none⟩]) (.seq (.seq (.reg [] false [⟨0,(some 35),(.mv (.t 7)),none⟩,⟨0,(some 36),(.mv (.c (.int .i64 0))),none⟩]) (.block 1 aHJ)) (.seq (.reg [] false [⟨0,(some 63),(.mv (.t 7)),none⟩,⟨0,(some 64),(.bin .sub (.t 63) (.c (.int .i64 1))),none⟩,⟨0,(some 13),(.mv (.t 64)),none⟩]) (.seq (.block 3 (.seq (.reg [] false [⟨0,(some 66),(.mv (.t 5)),none⟩,⟨0,(some 67),(.bin .gtr (.t 66) (.c (.int .i64 1))),none⟩,⟨0,(some 65),(.mv (.t 67)),none⟩]) (.cond (.t 65) (.seq (.reg [] false [⟨0,(some 4),(.mv (.c .nilsl)),none⟩,⟨0,(some 5),(.mv (.c (.int .i64 0))),none⟩,⟨0,(some 6),(.mv (.c (.int .i64 19))),none⟩]) .ret) (.seq (.reg [] true [⟨0,(some 69),(.mv (.t 5)),none⟩,⟨1,(some 70),(.bin .eql (.t 69) (.c (.int .i64 0))),none⟩,⟨2,(some 71),(.mv (.t 70)),none⟩,⟨3,(some 72),(.mv (.t 8)),(some (71,true))⟩,⟨4,(some 73),(.mv (.t 13)),(some (71,true))⟩,⟨5,(some 74),(.slsl 40 (.t 72) none (some (.t 73))),(some (71,true))⟩,⟨7,(some 76),(.mv (.t 8)),(some (71,true))⟩,⟨8,(some 77),(.mv (.t 13)),(some (71,true))⟩,⟨9,(some 78),(.idx 40 (.t 76) (.t 77)),(some (71,true))⟩,⟨10,(some 79),(.load true 40 (.t 78)),(some (71,true))⟩,⟨6,(some 75),(.callf false (.c (.fn (.func 43) [] [])) [(.t 74)] [10]),(some (71,true))⟩,⟨11,(some 80),(.eqag true (List.replicate 40 0) (.t 75) (.t 79)),(some (71,true))⟩,⟨12,(some 81),(.pick (.t 71) (.t 80) (.c (.bool false))),none⟩,⟨13,(some 68),(.mv (.t 81)),none⟩]) (.cond (.t 68) (.seq (.reg [] false [⟨0,(some 4),(.mv (.c .nilsl)),none⟩,⟨0,(some 5),(.mv (.c (.int .i64 0))),none⟩,⟨0,(some 6),(.mv (.c (.int .i64 22))),none⟩]) .ret) (.seq (.reg [] false [⟨0,(some 83),(.mv (.t 9)),none⟩,⟨0,(some 84),(.mv (.t 13)),none⟩,⟨0,(some 85),(.bin .sub (.t 84) (.c (.int .i64 1))),none⟩,⟨0,(some 86),(.callf false (.c (.fn (.func 35) [] [])) [(.c (.int .i64 0)),(.t 83),(.t 85)] []),none⟩,⟨0,(some 82),(.mv (.t 86)),none⟩]) (.cond (.t 82) (.seq (.reg [] false [⟨0,(some 87),(.mv (.t 8)),none⟩,⟨0,(some 88),(.mv (.t 9)),none⟩,⟨0,(some 89),(.callf false (.c (.fn (.func 44) [] [])) [(.c (.str ⟨#[]⟩))] []),none⟩,⟨0,(some 90),(.idx 40 (.t 87) (.t 88)),none⟩,⟨0,none,(.store 40 (.t 90) (.t 89) []),none⟩]) (.reg [] true [⟨0,(some 91),(.mv (.t 8)),none⟩,⟨1,(some 92),(.mv (.t 9)),none⟩,⟨2,(some 93),(.mv (.t 8)),none⟩,⟨3,(some 94),(.mv (.t 13)),none⟩,⟨4,(some 95),(.idx 40 (.t 93) (.t 94)),none⟩,⟨5,(some 96),(.load true 40 (.t 95)),none⟩,⟨6,(some 97),(.mv (.t 8)),none⟩,⟨7,(some 98),(.mv (.t 13)),none⟩,⟨8,(some 99),(.slsl 40 (.t 97) none (some (.t 98))),none⟩,⟨9,(some 100),(.callf false (.c (.fn (.func 43) [] [])) [(.t 99)] [5]),none⟩,⟨10,(some 101),(.callf false (.c (.fn (.func 45) [] [])) [(.t 96),(.t 100),(.c (.int .i64 94))] []),none⟩,⟨11,(some 102),(.idx 40 (.t 91) (.t 92)),none⟩,⟨12,none,(.store 40 (.t 102) (.t 101) []),none⟩])) .skip))))))) aIC))))))))
theorem aID:x16=⟨121,[(4,none),(5,none),(6,none)],false,false,aJY,none,none⟩:=rfl
theorem tX (a b:Nat):tdZ (a:Int) (b:Int)=((a/b:Nat):Int):=by
 rw[tdZ,Int.tdiv_eq_ediv_of_nonneg (by omega)];exact(Int.natCast_ediv a b).symm
def dE (s:ByteArray) (i:Nat):ByteArray:=mA s (i*45) ((i+1)*45)
def sW (s:ByteArray) (row i:Nat):Bool:=sK (dE s i) (row+i)
def dK (s:ByteArray):Nat→List Nat
 | 0=>[]
 | i+1=>dK s i++wX (dE s i)
def hG (s:ByteArray) (row:Nat):Nat→Int
 | 0 => -1
 | i+1=>if sW s row i then hG s row i else (i:Int)
def eG (s:ByteArray) (row:Nat):Nat→Nat
 | 0=>0
 | i+1=>if sW s row i then eG s row i else eG s row i+1
theorem zW (s:ByteArray):(wX s).length=40:=eK _
theorem lU (s:ByteArray):∀ i,(dK s i).length=i*40
 | 0=>rfl
 | i+1=>by rw[dK,List.length_append,lU s i,zW];omega
theorem aDI (s:ByteArray):∀ i,wQ (dK s i)
 | 0=>by intro k x h;simp[dK]at h
 | i+1=>by
   intro k x h
   rw[dK,List.getElem?_append]at h
   split at h
   ·exact aDI s i k x h
   ·exact iN (aAs _) _ x h
theorem aAg (s:ByteArray) (row:Nat):∀ i,eG s row i≤i
 | 0=>Nat.le_refl _
 | i+1=>by
   have:=aAg s row i
   rw[eG];split<;>omega
theorem aCD (s:ByteArray) (row:Nat):∀ i,-1≤hG s row i∧hG s row i<i
 | 0=>by simp[hG]
 | i+1=>by
   have:=aCD s row i
   rw[hG];split<;>omega
theorem mH {s:ByteArray} {i:Nat} (h:(i+1)*45≤s.size):(dE s i).size=45:=by
 unfold dE
 rw[←aDt,ByteArray.size_extract];omega

def fI (C:List Nat) (k:Nat) (f:List Nat):List Nat:=C.take (k*40)++(f++C.drop (k*40+40))
def aBn (C:List Nat) (n k:Nat):List Nat:=fI (fI C k (bO [])) k (bU 94 (dB (fI C k (bO [])) n) (bZ (fI C k (bO [])) n))
def qP (C:List Nat) (n:Nat):List ByteArray:=(List.range n).map fun i=>sG (dB C i)
def oH (e:Int):AV:=.tup [.fs [],I 0,I e]
def oQ (C:List Nat) (n md:Nat):AV:=if Lib.containsS (qP C n) fM then oH 13 else .tup [.fs (rS (qP C n)),I (md:Nat),I 0]
def gY (C:List Nat) (n:Nat) (bad:Int) (md:Nat):AV:=if 1<md then oH 19 else if md=0∧bZ C n≠dB C n then oH 22 else
 if 0≤bad∧bad<n then oQ (aBn C n bad.toNat) n md else oQ C n md
def tI (s:ByteArray) (row:Int):AV:=if (decide (0≤row)&&decide (row≤1000))=true then
 (if s.size%45≠0∨s.size/45<2 then oH 20 else if 6<s.size/45 then oH 1 else gY (dK s (s.size/45)) (s.size/45-1) (hG s row.toNat (s.size/45)) (eG s row.toNat (s.size/45))) else oH 2
def mS (i:Nat):AV:=if i=0 then .nilsl else .sl 0 0 40 i
def mG (s:ByteArray) (i:Nat):XH:=if i=0 then [] else [some (.blk true (.cells true (bE (dK s i))))]

theorem q47 {xs:List AV} {h:XH}:runW aH 47 xs h=aAV xs h:=fW rfl rfl xs h
theorem aCO:∀ l:List ByteArray,pV (rS l)=some l
 | []=>rfl
 | s::l=>by
   have ih:=aCO l
   show (pV (rS l)).map (s :: ·)=_
   rw[ih];rfl
theorem w47 {l:List ByteArray} {x:ByteArray} (h:l.length≤1000000):runW aH 47 [.fs (rS l),.str x] []=some (.bool (Lib.containsS l x),[]):=by
 rw[q47];unfold aAV;dsimp only;rw[aCO];dsimp only;rw[if_pos h]
def eB (l:List ByteArray):List AV:=l.map AV.str
theorem cX (l:List ByteArray):(eB l).length=l.length:=by simp[eB]
theorem cL (l:List ByteArray):qM (eB l)=[]:=aFN (fun _=>rfl) _
theorem cJ (l:List ByteArray):slL (eB l)=[]:=aFL (fun _=>rfl) _
theorem cK (f:Nat→Option Nat) (l:List ByteArray):jX f (eB l)=eB l:=aFM (fun _=>rfl) _
theorem dP (l:List ByteArray):iR (eB l)=true:=dH fun v hv=>by
 obtain⟨n,_,rfl⟩:=List.mem_map.1 hv;rfl
theorem zL (l:List ByteArray):cV (eB l) 0 1 l.length=rS l:=aDA (f:=AV.str) l []
theorem aDj (C:List Nat) (n:Nat):(qP C n).length=n:=by simp[qP]
theorem aLX (C:List Nat) (i:Nat):eB (qP C i)++[.str (sG (dB C i))]=eB (qP C (i+1)):=by
 simp[eB,qP,List.range_succ]
def tS (i:Nat):AV:=if i=0 then .nilsl else .sl 0 0 1 i
def tB (p i:Nat):AV:=if i=0 then .sl 0 0 40 p else .sl 1 0 40 p
def tG (C:List Nat) (i:Nat):XH:=if i=0 then [some (.blk true (.cells true (bE C)))] else [some (.blk true (.cells true (eB (qP C i)))),some (.blk true (.cells true (bE C)))]
theorem t16 {C:List Nat} {n p md:Nat} {e:aC} (hn:n=p+1) (hC:C.length=n*40) (hb:wQ C) (h0:1≤p) (h1:p≤1000) (e4:e 4 = .nilsl) (e5:e 5=I (md:Nat)) (e8:e 8 = .sl 0 0 40 n) (e13:e 13=I (p:Nat)) :
 cR none [(4,none),(5,none),(6,none)] false 0 (execW aH 16 0 none aIC e [some (.blk true (.cells true (bE C)))])=some (oQ C p md,[]):=by
 unfold aIC
 have z1:((p:Int)≤(n:Int))=True:=eq_true (by omega)
 have z2:(0<p)=True:=eq_true (by omega)
 sym =>
  simp[aE,aF,aL,Za,Zb,Zf,Zh,Zl,Zm,Zn,Zu,ZH,ZK,Yj,Yz,Y2,VU,Uu,Uv,Uw,UP,UT,UU,Tb,Tc,Th,Ti,Tj,Tk,Tu,e4,e5,e8,e13,z1,z2]
  tactic =>
   unfold aHI
   rw[aY p (fun i=>[tS i,I (md:Nat),tB p i,I (p:Nat),I (i:Nat)]) (fun i=>tG C i)]
   ·have s0:tS p = .sl 0 0 1 p:=if_neg (by omega)
    have b0:tB p p = .sl 1 0 40 p:=if_neg (by omega)
    have g0:tG C p=[some (.blk true (.cells true (eB (qP C p)))),some (.blk true (.cells true (bE C)))]:=if_neg (by omega)
    have x0:((p:Int)<(p:Int))=False:=eq_false (by omega)
    have ll:=aDj C p
    have lc:=cX (qP C p)
    rw[ll]at lc
    have ch:=zL (qP C p)
    rw[ll]at ch
    have c1:=w47 (l:=qP C p) (x:=⟨#[]⟩) (by omega)
    unfold oQ
    have hE:Lib.containsS (qP C p) fM=Lib.containsS (qP C p) ⟨#[]⟩:=rfl
    rw[hE]
    have p1:(p*1≤p)=True:=eq_true (by omega)
    have p2:(p≤p)=True:=eq_true (by omega)
    generalize qP C p=L at *
    cases hc:Lib.containsS L ⟨#[]⟩with
    | true =>
      rw[hc]at c1
      unfold oH
      (sym=>(simp[aE,aF,aL,Za,Zb,Zf,Zg,Zh,Zj,Zl,Zm,Zu,Z0,ZT,ZV,Ya,Yb,Yu,YG,YJ,YL,YM,Xa,Xb,Xc,Xe,Xf,Xl,Xp,Xr,Xs,XI,XK,XO,XV,XX,Wd,Wg,Wk,Wt,Ww,Wx,Wy,Wz,WB,WC,WF,WG,WQ,WR,WS,Vb,Vc,Vd,Ve,Vf,Vg,Vh,Vi,Vj,Vl,Vm,Vn,Vo,Vp,Vq,Vr,Vt,Vu,Vv,Vw,Vx,V0,V6,V7,V8,VC,VD,VF,VG,VI,VJ,VK,VU,VZ,Uc,Ud,Ue,Uf,Ug,Uj,Uk,Un,Uo,U9,UN,UP,UQ,US,UU,UV,UW,UZ,Tb,Tc,Tq,Tr,Tt,Ty,Tz,T2,T7,T8,T9,TA,TB,TC,s0,b0,g0,x0,lc,ch,c1,p1,p2];all_goals tactic=>exact rfl))
    | false =>
      rw[hc]at c1
      (sym=>(simp[aE,aF,aL,Za,Zb,Zf,Zg,Zh,Zj,Zl,Zm,Zu,Z0,ZT,ZV,Ya,Yb,Yu,YG,YJ,YL,YM,Xa,Xb,Xc,Xe,Xf,Xl,Xp,Xq,Xr,Xx,XI,XK,XO,XV,Wd,Wg,Wk,Wt,Ww,Wx,Wy,Wz,WB,WC,WF,WG,WQ,WR,WS,Vb,Vc,Vd,Ve,Vf,Vg,Vh,Vi,Vj,Vl,Vm,Vn,Vo,Vp,Vq,Vr,Vt,Vu,Vv,Vw,Vx,V0,V6,V8,VB,VC,VD,VF,VG,VI,VJ,VK,VU,VZ,Uc,Ud,Ue,Uf,Ug,Uj,Uk,Un,Uo,U9,UN,UP,UQ,UR,US,UU,UV,UZ,Tb,Tc,Tq,Tr,Tt,Ty,Tz,T2,T7,T8,T9,TA,TB,TC,s0,b0,g0,x0,lc,ch,c1,p1,p2];all_goals tactic=>exact rfl))
   ·have s0:tS 0 = .nilsl:=rfl
    have b0:tB p 0 = .sl 0 0 40 p:=rfl
    have g0:tG C 0=[some (.blk true (.cells true (bE C)))]:=rfl
    (sym=>(simp[aE,aF,aL,Za,Y7,YG,YN,YP,Xa,Xg,Xi,Wd,Wn,Wq,Wr,Wt,Wu,Wv,Wx,Wz,WB,WC,WE,WJ,WK,WO,V4,V5,VC,VD,VF,VG,VI,VL,VX,Ud,Ue,Uf,Ug,Ta,Ts,s0,b0,g0,e4,e5,bX,bT,bV,bY];all_goals tactic=>exact rfl))
   ·intro i hi
    have i1:((i:Int)<(p:Int))=True:=eq_true (by omega)
    have a2:=eS hi (by omega)
    have hC2:p*40≤C.length:=by omega
    have lC:=aM C
    have i3:(i*40+40≤(bE C).length)=True:=eq_true (by
     rw[lC]
     have h1:(i+1)*40≤p*40:=Nat.mul_le_mul_right _ hi
     omega)
    have fu:=yS (C:=C) (k:=i)
    have l5:=oG hC2 hi
    have c1:=w46 l5
    rw[bI]at c1
    have m5:=aM (dB C i)
    rw[l5]at m5
    have l0:(bE (nf 0)).length=40:=by rw[aM];exact cS (by omega)
    have gz:=bD (nf 0)
    have c8:=fV (a:=nf 0) (b:=dB C i) (by rw[l5];exact cS (by omega))
    have k5:=eA l5
    have k6:=fN l5
    have g5:=bD (dB C i)
    have gC:=bD C
    have ls:=aLX C i
    have n1:=cX (qP C i)
    rw[aDj]at n1
    have n2:=dP (qP C i)
    have n3:=dP (qP C (i+1))
    have s1:tS (i+1) = .sl 0 0 1 (i+1):=if_neg (by omega)
    have b1:tB p (i+1) = .sl 1 0 40 p:=if_neg (by omega)
    have g1:tG C (i+1)=[some (.blk true (.cells true (eB (qP C (i+1))))),some (.blk true (.cells true (bE C)))]:=if_neg (by omega)
    have z3:(i+1≤1099511627776)=True:=eq_true (by omega)
    have z4:((i+1)*16≤1099511627776)=True:=eq_true (by omega)
    by_cases hi0:i=0
    ·subst hi0
     have s0:tS 0 = .nilsl:=rfl
     have b0:tB p 0 = .sl 0 0 40 p:=rfl
     have g0:tG C 0=[some (.blk true (.cells true (bE C)))]:=rfl
     have L0:eB (qP C 0)=[]:=rfl
     rw[L0,List.nil_append]at ls
     have j1:((0:Int)<(p:Int))=True:=eq_true (by omega)
     rw[s1,b1,g1]
     rw[←ls]
     have fu:List.take 40 (bE C)=bE (dB C 0):=fu
     have fv:List.take 40 (List.drop 0 (bE C))=bE (dB C 0):=fu
     have i3:(40≤(bE C).length)=True:=eq_true (by rw[lC];omega)
     generalize sG (dB C 0)=B at *
     generalize dB C 0=f at *
     (sym=>(simp[aE,aF,aL,Za,Zb,Zc,Zd,Ze,Zf,Zh,Zl,Zm,Zo,Zu,Zv,Zy,Z0,ZD,ZL,ZP,ZQ,ZT,ZV,ZZ,Ya,Yb,Yl,Yp,Yu,Y4,Y6,Y7,Y8,YG,YK,YN,YX,Xa,Xc,Xd,Xg,Wa,Wb,Wd,We,Wf,Wg,Wh,Wi,Wj,Wk,Wn,Wo,Wq,Wr,Wt,Wu,Wv,Ww,Wx,Wy,Wz,WB,WC,WE,WF,WG,WJ,WK,WO,WQ,WR,WS,V0,V4,V5,V6,V7,VC,VD,VE,VF,VG,VI,VJ,VK,VL,VN,VU,VX,VY,Ua,Ub,Uc,Ud,Ue,Uf,Ug,Uh,Ui,Uq,Ur,Us,Ut,Uz,U0,U1,U2,U3,U4,U5,U6,UA,UB,UE,UG,UH,UI,UK,UL,UM,UN,UP,UR,UT,UU,UX,Ta,Tb,Tc,Ts,Tv,j1,i3,fu,fv,m5,c1,l0,gz,c8,k5,k6,g5,gC,s0,b0,g0,bX,bT,bV,bY];all_goals tactic=>exact rfl))
    ·have s0:tS i = .sl 0 0 1 i:=if_neg hi0
     have b0:tB p i = .sl 1 0 40 p:=if_neg hi0
     have g0:tG C i=[some (.blk true (.cells true (eB (qP C i)))),some (.blk true (.cells true (bE C)))]:=if_neg hi0
     rw[s1,b1,g1]
     generalize qP C (i+1)=L1 at *
     generalize qP C i=L0 at *
     generalize sG (dB C i)=B at *
     generalize dB C i=f at *
     (sym=>(simp[aE,aF,aL,Za,Zb,Zc,Zd,Ze,Zf,Zh,Zl,Zm,Zo,Zu,Zv,Zy,Z0,ZD,ZL,ZP,ZQ,ZT,ZV,ZZ,Ya,Yb,Yl,Yp,Yu,Yz,Y2,YG,YK,YN,YX,Xa,Xc,Xd,Xg,Wa,Wb,Wd,We,Wf,Wg,Wh,Wi,Wj,Wk,Wn,Wo,Wq,Wr,Wt,Wu,Wv,Ww,Wx,Wy,Wz,WB,WC,WE,WF,WG,WJ,WK,WO,WQ,WR,WS,V0,V4,V5,V6,V7,VC,VD,VE,VF,VG,VI,VJ,VK,VL,VN,VU,VX,VY,Ua,Ub,Uc,Ud,Ue,Uf,Ug,Uh,Ui,Uq,Ur,Us,Ut,Uz,U0,U1,U2,U3,U4,U5,U7,U8,UA,UB,UE,UG,UH,UI,UJ,UK,UL,UN,UP,UR,UT,UU,UX,Ta,Tb,Tc,Tq,Tr,Ts,Tv,i1,a2,i3,fu,m5,c1,l0,gz,c8,k5,k6,g5,gC,ls,n1,n2,n3,s0,b0,g0,z3,z4,bX,bT,bV,bY,cL,cJ,cK];all_goals tactic=>exact rfl))
   ·have x0:((p:Int)<(p:Int))=False:=eq_false (by omega)
    (sym=>(simp[aE,aF,aL,Za,Zb,Zf,Zh,Zl,Zm,Z0,Yu,V0,V6,V8,V9,VZ,U9,UN,UP,US,UU,UV,Tb,x0];all_goals tactic=>exact rfl))

theorem zB:∀ {a b:List Nat} {n:Nat},a.length=n→b.length=n→cD (List.replicate n 0) (bE a) (bE b)=some (decide (a=b))
 | [],[],0,_,_=>rfl
 | x::a,y::b,n+1,ha,hb=>by
   have ih:=zB (a:=a) (b:=b) (n:=n) (by simpa using ha) (by simpa using hb)
   rw[List.replicate_succ]
   show (match nN 0 (.int .u8 (x:Int)) (.int .u8 (y:Int)),cD (List.replicate n 0) (bE a) (bE b)with
    | some x,some y=>some (x&&y)
    | _,_=>none)=_
   rw[ih]
   show some (decide ((x:Int)=(y:Int))&&decide (a=b))=_
   congr 1
   rw[←Bool.decide_and]
   exact decide_eq_decide.2 (by rw[List.cons.injEq];constructor<;>(rintro ⟨h1,h2⟩;exact⟨by omega,h2⟩))
theorem aCS {C:List Nat} {k:Nat} {f:List Nat} (hf:f.length=40):bK (bE C) (k*40) (bE f)=bE (fI C k f):=by
 unfold bK fI bE
 simp[hf]
theorem mF {C:List Nat} {k n:Nat} {f:List Nat} (hC:C.length=n*40) (hk:k<n) (hf:f.length=40):(fI C k f).length=n*40:=by
 have:(k+1)*40≤n*40:=Nat.mul_le_mul_right _ hk
 simp[fI,hf,hC];omega
theorem qA {C:List Nat} {k:Nat} {f:List Nat} (hC:wQ C) (hf:wQ f):wQ (fI C k f):=by
 intro i x h
 unfold fI at h
 rw[List.getElem?_append]at h
 split at h
 ·rw[List.getElem?_take]at h
  split at h
  ·exact hC _ _ h
  ·cases h
 ·rw[List.getElem?_append]at h
  split at h
  ·exact hf _ _ h
  ·rw[List.getElem?_drop]at h
   exact hC _ _ h
theorem qU {C:List Nat} {n p:Nat} (hC:C.length=n*40) (hp:n=p+1):(dB C p).length=40:=oG (n:=n) (by omega) (by omega)
theorem aDE (b:Bool):b=false∨b=true:=by cases b;exact .inl rfl;exact .inr rfl
theorem zO:∀ l:List Nat,eT (bE l) (bE l)=true
 | []=>rfl
 | x::l=>by
   show (cO (.int .u8 (x:Int)) (.int .u8 (x:Int))&&eT (bE l) (bE l))=true
   rw[zO l]
   simp[cO]
theorem aDw:runW aH 44 [.str ⟨#[]⟩] []=some (.agg (bE (bO [])),[]):=w44 ⟨#[]⟩
theorem w16 {s:ByteArray} {row:Int} (hz:s.size≤1000000):runW aH 16 [.str s,I row] []=some (tI s row,[]):=by
 rw[q16 (by simp),aID];unfold aJY;dsimp only
 have c1:=w35 0 row 1000
 have d1:tdZ (s.size:Int) 45=((s.size/45:Nat):Int):=tX s.size 45
 have d2:tmZ (s.size:Int) 45=((s.size%45:Nat):Int):=jH s.size 45
 have d3:IntKind.i64.wrap ((s.size/45:Nat):Int)=((s.size/45:Nat):Int):=aG (by omega) (by omega)
 cases hb:decide (0≤row)&&decide (row≤1000)with
 | false =>
   rw[hb]at c1
   have hv:tI s row=oH 2:=by unfold tI;rw[hb,if_neg (by decide)]
   rw[hv];unfold oH
   (sym=>(simp[aE,aF,aL,Za,Zb,Zf,Zh,Zl,Zm,Zu,Z0,Z8,ZK,ZT,ZV,Ya,Yb,Yf,Yk,YG,YL,YM,Xa,Xb,Xe,Xf,Xl,Xp,Xs,XK,XM,XO,XX,Wk,Wl,Wt,Ww,Wx,Wy,WB,WC,WF,WG,WQ,WR,WS,Ve,Vm,Vn,Vo,Vp,Vq,Vr,Vt,Vu,Vv,Vw,Vx,Vz,V6,V7,VB,VC,VD,VF,VG,VI,VK,VR,VZ,Uc,Ud,Ue,Uf,Ug,Uj,Uk,Un,Uo,UN,UP,UQ,UT,UU,UW,UY,Tb,Tc,Ty,c1,d1,d2,d3];all_goals tactic=>exact rfl))
 | true =>
   rw[hb]at c1
   rcases tE (s.size%45=0)with h0|h0
   ·have h0':=of_eq_true h0
    have z0:(((s.size%45:Nat):Int)=0)=True:=eq_true (by omega)
    rcases tE (s.size/45<2)with h2|h2
    ·have h2':=of_eq_true h2
     have z2:(((s.size/45:Nat):Int)<2)=True:=eq_true (by omega)
     have hv:tI s row=oH 20:=by unfold tI;rw[hb,if_pos rfl,if_pos (Or.inr h2')]
     rw[hv];unfold oH
     generalize s.size%45=rm at *
     generalize s.size/45=n at *
     (sym=>(simp[aE,aF,aL,Za,Zb,Zf,Zh,Zl,Zm,Zp,Zr,Zu,Zw,Z0,Z8,ZK,ZT,ZV,Ya,Yb,Yd,Yf,Yk,Yt,Yu,YG,YL,YM,Xa,Xb,Xe,Xf,Xl,Xp,Xs,XK,XM,XO,XX,Wk,Wl,Wt,Ww,Wx,Wy,WB,WC,WF,WG,WQ,WR,WS,Ve,Vm,Vn,Vo,Vp,Vq,Vr,Vt,Vu,Vv,Vw,Vx,Vz,V6,V7,V8,VB,VC,VD,VF,VG,VI,VK,VQ,VY,VZ,Uc,Ud,Ue,Uf,Ug,Uj,Uk,Un,Uo,UN,UP,UQ,UT,UU,UW,UY,Tb,Tc,Ty,c1,d1,d2,d3,z0,z2];all_goals tactic=>exact rfl))
    ·have h2':=of_eq_false h2
     have z2:(((s.size/45:Nat):Int)<2)=False:=eq_false (by omega)
     rcases tE (6<s.size/45)with h6|h6
     ·have h6':=of_eq_true h6
      have z6:((6:Int)<((s.size/45:Nat):Int))=True:=eq_true (by omega)
      have hv:tI s row=oH 1:=by unfold tI;rw[hb,if_pos rfl,if_neg (by omega),if_pos h6']
      rw[hv];unfold oH
      generalize s.size%45=rm at *
      generalize s.size/45=n at *
      (sym=>(simp[aE,aF,aL,Za,Zb,Zf,Zh,Zl,Zm,Zp,Zr,Zu,Zw,Z0,Z8,ZK,ZT,ZV,Ya,Yb,Yd,Yf,Yk,Yt,Yu,Yw,YG,YL,YM,Xa,Xb,Xe,Xf,Xl,Xp,Xs,XK,XM,XO,XX,Wk,Wl,Wt,Ww,Wx,Wy,WB,WC,WF,WG,WQ,WR,WS,Ve,Vm,Vn,Vo,Vp,Vq,Vr,Vt,Vu,Vv,Vw,Vx,Vz,V6,V7,V8,VB,VC,VD,VF,VG,VI,VK,VQ,VY,VZ,Uc,Ud,Ue,Uf,Ug,Uj,Uk,Un,Uo,UN,UP,UQ,UT,UU,UW,UY,Tb,Tc,Ty,c1,d1,d2,d3,z0,z2,z6];all_goals tactic=>exact rfl))
     ·have h6':=of_eq_false h6
      have z6:((6:Int)<((s.size/45:Nat):Int))=False:=eq_false (by omega)
      have hv:tI s row=gY (dK s (s.size/45)) (s.size/45-1) (hG s row.toNat (s.size/45)) (eG s row.toNat (s.size/45)):=by unfold tI;rw[hb,if_pos rfl,if_neg (by omega),if_neg h6']
      rw[hv]
      have hsz:s.size/45*45=s.size:=by omega
      simp only[Bool.and_eq_true,decide_eq_true_eq]at hb
      obtain⟨R,hR⟩:∃ R:Nat,row=(R:Int):=⟨row.toNat,by omega⟩
      have hR1:row.toNat=R:=by omega
      rw[hR1]
      subst hR
      generalize s.size%45=rm at *
      generalize s.size/45=n at *
      sym =>
       simp[aE,aF,aL,Za,Zb,Zf,Zh,Zl,Zm,Zp,Zr,Zu,Zw,Z0,Z8,ZK,ZT,ZV,Ya,Yb,Yd,Yf,Yk,Yt,Yu,Yw,YG,Xa,Xb,XK,XM,Wk,Wl,Wt,Ww,Wy,WF,WG,WQ,WR,WS,Vz,V6,V8,VB,VC,VD,VF,VG,VK,VQ,VY,VZ,Uc,Ud,Ue,Uf,Ug,Un,Uo,UN,UP,UR,UT,UU,UX,Tb,Tc,c1,d1,d2,d3,z0,z2,z6]
       tactic =>
        unfold aHJ
        rw[aY n (fun i=>[.str s,I (R:Int),.nilsl,I (eG s R i:Nat),I (n:Nat),mS i,I (hG s R i),I (n:Nat),I (i:Nat)]) (fun i=>mG s i)]
        ·obtain⟨p,hp⟩:∃ p,n=p+1:=⟨n-1,by omega⟩
         have hnp:n-1=p:=by omega
         have s0:mS n = .sl 0 0 40 n:=if_neg (by omega)
         have g0:mG s n=[some (.blk true (.cells true (bE (dK s n))))]:=if_neg (by omega)
         have x0:((n:Int)<(n:Int))=False:=eq_false (by omega)
         have wr:IntKind.i64.wrap ((n:Int)-1)=(p:Int):=by rw[aG (by omega) (by omega)];omega
         have wq:IntKind.i64.wrap ((p:Int)-1)=(p:Int)-1:=aG (by omega) (by omega)
         have hC:=lU s n
         have hB:=aDI s n
         have hmd:=aAg s R n
         have hbd:=aCD s R n
         rw[hnp]
         generalize dK s n=C at *
         generalize eG s R n=md at *
         generalize hG s R n=bad at *
         have lC:=aM C
         rw[hC]at lC
         have gC:=bD C
         have sC:=zO C
         rcases tE ((1:Int)<(md:Int))with k1|k1
         ·have hv:gY C p bad md=oH 19:=by unfold gY;rw[if_pos (by have:=of_eq_true k1;omega)]
          rw[hv];unfold oH
          (sym=>(simp[aE,aF,aL,Za,Zb,Zf,Zh,Zl,Zm,Zu,Z0,Yq,Yu,Yw,YG,YL,YM,Xa,Xe,Xf,Xl,Xp,Xs,XK,XO,XX,Wt,Wx,Wz,WB,WC,Ve,Vm,Vn,Vo,Vp,Vq,Vr,Vt,Vu,Vv,Vw,Vx,V0,V6,V7,V8,VD,VG,VI,VY,VZ,Ud,Ue,Uf,Ug,Uj,Uk,Un,Uo,U9,UN,UP,UQ,US,UT,UU,UV,UW,UY,UZ,Tb,Tc,Ty,s0,g0,x0,wr,k1,lC,gC,bX,bT,bV,bY];all_goals tactic=>exact rfl))
         ·have k1':¬1<md:=by have:=of_eq_false k1;omega
          rcases tE ((md:Int)=0)with k0|k0
          ·have k0':md=0:=by have:=of_eq_true k0;omega
           have f9:=yS (C:=C) (k:=p)
           have l9:=qU hC hp
           have l8:=cY (C:=C) (n:=p) (by omega) p (Nat.le_refl _)
           have cs9:=w43 (C:=C) (n:=p) (by omega) hB (by omega)
           rw[bI]at cs9
           have ce:=zB l8 l9
           have y1:((p:Int)<(n:Int))=True:=eq_true (by omega)
           have y2:(p*40+40≤n*40)=True:=eq_true (by omega)
           have y3:((p:Int)≤(n:Int))=True:=eq_true (by omega)
           have y4:(0<p)=True:=eq_true (by omega)
           have g9:=bD (dB C p)
           have g8:=bD (bZ C p)
           have m9:=aM (dB C p)
           rw[l9]at m9
           have m8:=aM (bZ C p)
           rw[l8]at m8
           rcases aDE (decide (bZ C p=dB C p))with hq|hq
           ·skip
            rw[hq]at ce
            have hv:gY C p bad md=oH 22:=by unfold gY;rw[if_neg k1',if_pos ⟨k0',of_decide_eq_false hq⟩]
            rw[hv];unfold oH
            (sym=>(simp[aE,aF,aL,Za,Zb,Zd,Ze,Zf,Zh,Zi,Zl,Zm,Zn,Zp,Zq,Zu,Zw,Z0,Z7,ZD,ZH,ZM,ZO,ZR,ZW,ZX,Ya,Yb,Yc,Yl,Yq,Ys,Yu,Yw,Yz,Y2,YB,YC,YG,YL,YM,YN,Xa,Xd,Xe,Xf,Xg,Xl,Xp,Xs,XK,XO,XX,Wd,We,Wf,Wg,Wj,Wk,Wn,Wp,Wq,Wt,Wu,Wv,Ww,Wx,Wy,Wz,WB,WC,WF,WG,WH,WJ,WK,WO,WQ,WR,WS,WT,WV,WW,WX,Va,Ve,Vm,Vn,Vo,Vp,Vq,Vr,Vt,Vu,Vv,Vw,Vx,V0,V6,V7,V8,VC,VD,VF,VG,VI,VJ,VK,VN,VQ,VR,VT,VU,VX,VY,VZ,Ua,Ub,Uc,Ud,Ue,Uf,Ug,Uj,Uk,Un,Uo,Uu,Uv,Uw,U9,UA,UB,UE,UN,UP,UQ,US,UT,UU,UV,UW,UY,UZ,Tb,Tc,Th,Ti,Tj,Tk,Tr,Tu,Ty,T3,s0,g0,x0,wr,wq,k1,k0,lC,gC,sC,f9,cs9,ce,y1,y2,y3,y4,g9,g8,m9,m8,bX,bT,bV,bY];all_goals tactic=>exact rfl))
           ·skip
            rw[hq]at ce
            have hz9:¬(md=0∧bZ C p≠dB C p):=fun hh=>hh.2 (of_decide_eq_true hq)
            have c35:=w35 0 bad ((p:Int)-1)
            rcases aDE (decide (0≤bad)&&decide (bad≤(p:Int)-1))with hbt|hbt
            ·skip
             rw[hbt]at c35
             have hfx:¬(0≤bad∧bad<p):=fun hh=>by
              rw[Bool.and_eq_false_iff,decide_eq_false_iff_not,decide_eq_false_iff_not]at hbt
              omega
             have hv:gY C p bad md=oQ C p md:=by unfold gY;rw[if_neg k1',if_neg hz9,if_neg hfx]
             rw[hv]
             sym =>
              simp[aE,aF,aL,Za,Zb,Zd,Ze,Zf,Zh,Zi,Zl,Zm,Zn,Zp,Zq,Zu,Zw,Z0,Z7,ZD,ZH,ZM,ZO,ZR,ZT,ZV,ZW,ZX,Ya,Yb,Yc,Yl,Yq,Ys,Yu,Yw,Yz,Y2,YB,YC,YG,YN,Xa,Xb,Xd,Xg,Wd,We,Wf,Wg,Wj,Wk,Wn,Wp,Wq,Wt,Wu,Wv,Ww,Wy,Wz,WF,WG,WH,WJ,WK,WO,WQ,WR,WS,WT,WV,WW,WX,Va,V0,V6,V8,VC,VD,VF,VG,VJ,VK,VN,VQ,VT,VU,VX,VY,VZ,Ua,Ub,Uc,Ud,Ue,Uf,Ug,Uu,Uv,Uw,U9,UA,UB,UE,UN,UP,UR,US,UT,UU,UV,UX,UZ,Tb,Tc,Th,Ti,Tj,Tk,Tr,Tu,T3,s0,g0,x0,wr,wq,k1,lC,gC,sC,c35,bX,bT,bV,bY,k0,f9,cs9,ce,y1,y2,y3,y4,g9,g8,m9,m8]
              tactic =>
               exact t16 hp hC hB (by omega) (by omega) rfl rfl rfl rfl
            ·skip
             rw[hbt]at c35
             have hfx:0≤bad∧bad<p:=by
              rw[Bool.and_eq_true,decide_eq_true_eq,decide_eq_true_eq]at hbt
              omega
             have hv:gY C p bad md=oQ (aBn C p bad.toNat) p md:=by unfold gY;rw[if_neg k1',if_neg hz9,if_pos hfx]
             rw[hv]
             obtain⟨k,hk⟩:∃ k:Nat,bad=(k:Int):=⟨bad.toNat,by omega⟩
             subst hk
             have ht:((k:Int)).toNat=k:=rfl
             rw[ht]
             unfold aBn
             have j1:((k:Int)<(n:Int))=True:=eq_true (by omega)
             have f0:=aDw
             have le0:=eK []
             have su:=aCS (C:=C) (k:=k) le0
             have hC1:=mF (k:=k) hC (by omega) le0
             have hB1:=qA (k:=k) hB (iN (l:=[]) (fun i x h=>by simp at h))
             have m0:=aM (bO [])
             rw[le0]at m0
             have t0:=eA le0
             have gf0:=bD (bO [])
             generalize fI C k (bO [])=C1 at *
             have lC1:=aM C1
             rw[hC1]at lC1
             have gC1:=bD C1
             have sC1:=zO C1
             have f1:=yS (C:=C1) (k:=p)
             have lf1:=qU hC1 hp
             have cs:=w43 (C:=C1) (n:=p) (by omega) hB1 (by omega)
             rw[bI]at cs
             have ls1:=cY (C:=C1) (n:=p) (by omega) p (Nat.le_refl _)
             have w9:=w45 (t:=94) lf1 ls1 (tN hB1 p) (nT p) (by omega)
             rw[bI,bI,bI]at w9
             have w9:runW aH 45 [.agg (bE (dB C1 p)),.agg (bE (bZ C1 p)),I 94] []=some (.agg (bE (bU 94 (dB C1 p) (bZ C1 p))),[]):=w9
             have lp:=gJ (t:=94) (l:=dB C1 p) (m:=bZ C1 p) (by rw[lf1,ls1])
             rw[lf1]at lp
             have bp:=jZ (t:=94) (l:=dB C1 p) (m:=bZ C1 p)
             have su2:=aCS (C:=C1) (k:=k) lp
             have hC2:=mF (k:=k) hC1 (by omega) lp
             have hB2:=qA (k:=k) hB1 bp
             have q1:=aM (dB C1 p)
             rw[lf1]at q1
             have q2:=aM (bZ C1 p)
             rw[ls1]at q2
             have q3:=aM (bU 94 (dB C1 p) (bZ C1 p))
             rw[lp]at q3
             have g1:=bD (dB C1 p)
             have g2:=bD (bZ C1 p)
             have g3:=bD (bU 94 (dB C1 p) (bZ C1 p))
             have tk1:=eA lp
             generalize bU 94 (dB C1 p) (bZ C1 p)=fp at *
             generalize bZ C1 p=fs at *
             generalize dB C1 p=fa at *
             generalize fI C1 k fp=C2 at *
             have kl:(k*40+40≤n*40)=True:=eq_true (by have:(k+1)*40≤n*40:=Nat.mul_le_mul_right _ (by omega);omega)
             sym =>
              simp[aE,aF,aL,Za,Zb,Zc,Zd,Ze,Zf,Zh,Zi,Zl,Zm,Zn,Zp,Zq,Zu,Zw,Z0,Z7,ZD,ZH,ZM,ZO,ZP,ZQ,ZR,ZS,ZT,ZV,ZW,ZX,Ya,Yb,Yc,Yl,Yq,Ys,Yu,Yw,Yz,Y2,YB,YC,YG,YJ,YK,YN,Xa,Xb,Xc,Xd,Xg,Wb,Wc,Wd,We,Wf,Wg,Wj,Wk,Wn,Wp,Wq,Wt,Wu,Wv,Ww,Wy,Wz,WF,WG,WH,WJ,WK,WO,WQ,WR,WS,WT,WU,WV,WW,WX,Va,V0,V6,V7,V8,VC,VD,VF,VG,VJ,VK,VN,VQ,VR,VS,VT,VU,VX,VY,VZ,Ua,Ub,Uc,Ud,Ue,Uf,Ug,Uu,Uv,Uw,U9,UA,UB,UE,UG,UH,UN,UP,US,UT,UU,UV,UX,UZ,Tb,Tc,Th,Ti,Tj,Tk,Tr,Tu,Tx,T3,s0,g0,x0,wr,wq,k1,lC,gC,sC,c35,bX,bT,bV,bY,k0,f9,cs9,ce,y1,y2,y3,y4,g9,g8,m9,m8,j1,f0,su,m0,t0,gf0,lC1,gC1,sC1,f1,cs,w9,su2,q1,q2,q3,g1,g2,g3,tk1,kl]
              tactic =>
               exact t16 hp hC2 hB2 (by omega) (by omega) rfl rfl rfl rfl
          ·have k0':¬md=0:=by have:=of_eq_false k0;omega
           have hz9:¬(md=0∧bZ C p≠dB C p):=fun hh=>k0' hh.1
           have y1:((p:Int)<(n:Int))=True:=eq_true (by omega)
           have y2:(p*40+40≤n*40)=True:=eq_true (by omega)
           have y3:((p:Int)≤(n:Int))=True:=eq_true (by omega)
           have y4:(0<p)=True:=eq_true (by omega)
           have c35:=w35 0 bad ((p:Int)-1)
           rcases aDE (decide (0≤bad)&&decide (bad≤(p:Int)-1))with hbt|hbt
           ·skip
            rw[hbt]at c35
            have hfx:¬(0≤bad∧bad<p):=fun hh=>by
             rw[Bool.and_eq_false_iff,decide_eq_false_iff_not,decide_eq_false_iff_not]at hbt
             omega
            have hv:gY C p bad md=oQ C p md:=by unfold gY;rw[if_neg k1',if_neg hz9,if_neg hfx]
            rw[hv]
            sym =>
             simp[aE,aF,aL,Za,Zb,Zf,Zh,Zi,Zl,Zm,Zp,Zs,Zu,Zw,Z0,ZT,ZV,Ya,Yb,Yd,Yq,Ys,Yu,Yw,YG,Xa,Xb,Wk,Wt,Ww,Wy,WF,WG,WQ,WR,WS,V0,V6,V8,VC,VD,VF,VG,VJ,VK,VZ,Uc,Ud,Ue,Uf,Ug,U9,UN,UP,UR,US,UT,UU,UV,UX,UZ,Tb,Tc,s0,g0,x0,wr,wq,k1,lC,gC,sC,c35,bX,bT,bV,bY,k0,y1,y2,y3,y4]
             tactic =>
              exact t16 hp hC hB (by omega) (by omega) rfl rfl rfl rfl
           ·skip
            rw[hbt]at c35
            have hfx:0≤bad∧bad<p:=by
             rw[Bool.and_eq_true,decide_eq_true_eq,decide_eq_true_eq]at hbt
             omega
            have hv:gY C p bad md=oQ (aBn C p bad.toNat) p md:=by unfold gY;rw[if_neg k1',if_neg hz9,if_pos hfx]
            rw[hv]
            obtain⟨k,hk⟩:∃ k:Nat,bad=(k:Int):=⟨bad.toNat,by omega⟩
            subst hk
            have ht:((k:Int)).toNat=k:=rfl
            rw[ht]
            unfold aBn
            have j1:((k:Int)<(n:Int))=True:=eq_true (by omega)
            have f0:=aDw
            have le0:=eK []
            have su:=aCS (C:=C) (k:=k) le0
            have hC1:=mF (k:=k) hC (by omega) le0
            have hB1:=qA (k:=k) hB (iN (l:=[]) (fun i x h=>by simp at h))
            have m0:=aM (bO [])
            rw[le0]at m0
            have t0:=eA le0
            have gf0:=bD (bO [])
            generalize fI C k (bO [])=C1 at *
            have lC1:=aM C1
            rw[hC1]at lC1
            have gC1:=bD C1
            have sC1:=zO C1
            have f1:=yS (C:=C1) (k:=p)
            have lf1:=qU hC1 hp
            have cs:=w43 (C:=C1) (n:=p) (by omega) hB1 (by omega)
            rw[bI]at cs
            have ls1:=cY (C:=C1) (n:=p) (by omega) p (Nat.le_refl _)
            have w9:=w45 (t:=94) lf1 ls1 (tN hB1 p) (nT p) (by omega)
            rw[bI,bI,bI]at w9
            have w9:runW aH 45 [.agg (bE (dB C1 p)),.agg (bE (bZ C1 p)),I 94] []=some (.agg (bE (bU 94 (dB C1 p) (bZ C1 p))),[]):=w9
            have lp:=gJ (t:=94) (l:=dB C1 p) (m:=bZ C1 p) (by rw[lf1,ls1])
            rw[lf1]at lp
            have bp:=jZ (t:=94) (l:=dB C1 p) (m:=bZ C1 p)
            have su2:=aCS (C:=C1) (k:=k) lp
            have hC2:=mF (k:=k) hC1 (by omega) lp
            have hB2:=qA (k:=k) hB1 bp
            have q1:=aM (dB C1 p)
            rw[lf1]at q1
            have q2:=aM (bZ C1 p)
            rw[ls1]at q2
            have q3:=aM (bU 94 (dB C1 p) (bZ C1 p))
            rw[lp]at q3
            have g1:=bD (dB C1 p)
            have g2:=bD (bZ C1 p)
            have g3:=bD (bU 94 (dB C1 p) (bZ C1 p))
            have tk1:=eA lp
            generalize bU 94 (dB C1 p) (bZ C1 p)=fp at *
            generalize bZ C1 p=fs at *
            generalize dB C1 p=fa at *
            generalize fI C1 k fp=C2 at *
            have kl:(k*40+40≤n*40)=True:=eq_true (by have:(k+1)*40≤n*40:=Nat.mul_le_mul_right _ (by omega);omega)
            sym =>
             simp[aE,aF,aL,Za,Zb,Zc,Zd,Ze,Zf,Zh,Zi,Zl,Zm,Zn,Zp,Zs,Zu,Zw,Z0,ZD,ZH,ZM,ZO,ZP,ZQ,ZR,ZS,ZT,ZV,ZW,ZX,Ya,Yb,Yd,Yl,Yq,Ys,Yu,Yw,Yz,Y2,YG,YJ,YK,YN,Xa,Xb,Xc,Xd,Xg,Wb,Wc,Wd,We,Wf,Wg,Wj,Wk,Wn,Wp,Wq,Wt,Wu,Wv,Ww,Wy,Wz,WF,WG,WH,WJ,WK,WO,WQ,WR,WS,WT,WU,WV,WW,WX,Va,V0,V6,V7,V8,VC,VD,VF,VG,VJ,VK,VN,VQ,VR,VS,VT,VU,VX,VZ,Ua,Ub,Uc,Ud,Ue,Uf,Ug,Uu,Uv,Uw,U9,UA,UB,UE,UG,UH,UN,UP,US,UT,UU,UV,UX,UZ,Tb,Tc,Th,Ti,Tj,Tk,Tr,Tu,Tx,T3,s0,g0,x0,wr,wq,k1,lC,gC,sC,c35,bX,bT,bV,bY,k0,y1,y2,y3,y4,j1,f0,su,m0,t0,gf0,lC1,gC1,sC1,f1,cs,w9,su2,q1,q2,q3,g1,g2,g3,tk1,kl]
             tactic =>
              exact t16 hp hC2 hB2 (by omega) (by omega) rfl rfl rfl rfl
        ·have s0:mS 0 = .nilsl:=rfl
         have g0:mG s 0=[]:=rfl
         have b0:hG s R 0 = -1:=rfl
         have m0:eG s R 0=0:=rfl
         (sym=>(simp[aE,aF,aL,Za,Y7,YG,YJ,YP,Xa,Xc,Xi,Wl,Wt,Wx,Wy,WB,WC,Vz,V4,V5,VC,VD,VG,VI,Uc,Ud,Ue,Uf,Ug,Ta,s0,g0,b0,m0];all_goals tactic=>exact rfl))
        ·intro i hi
         have i1:((i:Int)<(n:Int))=True:=eq_true (by omega)
         have a2:=eS hi (by omega)
         have a3:IntKind.i64.wrap ((i:Int)*45)=((i*45:Nat):Int):=by rw[aG (by omega) (by omega)];omega
         have a4:IntKind.i64.wrap (((i:Int)+1)*45)=(((i+1)*45:Nat):Int):=by rw[aG (by omega) (by omega)];omega
         have a5:IntKind.i64.wrap ((R:Int)+(i:Int))=((R+i:Nat):Int):=by rw[aG (by omega) (by omega)];omega
         have hle:(i+1)*45≤s.size:=by rw[←hsz];exact Nat.mul_le_mul_right _ hi
         have a6:(((i+1)*45:Nat):Int)≤(s.size:Int):=by omega
         have a6b:(((i*45:Nat):Int)≤(((i+1)*45:Nat):Int))=True:=eq_true (by omega)
         have hx:mA s (i*45) ((i+1)*45)=dE s i:=rfl
         have c2:=w42 (s:=dE s i) (n:=R+i) (mH hle) (by omega)
         have hg:sK (dE s i) (R+i)=sW s R i:=rfl
         rw[hg]at c2
         rw[bI]at c2
         have lf:=zW (dE s i)
         have m1:=aM (wX (dE s i))
         rw[lf]at m1
         have k5:=eA lf
         have k6:=fN lf
         have g5:=bD (wX (dE s i))
         have l0:(bE (nf 0)).length=40:=by rw[aM];exact cS (by omega)
         have gz:=bD (nf 0)
         have c8:=fV (a:=nf 0) (b:=wX (dE s i)) (by rw[lf];exact cS (by omega))
         have ap:=aEQ (dK s i) (wX (dE s i))
         have hF:dK s i++wX (dE s i)=dK s (i+1):=rfl
         rw[hF]at ap
         have lc:=aM (dK s i)
         rw[lU]at lc
         have lc1:=aM (dK s (i+1))
         rw[lU]at lc1
         have gc:=bD (dK s i)
         have gc1:=bD (dK s (i+1))
         have ml:=aAg s R i
         have a7:IntKind.i64.wrap (((eG s R i:Nat):Int)+1)=((eG s R i+1:Nat):Int):=by rw[aG (by omega) (by omega)];omega
         have s1:mS (i+1) = .sl 0 0 40 (i+1):=if_neg (by omega)
         have g1:mG s (i+1)=[some (.blk true (.cells true (bE (dK s (i+1)))))]:=if_neg (by omega)
         have z2':((i+1)*40≤1099511627776)=True:=eq_true (by omega)
         have z3:(i+1≤1099511627776)=True:=eq_true (by omega)
         by_cases hi0:i=0
         ·subst hi0
          have s0:mS 0 = .nilsl:=rfl
          have g0:mG s 0=[]:=rfl
          have b0:hG s R 0 = -1:=rfl
          have m0:eG s R 0=0:=rfl
          have F1:dK s (0+1)=wX (dE s 0):=rfl
          rw[s1,g1,F1]
          have j1:((0:Int)<(n:Int))=True:=eq_true (by omega)
          have hx':mA s 0 45=dE s 0:=rfl
          have a8:IntKind.i64.wrap ((R:Int)+0)=(R:Int):=aG (by omega) (by omega)
          have a9:((45:Int)≤(s.size:Int))=True:=eq_true (by omega)
          have wz:IntKind.i64.wrap 45=45:=rfl
          have tz:Int.toNat 45=45:=rfl
          have j4:(0<n)=True:=eq_true (by omega)
          rw[Nat.add_zero]at c2
          cases hg:sW s R 0 with
          | true =>
            rw[hg]at c2
            have bb:hG s R (0+1) = -1:=by rw[hG,hg];rfl
            have mm:eG s R (0+1)=0:=by rw[eG,hg];rfl
            rw[bb,mm]
            generalize wX (dE s 0)=f at *
            (sym=>(simp[aE,aF,aL,Za,Zb,Zc,Zd,Ze,Zf,Zh,Zl,Zm,Zn,Zo,Zu,Zv,Zy,Z0,Z8,ZI,ZJ,ZL,ZP,ZQ,ZT,ZV,ZZ,Ya,Yb,Yf,Yo,Yp,Yr,Yu,Y3,Y4,Y6,Y7,Y8,YG,YJ,YN,YP,YY,Xa,Xb,Xc,Xd,Xe,Xg,Xi,Wb,Wd,We,Wf,Wg,Wk,Wm,Wn,Wq,Wr,Wt,Wu,Wv,Ww,Wx,Wy,Wz,WB,WC,WE,WF,WG,WJ,WK,WO,WQ,WR,WS,V0,V4,V5,V6,V7,V8,VC,VD,VE,VF,VG,VI,VJ,VK,VL,VN,VQ,VU,VX,VY,Ua,Ub,Uc,Ud,Ue,Uf,Ug,Ur,Us,Ut,Uv,Uw,Uz,U0,U1,U2,U3,U4,U5,U6,UA,UB,UE,UG,UH,UI,UK,UL,UM,UN,UP,UR,UT,UU,UX,Ta,Tb,Tc,Tl,Tm,Tn,Tp,Ts,Tv,T6,s0,g0,b0,m0,wz,tz,j1,j4,hx',c2,a8,a9,m1,k5,k6,g5,l0,gz,c8,bX,bT,bV,bY];all_goals tactic=>exact rfl))
          | false =>
            rw[hg]at c2
            have bb:hG s R (0+1)=0:=by rw[hG,hg];rfl
            have mm:eG s R (0+1)=1:=by rw[eG,hg];rfl
            rw[bb,mm]
            generalize wX (dE s 0)=f at *
            (sym=>(simp[aE,aF,aL,Za,Zb,Zc,Zd,Ze,Zf,Zh,Zl,Zm,Zn,Zo,Zu,Zv,Zy,Z0,Z8,ZI,ZJ,ZL,ZP,ZQ,ZT,ZV,ZZ,Ya,Yb,Yf,Yo,Yp,Yr,Yu,Y3,Y4,Y6,Y7,Y8,YG,YJ,YN,YP,YY,Xa,Xb,Xc,Xd,Xe,Xg,Xi,Wb,Wd,We,Wf,Wg,Wk,Wm,Wn,Wq,Wr,Wt,Wu,Wv,Ww,Wx,Wy,Wz,WB,WC,WE,WF,WG,WJ,WK,WO,WQ,WR,WS,V0,V4,V5,V6,V7,VC,VD,VE,VF,VG,VI,VJ,VK,VL,VN,VR,VU,VX,VY,Ua,Ub,Uc,Ud,Ue,Uf,Ug,Ur,Us,Ut,Uv,Uw,Uz,U0,U1,U2,U3,U4,U5,U6,UA,UB,UE,UG,UH,UI,UK,UL,UM,UN,UP,UR,UT,UU,UX,Ta,Tb,Tc,Tl,Tm,Tn,Tp,Ts,Tv,T6,s0,g0,b0,m0,wz,tz,j1,j4,hx',c2,a8,a9,m1,k5,k6,g5,l0,gz,c8,bX,bT,bV,bY];all_goals tactic=>exact rfl))
         ·have s0:mS i = .sl 0 0 40 i:=if_neg hi0
          have g0:mG s i=[some (.blk true (.cells true (bE (dK s i))))]:=if_neg hi0
          have e45:(i+1)*45=i*45+45:=by omega
          have a3':((i*45:Nat):Int).toNat=i*45:=rfl
          rw[s1,g1]
          cases hg:sW s R i with
          | true =>
            rw[hg]at c2
            have bb:hG s R (i+1)=hG s R i:=by rw[hG,hg];rfl
            have mm:eG s R (i+1)=eG s R i:=by rw[eG,hg];rfl
            rw[bb,mm]
            generalize dK s (i+1)=C1 at *
            generalize dK s i=C0 at *
            generalize wX (dE s i)=f at *
            (sym=>(simp[aE,aF,aL,Za,Zb,Zc,Zd,Ze,Zf,Zh,Zl,Zm,Zn,Zo,Zu,Zv,Zy,Z0,Z8,ZI,ZJ,ZL,ZP,ZQ,ZT,ZV,ZZ,Ya,Yb,Yf,Yo,Yp,Yr,Yu,Yz,Y2,YG,YJ,YN,YP,YY,Xa,Xb,Xc,Xd,Xe,Xg,Xi,Wb,Wd,We,Wf,Wg,Wk,Wm,Wn,Wq,Wr,Wt,Wu,Wv,Ww,Wx,Wy,Wz,WB,WC,WE,WF,WG,WJ,WK,WO,WQ,WR,WS,V0,V4,V5,V6,V7,V8,VC,VD,VE,VF,VG,VI,VJ,VK,VL,VN,VQ,VU,VX,VY,Ua,Ub,Uc,Ud,Ue,Uf,Ug,Ur,Us,Ut,Uv,Uw,Uz,U0,U1,U2,U3,U4,U5,U7,U8,UA,UB,UE,UG,UH,UI,UJ,UK,UL,UN,UP,UR,UT,UU,UX,Ta,Tb,Tc,Tl,Tm,Tn,Tp,Ts,Tv,s0,g0,i1,a2,a3,a4,a5,a6,a6b,hx,c2,m1,k5,k6,g5,l0,gz,c8,ap,lc,lc1,gc,gc1,z2',z3,bX,bT,bV,bY];all_goals tactic=>exact rfl))
          | false =>
            rw[hg]at c2
            have bb:hG s R (i+1)=(i:Int):=by rw[hG,hg];rfl
            have mm:eG s R (i+1)=eG s R i+1:=by rw[eG,hg];rfl
            rw[bb,mm]
            generalize dK s (i+1)=C1 at *
            generalize dK s i=C0 at *
            generalize wX (dE s i)=f at *
            generalize eG s R i=md at *
            (sym=>(simp[aE,aF,aL,Za,Zb,Zc,Zd,Ze,Zf,Zh,Zl,Zm,Zn,Zo,Zu,Zv,Zy,Z0,Z8,ZI,ZJ,ZL,ZP,ZQ,ZT,ZV,ZZ,Ya,Yb,Yf,Yo,Yp,Yr,Yu,Yz,Y2,YG,YJ,YN,YP,YY,Xa,Xb,Xc,Xd,Xe,Xg,Xi,Wb,Wd,We,Wf,Wg,Wk,Wm,Wn,Wq,Wr,Wt,Wu,Wv,Ww,Wx,Wy,Wz,WB,WC,WE,WF,WG,WJ,WK,WO,WQ,WR,WS,V0,V4,V5,V6,V7,VC,VD,VE,VF,VG,VI,VJ,VK,VL,VN,VR,VU,VX,VY,Ua,Ub,Uc,Ud,Ue,Uf,Ug,Ur,Us,Ut,Uv,Uw,Uz,U0,U1,U2,U3,U4,U5,U7,U8,UA,UB,UE,UG,UH,UI,UJ,UK,UL,UN,UP,UR,UT,UU,UX,Ta,Tb,Tc,Tl,Tm,Tn,Tp,Ts,Tv,s0,g0,i1,a2,a3,a4,a5,a6,a6b,a7,hx,c2,m1,k5,k6,g5,l0,gz,c8,ap,lc,lc1,gc,gc1,z2',z3,bX,bT,bV,bY];all_goals tactic=>exact rfl))
        ·have e0:((n:Int)<(n:Int))=False:=eq_false (by omega)
         (sym=>(simp[aE,aF,aL,Za,Zb,Zf,Zh,Zl,Zm,Z0,Yu,V0,V6,V8,V9,VZ,U9,UN,UP,US,UU,UV,Tb,e0];all_goals tactic=>exact rfl))
   ·have h0':=of_eq_false h0
    have z0:(((s.size%45:Nat):Int)=0)=False:=eq_false (by omega)
    have hv:tI s row=oH 20:=by unfold tI;rw[hb,if_pos rfl,if_pos (Or.inl h0')]
    rw[hv];unfold oH
    generalize s.size%45=rm at *
    generalize s.size/45=n at *
    (sym=>(simp[aE,aF,aL,Za,Zb,Zf,Zh,Zl,Zm,Zp,Zt,Zu,Zw,Z0,Z8,ZK,ZT,ZV,Ya,Yb,Yc,Yf,Yk,Yt,YG,YL,YM,Xa,Xb,Xe,Xf,Xl,Xp,Xs,XK,XM,XO,XX,Wk,Wl,Wt,Ww,Wx,Wy,WB,WC,WF,WG,WQ,WR,WS,Ve,Vm,Vn,Vo,Vp,Vq,Vr,Vt,Vu,Vv,Vw,Vx,Vz,V6,V7,V8,VB,VC,VD,VF,VG,VI,VK,VQ,VR,VZ,Uc,Ud,Ue,Uf,Ug,Uj,Uk,Un,Uo,UN,UP,UQ,UT,UU,UW,UY,Tb,Tc,Ty,c1,d1,d2,d3,z0];all_goals tactic=>exact rfl))
theorem q18 {vs:List AV} {h:XH} (hl:vs.length≤26):runW aH 18 vs h=cR none x18.res x18.ownR h.length (execW aH 18 h.length none x18.body (aP (if x18.ownA then vs else fY vs)) h):=bG rfl hl h rfl
def aJR (a b:List ByteArray) (m n:Nat):Prop:=m≤n∧(∀ i,i<m→a[i]?=b[i]?)∧(m=n∨a[m]?≠b[m]?)
theorem zF (a b:List ByteArray):∀ n,∃ m,aJR a b m n
 | 0=>⟨0,Nat.le_refl _,fun i hi=>by omega,.inl rfl⟩
 | n+1=>by
   obtain⟨m,h1,h2,h3⟩:=zF a b n
   rcases h3 with rfl|h3
   ·by_cases h:a[m]?=b[m]?
    ·exact⟨m+1,Nat.le_refl _,fun i hi=>by
      by_cases hi2:i=m
      ·rw[hi2];exact h
      ·exact h2 i (by omega),.inl rfl⟩
    ·exact⟨m,by omega,h2,.inr h⟩
   ·exact⟨m,by omega,h2,.inr h3⟩
theorem jS (a b:ByteArray):sT BinOp.neq a b=some (.bool (!decide (a=b))):=by
 show some (AV.bool (!(a.toList==b.toList)))=_
 rw[aCN,aCN]
 congr 3
 cases a with
 | mk x =>
   cases b with
   | mk y =>
     cases x with
     | mk x =>
       cases y with
       | mk y =>
         show (x==y)=decide ((⟨⟨x⟩⟩:ByteArray)=⟨⟨y⟩⟩)
         by_cases h:x=y
         ·subst h;simp
         ·have:¬((⟨⟨x⟩⟩:ByteArray)=⟨⟨y⟩⟩):=fun hh=>h (by injection hh with h1;injection h1)
          simp[h]
theorem w18 {a b:List ByteArray} (hb:b.length<1000000000):runW aH 18 [.fs (rS a),.fs (rS b)] []=some (.bool (decide (a=b)),[]):=by
 have la:=jK a
 have lb:=jK b
 rw[q18 (by simp)];unfold x18;dsimp only
 by_cases hl:a.length=b.length
 ·have e1:((a.length:Int)=(b.length:Int))=True:=eq_true (by omega)
  obtain⟨m,m1,m2,m3⟩:=zF a b b.length
  have z:=U9 (n:=(b.length:Int))
  sym =>
   simp[Za,Zb,Zf,Zh,Zl,Zm,Zu,Z0,ZK,Yi,Yt,XV,Wl,Vz,V6,V8,VB,VK,VQ,VY,Un,Uo,UN,UP,UR,UT,UU,Tb,Tc,la,lb,e1]
   tactic =>
    unfold aHW
    rw[aY m (fun i=>[.fs (rS a),.fs (rS b),I (i:Nat)]) (fun _=>[])]
    ·rcases m3 with rfl|m3
     ·have hab:a=b:=List.ext_getElem? fun i=>by
       by_cases hi:i<b.length
       ·exact m2 i hi
       ·rw[List.getElem?_eq_none (by omega),List.getElem?_eq_none (by omega)]
      have d:decide (a=b)=true:=decide_eq_true hab
      rw[d]
      (sym=>(simp[Za,Zb,Zf,Zh,Zl,Zm,Zu,Z0,ZK,Yi,Yu,YH,Xb,Xm,XL,Wt,Wx,Wy,WB,WC,Ve,Vm,Vn,Vo,Vp,Vq,Vr,Vs,Vu,Vv,Vw,Vx,V0,V6,V8,VD,VG,VI,VZ,Uc,Ud,Ue,U9,UN,UP,UQ,US,UU,UV,UZ,Tb,Tc,Ty,la,lb,z,hl];all_goals tactic=>exact rfl))
     ·have hm:m<b.length:=by
       by_cases hm:m<b.length
       ·exact hm
       ·exact absurd (by rw[List.getElem?_eq_none (by omega),List.getElem?_eq_none (by omega)]) m3
      have d:decide (a=b)=false:=decide_eq_false fun h=>m3 (by rw[h])
      rw[d]
      obtain⟨x,hx⟩:=eC (l:=a) (i:=m) (by omega)
      obtain⟨y,hy⟩:=eC (l:=b) (i:=m) hm
      have hxy:=jS x y
      rw[decide_eq_false (fun h=>m3 (by rw[hx,hy,h]):¬x=y)]at hxy
      have ax:=gI hx
      have ay:=gI hy
      have i1:((m:Int)<(b.length:Int))=True:=eq_true (by omega)
      have i2:((m:Int)<(a.length:Int))=True:=eq_true (by omega)
      (sym=>(simp[Za,Zb,Zf,Zh,Zi,Zl,Zm,Zu,Z0,ZD,ZK,ZN,ZO,Yi,Ym,Yn,Yu,Yz,Y2,YH,Xb,Xm,XL,Wm,Wt,Wx,Wy,WB,WC,Ve,Vm,Vn,Vo,Vp,Vq,Vr,Vs,Vu,Vv,Vw,Vx,V0,V6,V7,VD,VG,VI,VJ,VK,VR,VU,VY,Uc,Ud,Ue,UC,UD,UF,UN,UO,UP,UQ,UR,UT,UU,UW,UY,Tb,Tc,Ty,la,lb,ax,ay,hxy,i1,i2];all_goals tactic=>exact rfl))
    ·(sym=>(simp[Za,Y7,YG,YM,Xa,Xf,Wl,Wt,Wx,Wy,WB,WC,Vz,V4,V5,VC,VD,VG,VI,Uc,Ud,Ue,Uf,Ug,Ta,la];all_goals tactic=>exact rfl))
    ·intro i hi
     have hib:i<b.length:=by omega
     obtain⟨y,hy⟩:=eC (l:=b) hib
     have hx:a[i]?=some y:=by rw[m2 i hi];exact hy
     have ax:=gI hx
     have ay:=gI hy
     have hxy:=jS y y
     rw[decide_eq_true (rfl:y=y)]at hxy
     have i1:((i:Int)<(b.length:Int))=True:=eq_true (by omega)
     have i2:((i:Int)<(a.length:Int))=True:=eq_true (by omega)
     have a2:=eS hib (by omega)
     (sym=>(simp[Za,Zb,Zf,Zh,Zi,Zl,Zm,Zu,Z0,ZD,ZK,ZN,ZO,Yi,Ym,Yn,Yp,Yu,Yz,Y2,YG,YM,Xa,Xf,Wm,Wt,Wx,Wy,WB,WC,V0,V4,V5,V6,V7,V8,VC,VD,VG,VI,VJ,VK,VQ,VU,VY,Uc,Ud,Ue,Uf,Ug,UC,UD,UF,UN,UO,UP,UR,UT,UU,UX,Ta,Tb,Tc,la,lb,ax,ay,hxy,i1,i2,a2];all_goals tactic=>exact rfl))
    ·rcases m3 with rfl|m3
     ·(sym=>(simp[Za,Zb,Zf,Zh,Zl,Zm,Zu,Z0,ZK,Yi,Yu,V0,V6,V8,V9,VZ,U9,UN,UP,US,UU,UV,Tb,la,lb,z,hl];all_goals tactic=>exact rfl))
     ·have hm:m<b.length:=by
       by_cases hm:m<b.length
       ·exact hm
       ·exact absurd (by rw[List.getElem?_eq_none (by omega),List.getElem?_eq_none (by omega)]) m3
      obtain⟨x,hx⟩:=eC (l:=a) (i:=m) (by omega)
      obtain⟨y,hy⟩:=eC (l:=b) (i:=m) hm
      have hxy:=jS x y
      rw[decide_eq_false (fun h=>m3 (by rw[hx,hy,h]):¬x=y)]at hxy
      have ax:=gI hx
      have ay:=gI hy
      have i1:((m:Int)<(b.length:Int))=True:=eq_true (by omega)
      have i2:((m:Int)<(a.length:Int))=True:=eq_true (by omega)
      (sym=>(simp[Za,Zb,Zf,Zh,Zi,Zl,Zm,Zu,Z0,ZD,ZK,ZN,ZO,Yi,Ym,Yn,Yu,Yz,Y2,Wm,V0,V6,V7,VA,VJ,VK,VR,VU,VY,UC,UD,UF,UN,UO,UP,UQ,UR,UT,UU,UW,UY,Tb,Tc,la,lb,ax,ay,hxy,i1,i2];all_goals tactic=>exact rfl))
 ·have e1:((a.length:Int)=(b.length:Int))=False:=eq_false (by omega)
  have d:decide (a=b)=false:=decide_eq_false fun h=>hl (by rw[h])
  rw[d]
  (sym=>(simp[Za,Zb,Zf,Zh,Zl,Zm,Zu,Z0,ZK,Yi,Yt,YH,Xb,Xm,XL,XV,Wl,Wt,Wx,Wy,WB,WC,Ve,Vm,Vn,Vo,Vp,Vq,Vr,Vs,Vu,Vv,Vw,Vx,Vz,V6,V7,VB,VD,VG,VI,VK,VR,VZ,Uc,Ud,Ue,Un,Uo,UN,UP,UQ,UU,UW,Tb,Tc,Ty,la,lb,e1];all_goals tactic=>exact rfl))
theorem aAe (a b:List Nat):fP a++fP b=fP (a++b):=by
 unfold fP;rw[aGt];simp
theorem jO (s:ByteArray):(bN s).length=s.size:=by
 unfold bN;rw[List.length_map,Array.length_toList];rfl
end Go.Proofs.YtmapgnepfgnphaaGreatDoor
namespace Go.Proofs.YtmapgnepfgnphaaGreatDoor
open Go Go.DL
theorem rO {l:List Nat} (h:wQ l):bN (fP l)=l:=by
 unfold bN fP
 rw[List.map_map]
 apply List.ext_getElem?
 intro i
 rw[List.getElem?_map]
 cases hx:l[i]? with
 | none=>rfl
 | some x =>
   have:=h i x hx
   simp only[Option.map_some,Function.comp]
   rw[UInt8.toNat_ofNat',Nat.mod_eq_of_lt this]
theorem aAd (s:ByteArray):fP (bN s)=s:=by
 unfold bN fP
 rw[List.map_map]
 cases s with
 | mk d =>
   cases d with
   | mk l =>
     congr 2
     conv=>rhs;rw[←List.map_id l]
     apply List.map_congr_left
     intro b _
     simp
def pM (f:List Nat):Bool:=f.all fun x=>decide (32≤x)&&decide (x≤126)
theorem nS:∀ l:List UInt8,iK l = !pM (l.map UInt8.toNat)
 | []=>rfl
 | x::l=>by
   have ih:=nS l
   show (decide (x.toNat<32)||(decide (126<x.toNat)||iK l)) = !((decide (32≤x.toNat)&&decide (x.toNat≤126))&&pM (l.map UInt8.toNat))
   rw[ih,Bool.not_and,Bool.not_and,←decide_not,←decide_not]
   simp only[Nat.not_le,Bool.or_assoc]
theorem tH {l:List Nat} (h:l.length=40):bO l=l:=by
 unfold bO
 rw[List.take_of_length_le (by omega),h];simp
theorem aDs {C D:List Nat} {n k:Nat} (hC:C.length=n*40) (hk:k<n):dB (C++D) k=dB C k:=by
 have:(k+1)*40≤n*40:=Nat.mul_le_mul_right _ hk
 unfold dB
 rw[List.drop_append_of_le_length (by omega),List.take_append_of_le_length (by simp;omega)]
theorem aBr {C f:List Nat} {n:Nat} (hC:C.length=n*40) (hf:f.length=40):dB (C++f) n=f:=by
 unfold dB
 rw[List.drop_append,List.drop_eq_nil_of_le (by omega),hC,Nat.sub_self,List.nil_append,List.drop_zero,List.take_of_length_le (by omega)]
def dX (C:List Nat) (j:Nat):Nat→Nat
 | 0=>0
 | k+1=>dX C j k+dY ((dB C k).getD j 0)
theorem aGq {y:Nat} (h:y<95):dY (32+y)=y:=by unfold dY;omega
theorem uZ {t:Nat}:∀ {f o:List Nat} {j x y:Nat},f[j]?=some x→o[j]?=some y→(bU t f o)[j]?=some (pv t x y)
 | [],_,_,_,_,h,_=>by simp at h
 | _::_,[],_,_,_,_,h=>by simp at h
 | a::f,b::o,0,x,y,h1,h2=>by
   simp only[List.getElem?_cons_zero,oSI]at h1 h2
   subst h1 h2;rfl
 | a::f,b::o,j+1,x,y,h1,h2=>by
   simp only[List.getElem?_cons_succ]at h1 h2
   rw[bU,List.getElem?_cons_succ]
   exact uZ h1 h2
theorem aHn {l:List Nat} {j:Nat} (h:j<l.length):l[j]?=some (l.getD j 0):=by
 rw[List.getD_eq_getElem?_getD,List.getElem?_eq_getElem h];rfl
theorem rA {C:List Nat} {n j:Nat} (hC:n*40≤C.length) (hj:j<40):∀ {k},k≤n→(bZ C k)[j]?=some (32+dX C j k%95)
 | 0,_=>by
   have:bZ C 0=List.replicate 40 32:=rfl
   rw[this,List.getElem?_replicate,if_pos hj];rfl
 | k+1,hk=>by
   have ih:=rA hC hj (k:=k) (by omega)
   have hf:=aHn (l:=dB C k) (j:=j) (by rw[oG hC (by omega)];exact hj)
   rw[bZ,uZ ih hf]
   unfold pv
   rw[dX,aGq (Nat.mod_lt _ (by decide))]
   congr 2;omega
end Go.Proofs.YtmapgnepfgnphaaGreatDoor
