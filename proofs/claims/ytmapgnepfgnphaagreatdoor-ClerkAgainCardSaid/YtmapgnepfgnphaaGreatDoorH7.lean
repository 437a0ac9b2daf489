/- Parts of a proof, joined: GT SH Z1 Z2 Z3 Z5 Z6 Y0 Y1 Z4 Z7 PF F0 K1 K2 RTX K3 K4 K5 K6 K7 K8 K9 K10 K11 K12 P1 P2 P3 P4 P5 P6 K13 LB U1 P7 K15. No statement of the seed is proved here. -/
import Derived.Shelf.Strings.Builder1
import Derived.Shelf.Strings.Builder2
import Derived.Shelf.Strings.OnBuilder
import Derived.Shelf.Strings.Trim
import Derived.Shelf.Small.Utf8
import Derived.Shelf.Small.Strs
import Derived.Shelf.Small.Wraps
import Derived.Shelf.Strings.BuilderF
import Derived.Shelf.Strings.BuilderK
import Derived.Shelf.Strconv.Atoi
import Derived.Shelf.Strconv.Itoa0
import Derived.Shelf.Strconv.Itoa1
import Derived.Shelf.LaysM
import Derived.Shelf.Strconv.Itoa2
import Derived.Shelf.Strconv.Itoa3
import Derived.Shelf.Strconv.AtoiErrFast
import Derived.Shelf.Strconv.ParseIntEmpty
import Derived.Shelf.Strconv.AtoiFail
import Derived.Shelf.Strconv.Clone
import Derived.Shelf.Strconv.SyntaxError
import Derived.Shelf.LaysC
import Derived.Shelf.Strconv.ToError
import Derived.Shelf.Strconv.Lower
import Derived.Shelf.Strconv.ParseUint10
import Derived.Shelf.Strconv.ParseUint10Empty
import Derived.Shelf.Strconv.ParseUint10Any
import Derived.Shelf.Strconv.ParseInt10
import Derived.Shelf.Strconv.AtoiLong
import Derived.Shelf.Strconv.AtoiInnerAll
import Derived.Shelf.Strconv.RangeError
import Derived.Shelf.Strconv.ToErrorRange
import Derived.Shelf.Strconv.AtoiAll
import Derived.Shelf.Strings.Search1
import Derived.Shelf.Strings.Search2
import Derived.Shelf.Strings.Search3
import Derived.Shelf.Strings.Count
import Derived.Shelf.Strings.Shaped
import Derived.Shelf.GgClosure.StringsIndexFunc
import Derived.Ground.GgwProg
import Derived.Shelf.GgClosure.StringsIndexFuncTop
import Derived.Shelf.GgClosure.StringsRunes
import Derived.Shelf.Strings.Prefix
import Derived.Shelf.Strings.Split
import Derived.Shelf.Strings.SplitShaped
import Derived.Shelf.Unicode.Decode
import Derived.Shelf.Strings.Runes
import Derived.Shelf.Strings.RuneCount
import Derived.Shelf.Strings.AsciiSet
import Derived.Shelf.Strings.Explode
import Derived.Shelf.Bits.Mul64
import Derived.Shelf.Strings.Repeat
import Derived.Shelf.Unicode.DecodeSlow
import Derived.Shelf.Unicode.DecodeAny
import Derived.Shelf.Unicode.DecodeLast
import Derived.Shelf.Strings.FuncGrows
import Derived.Shelf.Slices.Turned
import Derived.Test.YtmapgnepfgnphaaGreatDoorProg
import Derived.KernelRfl
import Derived.Lib.AtoiAllCases
import Derived.Test.YtmapgnepfgnphaaGreatDoorH6
set_option linter.unusedSimpArgs false
set_option linter.unusedVariables false
set_option linter.unusedSectionVars false
set_option maxRecDepth 100000
set_option maxHeartbeats 4000000
namespace Go.Proofs.YtmapgnepfgnphaaGreatDoor
open Go Go.DL Go.Proofs.Tryz

def aVP:List (Nat×XFn):=[(9,x9),(13,x13),(14,x14),(16,x16),(18,x18),(19,x19),(23,x23),(25,x25),(29,x29),(30,x30),(31,x31),(32,x32),(33,x33),(34,x34),(35,x35),(36,x36),(38,x38),(42,x42),(43,x43),(44,x44),(45,x45),(46,x46),(52,x52),(53,x53),(54,x54),(55,x55),(58,x58),(59,x59),(60,x60),(61,mO),(62,uP),(69,x69),(70,x70),(73,x73),(75,x75),(77,x77),(84,x84),(85,x85),(86,x86),(87,x87),(88,x88),(89,x89),(90,x90),(91,x91),(92,x92),(93,x93),(94,x94),(95,x95),(96,x96),(97,x97),(98,x98),(116,aKm),(119,x119),(126,aVo),(127,aVn),(128,aCW),(129,aFV),(130,aPF),(131,aFU),(132,aKl),(133,aFT),(134,aFS),(135,aKk),(136,aFR),(137,aPE),(154,aVl),(155,aVk),(156,aVj),(157,aVi),(158,aVh),(159,aPD),(160,aPC),(175,aVf),(179,aVe),(180,aVd),(181,aVc),(182,aPB),(183,aPA),(184,aLF),(185,aPz),(186,aPy),(197,aVb),(198,aVa),(201,aUZ),(202,aUY),(203,aPx),(204,aPw),(205,aPv),(206,aPu),(207,aPt),(211,aPs),(212,aPr),(213,aPq),(215,aPp),(234,aLz),(235,aPo),(236,aPn),(237,aPm),(242,aPl),(243,aPk),(244,aPj),(245,aPi)]
def aJn:Nat→Option XFn:=aGU aVP
theorem aAI:∀ p∈aVP,aR prog p :=
 aU is9 (aU bBg (aU bBf (aU bBe (aU bBd (aU bBc (aU bBb (aU bBa (aU bAZ (aU aTW (aU bAY (aU bAX (aU bAW (aU bAV (aU bAU (aU bAT (aU bAS (aU bAR (aU bAQ (aU bAP (aU bAO (aU bAN (aU bAM (aU bAL (aU bAK (aU bAJ (aU bAI (aU bAH (aU bAG (aU bAF (aU bAE (aU bAD (aU bAC (aU bAB (aU bAA (aU bAz (aU bAy (aU bAx (aU bAw (aU bAv (aU bAu (aU bAt (aU bAs (aU bAr (aU bAq (aU bAp (aU bAo (aU bAn (aU bAm (aU bAl (aU bAk (aU aXO (aU aXN (aU aXM (aU aXL (aU aXK (aU aXJ (aU aXI (aU aXH (aU aXG (aU aXF (aU aXE (aU aXD (aU aXC (aU aXB (aU aXA (aU aXz (aU aXy (aU aXx (aU aXw (aU aXv (aU aXu (aU aXt (aU aXs (aU aXr (aU aXq (aU aXp (aU aXo (aU aXn (aU aXm (aU aXl (aU aXk (aU aXj (aU aXi (aU aXh (aU aXg (aU aXf (aU aXe (aU aXd (aU aXc (aU aXb (aU aXa (aU aWZ (aU aWY (aU aWX (aU aWW (aU aWV (aU aWU (aU aWT (aU aWS (aU aWR (aU aWQ (bBA))))))))))))))))))))))))))))))))))))))))))))))))))))))))))))))))))))))))))))))))))))))))))))))))))))))
theorem aNk{k:Nat}{d:XFn}(h:aJn k=some d):d.prm=none:=(aAI _ (pB h)).2.2.2
theorem progX_ok:XOk prog aJn:=⟨rfl,fun k d h _=>(aAI _ (pB h)).1,fun k d f h hp=>(by rw[aNk h]at hp;cases hp),fun k d h=>(aAI _ (pB h)).2.1,fun k d h=>(aAI _ (pB h)).2.2.1⟩
end Go.Proofs.YtmapgnepfgnphaaGreatDoor
namespace Go.Proofs
open Go.Shelf
def Tryz.lays156_ren:Go.Shelf.Ren:=⟨fun|156=>99|165=>138|166=>69|169=>71|240=>115|241=>161|276=>140|277=>187|n=>n,fun|31=>22|9=>9|3=>3|4=>4|0=>0|20=>20|72=>126|76=>129|70=>124|37=>59|75=>128|127=>183|164=>215|5=>5|80=>37|n=>n,fun|n=>n⟩
theorem Tryz.lays156:Go.Proofs.Lays.n156 Tryz.prog Tryz.lays156_ren:={
 mixed:=by kernel_rfl
 f156:=Tryz.func99.trans (AAt some (by kernel_rfl))
 f165:=Tryz.func138.trans (AAt some (by kernel_rfl))
 f166:=Tryz.func69.trans (AAt some (by kernel_rfl))
 f169:=Tryz.func71.trans (AAt some (by kernel_rfl))
 f240:=Tryz.func115.trans (AAt some (by kernel_rfl))
 f241:=Tryz.func161.trans (AAt some (by kernel_rfl))
 f276:=Tryz.func140.trans (AAt some (by kernel_rfl))
 f277:=Tryz.func187.trans (AAt some (by kernel_rfl))
 t0:=Tryz.underlying0
 a0:=Tryz.isAgg0
 z0:=Tryz.sizeOf0
 v0:=Tryz.zeroValue0
 t3:=Tryz.underlying3
 a3:=Tryz.isAgg3
 z3:=Tryz.sizeOf3
 v3:=Tryz.zeroValue3
 t4:=Tryz.underlying4
 a4:=Tryz.isAgg4
 z4:=Tryz.sizeOf4
 v4:=Tryz.zeroValue4
 t9:=Tryz.underlying9
 a9:=Tryz.isAgg9
 z9:=Tryz.sizeOf9
 v9:=Tryz.zeroValue9
 t20:=Tryz.underlying20
 a20:=Tryz.isAgg20
 z20:=Tryz.sizeOf20
 v20:=Tryz.zeroValue20
 t31:=Tryz.underlying22
 a31:=Tryz.isAgg22
 z31:=Tryz.sizeOf22
 v31:=Tryz.zeroValue22
 t37:=Tryz.underlying59
 a37:=Tryz.isAgg59
 z37:=Tryz.sizeOf59
 v37:=Tryz.zeroValue59
 t70:=Tryz.underlying124
 a70:=Tryz.isAgg124
 z70:=Tryz.sizeOf124
 v70:=Tryz.zeroValue124
 t72:=Tryz.underlying126
 a72:=Tryz.isAgg126
 z72:=Tryz.sizeOf126
 v72:=Tryz.zeroValue126
 t75:=Tryz.underlying128
 a75:=Tryz.isAgg128
 z75:=Tryz.sizeOf128
 v75:=Tryz.zeroValue128
 t76:=Tryz.underlying129
 a76:=Tryz.isAgg129
 z76:=Tryz.sizeOf129
 v76:=Tryz.zeroValue129
 t127:=Tryz.underlying183
 a127:=Tryz.isAgg183
 z127:=Tryz.sizeOf183
 v127:=Tryz.zeroValue183
 t164:=Tryz.underlying215
 a164:=Tryz.isAgg215
 z164:=Tryz.sizeOf215
 v164:=Tryz.zeroValue215 }
theorem Tryz.Builder_Extra_156:Builder.Extra Tryz.prog Tryz.lays156_ren:={
 sizeBuilder:=by kernel_rfl
 liesBuilder:=by kernel_rfl
 t5:=Tryz.underlying5
 a5:=Tryz.isAgg5
 z5:=Tryz.sizeOf5
 v5:=Tryz.zeroValue5
 infoByte:=by kernel_rfl
 cellsByte:=by kernel_rfl
 sizeByte:=by kernel_rfl
 neB5:=by decide }
open Go.RowKit in
theorem Tryz.strings_Join_none(a:Option Addr)(c:Nat)(sep:ByteArray)(w:World) :
 Calls Tryz.prog 99 #[.slice a 0 c,.string sep] w fun e w'=>e = .returned (.string ⟨#[]⟩)∧w'=w:=Any.strings_Join_none Tryz.lays156 Tryz.Builder_Extra_156 a c sep w
open Go.RowKit in
theorem Tryz.strings_Join(bk o c:Nat)(xs:List ByteArray)(sep:ByteArray)(w:World)(hcells:∀(j:Nat) x,xs[j]?=some x→w.cell? ⟨bk,o+j,none⟩=some (.string x))(hbk:bk<w.heap.size)(hN:xs.length≤140737488355328)(hcap:xs.length≤c)(hlen:(Lib.join (xs.map (·.data.toList)) sep.data.toList).length≤140737488355328) :
 Calls Tryz.prog 99 #[.slice (some ⟨bk,o,none⟩) xs.length c,.string sep] w fun e w'=>e = .returned (.string ⟨(Lib.join (xs.map (·.data.toList)) sep.data.toList).toArray⟩)∧Below w.heap.size w w':=Any.strings_Join Tryz.lays156 Tryz.Builder_Extra_156 bk o c xs sep w hcells hbk hN hcap hlen
def Tryz.lays162_ren:Go.Shelf.Ren:=⟨fun|162=>80|232=>120|227=>121|234=>122|236=>123|228=>144|271=>145|151=>146|120=>168|197=>169|152=>170|260=>192|137=>193|119=>194|224=>195|225=>196|217=>199|266=>209|n=>n,fun|9=>9|4=>4|3=>3|5=>5|117=>188|116=>187|0=>0|124=>191|21=>21|105=>218|46=>238|119=>286|139=>289|138=>288|n=>n,fun|3=>4|4=>5|n=>n⟩
theorem Tryz.lays162:Go.Proofs.Lays.n162 Tryz.prog Tryz.lays162_ren:={
 mixed:=by kernel_rfl
 f119:=Tryz.func194.trans (AAt some (by kernel_rfl))
 f120:=Tryz.func168.trans (AAt some (by kernel_rfl))
 f137:=Tryz.func193.trans (AAt some (by kernel_rfl))
 f151:=Tryz.func146.trans (AAt some (by kernel_rfl))
 f152:=Tryz.func170.trans (AAt some (by kernel_rfl))
 f162:=Tryz.func80.trans (AAt some (by kernel_rfl))
 f197:=Tryz.func169.trans (AAt some (by kernel_rfl))
 f217:=Tryz.func199.trans (AAt some (by kernel_rfl))
 f224:=Tryz.func195.trans (AAt some (by kernel_rfl))
 f225:=Tryz.func196.trans (AAt some (by kernel_rfl))
 f227:=Tryz.func121.trans (AAt some (by kernel_rfl))
 f228:=Tryz.func144.trans (AAt some (by kernel_rfl))
 f232:=Tryz.func120.trans (AAt some (by kernel_rfl))
 f234:=Tryz.func122.trans (AAt some (by kernel_rfl))
 f236:=Tryz.func123.trans (AAt some (by kernel_rfl))
 f260:=Tryz.func192.trans (AAt some (by kernel_rfl))
 f266:=Tryz.func209.trans (AAt some (by kernel_rfl))
 f271:=Tryz.func145.trans (AAt some (by kernel_rfl))
 t0:=Tryz.underlying0
 a0:=Tryz.isAgg0
 z0:=Tryz.sizeOf0
 v0:=Tryz.zeroValue0
 t3:=Tryz.underlying3
 a3:=Tryz.isAgg3
 z3:=Tryz.sizeOf3
 v3:=Tryz.zeroValue3
 t4:=Tryz.underlying4
 a4:=Tryz.isAgg4
 z4:=Tryz.sizeOf4
 v4:=Tryz.zeroValue4
 t5:=Tryz.underlying5
 a5:=Tryz.isAgg5
 z5:=Tryz.sizeOf5
 v5:=Tryz.zeroValue5
 t9:=Tryz.underlying9
 a9:=Tryz.isAgg9
 z9:=Tryz.sizeOf9
 v9:=Tryz.zeroValue9
 t21:=Tryz.underlying21
 a21:=Tryz.isAgg21
 z21:=Tryz.sizeOf21
 v21:=Tryz.zeroValue21
 t46:=Tryz.underlying238
 a46:=Tryz.isAgg238
 z46:=Tryz.sizeOf238
 v46:=Tryz.zeroValue238
 t105:=Tryz.underlying218
 a105:=Tryz.isAgg218
 z105:=Tryz.sizeOf218
 v105:=Tryz.zeroValue218
 t116:=Tryz.underlying187
 a116:=Tryz.isAgg187
 z116:=Tryz.sizeOf187
 t117:=Tryz.underlying188
 a117:=Tryz.isAgg188
 z117:=Tryz.sizeOf188
 v117:=Tryz.zeroValue188
 t119:=Tryz.underlying286
 a119:=Tryz.isAgg286
 z119:=Tryz.sizeOf286
 t124:=Tryz.underlying191
 a124:=Tryz.isAgg191
 z124:=Tryz.sizeOf191
 v124:=Tryz.zeroValue191
 t138:=Tryz.underlying288
 a138:=Tryz.isAgg288
 z138:=Tryz.sizeOf288
 v138:=Tryz.zeroValue288
 t139:=Tryz.underlying289
 a139:=Tryz.isAgg289
 z139:=Tryz.sizeOf289
 v139:=Tryz.zeroValue289
 g3:=by kernel_rfl
 g4:=by kernel_rfl }
open Go.RowKit in
theorem Tryz.strings_TrimRight_one(s:ByteArray)(c:UInt8)(hc:c.toNat<128)(w:World)(hs:s.size≤9223372036854775807) :
 Calls Tryz.prog 80 #[.string s,.string ⟨#[c]⟩] w fun e w'=>e = .returned (.string ⟨(Lib.trimRightB s.data.toList c).toArray⟩)∧w'=w:=Any.strings_TrimRight_one Tryz.lays162 s c hc w hs
def Tryz.lays103_ren:Go.Shelf.Ren:=⟨fun|103=>72|210=>117|206=>141|n=>n,fun|9=>9|4=>4|24=>55|3=>3|n=>n,fun|n=>n⟩
theorem Tryz.lays103:Go.Proofs.Lays.n103 Tryz.prog Tryz.lays103_ren:={
 mixed:=by kernel_rfl
 f103:=Tryz.func72.trans (AAt some (by kernel_rfl))
 f206:=Tryz.func141.trans (AAt some (by kernel_rfl))
 f210:=Tryz.func117.trans (AAt some (by kernel_rfl))
 t3:=Tryz.underlying3
 a3:=Tryz.isAgg3
 z3:=Tryz.sizeOf3
 v3:=Tryz.zeroValue3
 t4:=Tryz.underlying4
 a4:=Tryz.isAgg4
 z4:=Tryz.sizeOf4
 v4:=Tryz.zeroValue4
 t9:=Tryz.underlying9
 a9:=Tryz.isAgg9
 z9:=Tryz.sizeOf9
 v9:=Tryz.zeroValue9
 t24:=Tryz.underlying55
 a24:=Tryz.isAgg55
 z24:=Tryz.sizeOf55
 v24:=Tryz.zeroValue55 }
open Go.RowKit in
theorem Tryz.strings_CutPrefix(s p:ByteArray)(w:World) :
 Calls Tryz.prog 72 #[.string s,.string p] w fun e w'=>e = .returned (.tuple #[.string ⟨(Lib.trimPrefix s.data.toList p.data.toList).toArray⟩,.bool (Lib.hasPrefix s.data.toList p.data.toList)])∧w'=w:=Any.strings_CutPrefix Tryz.lays103 s p w
def Tryz.laysM171_ren:Go.Shelf.Ren:=⟨fun|171=>57|243=>82|246=>124|283=>147|284=>148|285=>149|286=>150|129=>172|317=>171|318=>173|319=>174|320=>175|337=>197|338=>198|n=>n,fun|3=>3|9=>9|2=>2|4=>4|171=>221|0=>0|53=>222|37=>59|5=>5|173=>225|212=>251|51=>252|20=>20|213=>253|46=>238|232=>290|233=>291|n=>n,fun|17=>0|18=>6|19=>7|n=>n⟩
theorem Tryz.laysM171:Go.Proofs.LaysM.n171 Tryz.prog Tryz.laysM171_ren:={
 mixed:=by kernel_rfl
 f129:=Tryz.func172.trans (AAt some (by kernel_rfl))
 f171:=Tryz.func57.trans (AAt some (by kernel_rfl))
 f243:=Tryz.func82.trans (AAt some (by kernel_rfl))
 f246:=Tryz.func124.trans (AAt some (by kernel_rfl))
 f283:=Tryz.func147.trans (AAt some (by kernel_rfl))
 f284:=Tryz.func148.trans (AAt some (by kernel_rfl))
 f285:=Tryz.func149.trans (AAt some (by kernel_rfl))
 f286:=Tryz.func150.trans (AAt some (by kernel_rfl))
 f317:=Tryz.func171.trans (AAt some (by kernel_rfl))
 f318:=Tryz.func173.trans (AAt some (by kernel_rfl))
 f319:=Tryz.func174.trans (AAt some (by kernel_rfl))
 f320:=Tryz.func175.trans (AAt some (by kernel_rfl))
 f337:=Tryz.func197.trans (AAt some (by kernel_rfl))
 f338:=Tryz.func198.trans (AAt some (by kernel_rfl))
 t0:=Tryz.underlying0
 a0:=Tryz.isAgg0
 z0:=Tryz.sizeOf0
 v0:=Tryz.zeroValue0
 t2:=Tryz.underlying2
 a2:=Tryz.isAgg2
 z2:=Tryz.sizeOf2
 v2:=Tryz.zeroValue2
 t3:=Tryz.underlying3
 a3:=Tryz.isAgg3
 z3:=Tryz.sizeOf3
 v3:=Tryz.zeroValue3
 t4:=Tryz.underlying4
 a4:=Tryz.isAgg4
 z4:=Tryz.sizeOf4
 v4:=Tryz.zeroValue4
 t5:=Tryz.underlying5
 a5:=Tryz.isAgg5
 z5:=Tryz.sizeOf5
 v5:=Tryz.zeroValue5
 t9:=Tryz.underlying9
 a9:=Tryz.isAgg9
 z9:=Tryz.sizeOf9
 v9:=Tryz.zeroValue9
 t20:=Tryz.underlying20
 a20:=Tryz.isAgg20
 z20:=Tryz.sizeOf20
 v20:=Tryz.zeroValue20
 t37:=Tryz.underlying59
 a37:=Tryz.isAgg59
 z37:=Tryz.sizeOf59
 v37:=Tryz.zeroValue59
 t46:=Tryz.underlying238
 a46:=Tryz.isAgg238
 z46:=Tryz.sizeOf238
 v46:=Tryz.zeroValue238
 t51:=Tryz.underlying252
 a51:=Tryz.isAgg252
 z51:=Tryz.sizeOf252
 v51:=Tryz.zeroValue252
 t53:=Tryz.underlying222
 a53:=Tryz.isAgg222
 z53:=Tryz.sizeOf222
 v53:=Tryz.zeroValue222
 t171:=Tryz.underlying221
 a171:=Tryz.isAgg221
 z171:=Tryz.sizeOf221
 v171:=Tryz.zeroValue221
 t173:=Tryz.underlying225
 a173:=Tryz.isAgg225
 z173:=Tryz.sizeOf225
 v173:=Tryz.zeroValue225
 t212:=Tryz.underlying251
 a212:=Tryz.isAgg251
 z212:=Tryz.sizeOf251
 v212:=Tryz.zeroValue251
 t213:=Tryz.underlying253
 a213:=Tryz.isAgg253
 z213:=Tryz.sizeOf253
 t232:=Tryz.underlying290
 a232:=Tryz.isAgg290
 z232:=Tryz.sizeOf290
 v232:=Tryz.zeroValue290
 t233:=Tryz.underlying291
 a233:=Tryz.isAgg291
 z233:=Tryz.sizeOf291
 v233:=Tryz.zeroValue291
 g17:=by kernel_rfl
 g18:=by kernel_rfl
 g19:=by kernel_rfl
 i0:=by kernel_rfl
 i2:=by kernel_rfl
 i3:=by kernel_rfl
 i4:=by kernel_rfl
 i5:=by kernel_rfl
 i9:=by kernel_rfl
 i20:=by kernel_rfl
 i37:=by kernel_rfl
 i46:=by kernel_rfl
 i51:=by kernel_rfl
 i53:=by kernel_rfl
 i171:=by kernel_rfl
 i173:=by kernel_rfl
 i212:=by kernel_rfl
 i232:=by kernel_rfl
 i233:=by kernel_rfl
 m17:=by kernel_rfl
 m18:=by kernel_rfl
 m19:=by kernel_rfl }
open Go.RowKit Go.Sort Go.Lib in
theorem Tryz.strconv_Itoa (n:Int) (h0 : -9223372036854775808≤n) (h1:n≤9223372036854775807) (w:World) (htab:Lib.TabIs Tryz.prog w "internal/strconv.uint64pow10" .u64 Lib.pow10Tab) :
 Calls Tryz.prog 57 #[.int .i64 n] w fun e w'=>e = .returned (.string ⟨(Lib.itoa n).toArray⟩)∧∃ k os,w'=grow (w.drewN k) os:=Any.strconv_Itoa Tryz.laysM171 n h0 h1 w htab
def Tryz.laysC172_ren:Go.Shelf.Ren:=⟨fun|172=>86|244=>126|245=>127|247=>154|279=>155|280=>156|281=>157|282=>158|287=>179|316=>180|171=>57|205=>181|321=>201|322=>202|243=>82|246=>124|283=>147|284=>148|285=>149|286=>150|129=>172|317=>171|318=>173|319=>174|320=>175|337=>197|338=>198|n=>n,fun|9=>9|3=>3|75=>128|76=>129|4=>4|5=>5|167=>229|37=>59|0=>0|85=>230|2=>2|168=>232|53=>222|175=>257|46=>238|210=>260|127=>183|145=>280|143=>278|21=>21|171=>221|173=>225|212=>251|51=>252|20=>20|213=>253|232=>290|233=>291|80=>37|n=>n,fun|15=>1|16=>2|17=>0|18=>6|19=>7|n=>n⟩
theorem Tryz.laysC172:Go.Proofs.LaysC.n172 Tryz.prog Tryz.laysC172_ren:={
 mixed:=by kernel_rfl
 f129:=Tryz.func172.trans (AAt some (by kernel_rfl))
 f171:=Tryz.func57.trans (AAt some (by kernel_rfl))
 f172:=Tryz.func86.trans (AAt some (by kernel_rfl))
 f205:=Tryz.func181.trans (AAt some (by kernel_rfl))
 f243:=Tryz.func82.trans (AAt some (by kernel_rfl))
 f244:=Tryz.func126.trans (AAt some (by kernel_rfl))
 f245:=Tryz.func127.trans (AAt some (by kernel_rfl))
 f246:=Tryz.func124.trans (AAt some (by kernel_rfl))
 f247:=Tryz.func154.trans (AAt some (by kernel_rfl))
 f279:=Tryz.func155.trans (AAt some (by kernel_rfl))
 f280:=Tryz.func156.trans (AAt some (by kernel_rfl))
 f281:=Tryz.func157.trans (AAt some (by kernel_rfl))
 f282:=Tryz.func158.trans (AAt some (by kernel_rfl))
 f283:=Tryz.func147.trans (AAt some (by kernel_rfl))
 f284:=Tryz.func148.trans (AAt some (by kernel_rfl))
 f285:=Tryz.func149.trans (AAt some (by kernel_rfl))
 f286:=Tryz.func150.trans (AAt some (by kernel_rfl))
 f287:=Tryz.func179.trans (AAt some (by kernel_rfl))
 f316:=Tryz.func180.trans (AAt some (by kernel_rfl))
 f317:=Tryz.func171.trans (AAt some (by kernel_rfl))
 f318:=Tryz.func173.trans (AAt some (by kernel_rfl))
 f319:=Tryz.func174.trans (AAt some (by kernel_rfl))
 f320:=Tryz.func175.trans (AAt some (by kernel_rfl))
 f321:=Tryz.func201.trans (AAt some (by kernel_rfl))
 f322:=Tryz.func202.trans (AAt some (by kernel_rfl))
 f337:=Tryz.func197.trans (AAt some (by kernel_rfl))
 f338:=Tryz.func198.trans (AAt some (by kernel_rfl))
 t0:=Tryz.underlying0
 a0:=Tryz.isAgg0
 z0:=Tryz.sizeOf0
 v0:=Tryz.zeroValue0
 t2:=Tryz.underlying2
 a2:=Tryz.isAgg2
 z2:=Tryz.sizeOf2
 v2:=Tryz.zeroValue2
 t3:=Tryz.underlying3
 a3:=Tryz.isAgg3
 z3:=Tryz.sizeOf3
 v3:=Tryz.zeroValue3
 t4:=Tryz.underlying4
 a4:=Tryz.isAgg4
 z4:=Tryz.sizeOf4
 v4:=Tryz.zeroValue4
 t5:=Tryz.underlying5
 a5:=Tryz.isAgg5
 z5:=Tryz.sizeOf5
 v5:=Tryz.zeroValue5
 t9:=Tryz.underlying9
 a9:=Tryz.isAgg9
 z9:=Tryz.sizeOf9
 v9:=Tryz.zeroValue9
 t20:=Tryz.underlying20
 a20:=Tryz.isAgg20
 z20:=Tryz.sizeOf20
 v20:=Tryz.zeroValue20
 t21:=Tryz.underlying21
 a21:=Tryz.isAgg21
 z21:=Tryz.sizeOf21
 v21:=Tryz.zeroValue21
 t37:=Tryz.underlying59
 a37:=Tryz.isAgg59
 z37:=Tryz.sizeOf59
 v37:=Tryz.zeroValue59
 t46:=Tryz.underlying238
 a46:=Tryz.isAgg238
 z46:=Tryz.sizeOf238
 v46:=Tryz.zeroValue238
 t51:=Tryz.underlying252
 a51:=Tryz.isAgg252
 z51:=Tryz.sizeOf252
 v51:=Tryz.zeroValue252
 t53:=Tryz.underlying222
 a53:=Tryz.isAgg222
 z53:=Tryz.sizeOf222
 v53:=Tryz.zeroValue222
 t75:=Tryz.underlying128
 a75:=Tryz.isAgg128
 z75:=Tryz.sizeOf128
 v75:=Tryz.zeroValue128
 t76:=Tryz.underlying129
 a76:=Tryz.isAgg129
 z76:=Tryz.sizeOf129
 v76:=Tryz.zeroValue129
 t85:=Tryz.underlying230
 a85:=Tryz.isAgg230
 z85:=Tryz.sizeOf230
 v85:=Tryz.zeroValue230
 t127:=Tryz.underlying183
 a127:=Tryz.isAgg183
 z127:=Tryz.sizeOf183
 v127:=Tryz.zeroValue183
 t143:=Tryz.underlying278
 a143:=Tryz.isAgg278
 z143:=Tryz.sizeOf278
 v143:=Tryz.zeroValue278
 t145:=Tryz.underlying280
 a145:=Tryz.isAgg280
 z145:=Tryz.sizeOf280
 v145:=Tryz.zeroValue280
 t167:=Tryz.underlying229
 a167:=Tryz.isAgg229
 z167:=Tryz.sizeOf229
 v167:=Tryz.zeroValue229
 t168:=Tryz.underlying232
 a168:=Tryz.isAgg232
 z168:=Tryz.sizeOf232
 v168:=Tryz.zeroValue232
 t171:=Tryz.underlying221
 a171:=Tryz.isAgg221
 z171:=Tryz.sizeOf221
 v171:=Tryz.zeroValue221
 t173:=Tryz.underlying225
 a173:=Tryz.isAgg225
 z173:=Tryz.sizeOf225
 v173:=Tryz.zeroValue225
 t175:=Tryz.underlying257
 a175:=Tryz.isAgg257
 z175:=Tryz.sizeOf257
 v175:=Tryz.zeroValue257
 t210:=Tryz.underlying260
 a210:=Tryz.isAgg260
 z210:=Tryz.sizeOf260
 v210:=Tryz.zeroValue260
 t212:=Tryz.underlying251
 a212:=Tryz.isAgg251
 z212:=Tryz.sizeOf251
 v212:=Tryz.zeroValue251
 t213:=Tryz.underlying253
 a213:=Tryz.isAgg253
 z213:=Tryz.sizeOf253
 t232:=Tryz.underlying290
 a232:=Tryz.isAgg290
 z232:=Tryz.sizeOf290
 v232:=Tryz.zeroValue290
 t233:=Tryz.underlying291
 a233:=Tryz.isAgg291
 z233:=Tryz.sizeOf291
 v233:=Tryz.zeroValue291
 g15:=by kernel_rfl
 g16:=by kernel_rfl
 g17:=by kernel_rfl
 g18:=by kernel_rfl
 g19:=by kernel_rfl
 t80:=Tryz.underlying37
 a80:=Tryz.isAgg37
 z80:=Tryz.sizeOf37
 v80:=Tryz.zeroValue37
 i0:=by kernel_rfl
 i2:=by kernel_rfl
 i3:=by kernel_rfl
 i4:=by kernel_rfl
 i5:=by kernel_rfl
 i9:=by kernel_rfl
 i20:=by kernel_rfl
 i21:=by kernel_rfl
 i37:=by kernel_rfl
 i46:=by kernel_rfl
 i51:=by kernel_rfl
 i53:=by kernel_rfl
 i75:=by kernel_rfl
 i76:=by kernel_rfl
 i80:=by kernel_rfl
 i85:=by kernel_rfl
 i127:=by kernel_rfl
 i143:=by kernel_rfl
 i145:=by kernel_rfl
 i167:=by kernel_rfl
 i168:=by kernel_rfl
 i171:=by kernel_rfl
 i173:=by kernel_rfl
 i175:=by kernel_rfl
 i210:=by kernel_rfl
 i212:=by kernel_rfl
 i232:=by kernel_rfl
 i233:=by kernel_rfl
 m15:=by kernel_rfl
 m16:=by kernel_rfl
 m17:=by kernel_rfl
 m18:=by kernel_rfl
 m19:=by kernel_rfl
 c0:=by kernel_rfl
 c2:=by kernel_rfl
 c3:=by kernel_rfl
 c4:=by kernel_rfl
 c5:=by kernel_rfl
 c9:=by kernel_rfl
 c20:=by kernel_rfl
 c21:=by kernel_rfl
 c37:=by kernel_rfl
 c46:=by kernel_rfl
 c51:=by kernel_rfl
 c53:=by kernel_rfl
 c75:=by kernel_rfl
 c76:=by kernel_rfl
 c80:=by kernel_rfl
 c85:=by kernel_rfl
 c127:=by kernel_rfl
 c143:=by kernel_rfl
 c145:=by kernel_rfl
 c167:=by kernel_rfl
 c168:=by kernel_rfl
 c171:=by kernel_rfl
 c173:=by kernel_rfl
 c175:=by kernel_rfl
 c210:=by kernel_rfl
 c212:=by kernel_rfl
 c213:=by kernel_rfl
 c232:=by kernel_rfl
 c233:=by kernel_rfl }
open Go.RowKit in
theorem Tryz.strconv_Atoi_ok(s:ByteArray)(hmax:s.size≤9223372036854775806)(v:Int)(h:Lib.atoiAll s.data.toList = .ok v)(w:World) :
 Calls Tryz.prog 86 #[.string s] w fun e w'=>e = .returned (.tuple #[.int .i64 v,.nilIface])∧(w'=w∨∃ t,w'=Lib.bytesWorld w 5 t):=Any.strconv_Atoi_ok Tryz.laysC172 s hmax v h w
open Go.RowKit in
theorem Tryz.strconv_Atoi_syntax(s:ByteArray)(hlim:s.size≤281474976710656)(h:Lib.atoiAll s.data.toList=Lib.NumEnd.syntax)(ev:Value)(w:World)(hv:w.cell? ⟨1,0,none⟩=some ev)(hev:ev = .nilIface∨∃ te pe,ev = .iface te pe) :
 Calls Tryz.prog 86 #[.string s] w fun e w'=>∃ N,e = .returned (.tuple #[.int .i64 (0),.iface 232 (.pointer (some ⟨N,0,none⟩))])∧w.heap.size≤N∧w'.heap[N]?=some (.cells #[.string ⟨#[65,116,111,105]⟩,.string s,ev] 260 (0,0))∧Below w.heap.size w w':=Any.strconv_Atoi_syntax Tryz.laysC172 s hlim h ev w hv hev
open Go.RowKit in
theorem Tryz.strconv_Atoi_range(s:ByteArray)(hlim:s.size≤281474976710656)(h:Lib.atoiAll s.data.toList = .range)(ev:Value)(w:World)(hv:w.cell? ⟨2,0,none⟩=some ev)(hev:ev = .nilIface∨∃ te pe,ev = .iface te pe) :
 Calls Tryz.prog 86 #[.string s] w fun e w'=>∃ N,e = .returned (.tuple #[.int .i64 (Lib.atoiSat s.data.toList),.iface 232 (.pointer (some ⟨N,0,none⟩))])∧w.heap.size≤N∧w'.heap[N]?=some (.cells #[.string ⟨#[65,116,111,105]⟩,.string s,ev] 260 (0,0))∧Below w.heap.size w w':=Any.strconv_Atoi_range Tryz.laysC172 s hlim h ev w hv hev
def Tryz.laysGw17_ren:Go.Shelf.Ren:=⟨fun|17=>74|15=>118|20=>142|n=>n,fun|9=>9|23=>137|4=>4|3=>3|0=>0|21=>21|n=>n,fun|n=>n⟩
theorem Tryz.laysGw17:Go.Proofs.LaysGw.n17 Tryz.prog Tryz.laysGw17_ren:={
 mixed:=by kernel_rfl
 f15:=Tryz.func118.trans (AAt some (by kernel_rfl))
 f17:=Tryz.func74.trans (AAt some (by kernel_rfl))
 f20:=Tryz.func142.trans (AAt some (by kernel_rfl))
 t0:=Tryz.underlying0
 a0:=Tryz.isAgg0
 z0:=Tryz.sizeOf0
 v0:=Tryz.zeroValue0
 i0:=by kernel_rfl
 t3:=Tryz.underlying3
 a3:=Tryz.isAgg3
 z3:=Tryz.sizeOf3
 v3:=Tryz.zeroValue3
 i3:=by kernel_rfl
 t4:=Tryz.underlying4
 a4:=Tryz.isAgg4
 z4:=Tryz.sizeOf4
 v4:=Tryz.zeroValue4
 i4:=by kernel_rfl
 t9:=Tryz.underlying9
 a9:=Tryz.isAgg9
 z9:=Tryz.sizeOf9
 v9:=Tryz.zeroValue9
 i9:=by kernel_rfl
 t21:=Tryz.underlying21
 a21:=Tryz.isAgg21
 z21:=Tryz.sizeOf21
 v21:=Tryz.zeroValue21
 i21:=by kernel_rfl
 t23:=Tryz.underlying137
 a23:=Tryz.isAgg137
 z23:=Tryz.sizeOf137
 v23:=Tryz.zeroValue137
 i23:=by kernel_rfl }
open Go.RowKit Go.Lib in
theorem Tryz.strings_ContainsFunc_runes(g:Nat)(lb:Array Value)(eg:∀ args w,(callFunc g args).run Tryz.prog w = .ok (.enter g args) w)(p:Nat→Bool)(s:ByteArray)(w:World)(hp:PredAtRunes Tryz.prog g lb p w) :
 Calls Tryz.prog 74 #[.string s,.func (.func g) #[] lb] w fun e w'=>e = .returned (.bool (decide (0≤Lib.idxFunc p true s)))∧Below w.heap.size w w':=Any.strings_ContainsFunc_runes Tryz.laysGw17 g lb eg p s w hp
def Tryz.lays100_ren:Go.Shelf.Ren:=⟨fun|100=>37|207=>76|n=>n,fun|9=>9|4=>4|3=>3|n=>n,fun|n=>n⟩
theorem Tryz.lays100:Go.Proofs.Lays.n100 Tryz.prog Tryz.lays100_ren:={
 mixed:=by kernel_rfl
 f100:=Tryz.func37.trans (AAt some (by kernel_rfl))
 f207:=Tryz.func76.trans (AAt some (by kernel_rfl))
 t3:=Tryz.underlying3
 a3:=Tryz.isAgg3
 z3:=Tryz.sizeOf3
 v3:=Tryz.zeroValue3
 t4:=Tryz.underlying4
 a4:=Tryz.isAgg4
 z4:=Tryz.sizeOf4
 v4:=Tryz.zeroValue4
 t9:=Tryz.underlying9
 a9:=Tryz.isAgg9
 z9:=Tryz.sizeOf9
 v9:=Tryz.zeroValue9 }
open Go.RowKit Go.Lib in
theorem Tryz.strings_HasSuffix(s p:ByteArray)(w:World)(hs:s.size≤9223372036854775807) :
 Calls Tryz.prog 37 #[.string s,.string p] w fun e w'=>e = .returned (.bool (Lib.hasSuffix s.data.toList p.data.toList))∧w'=w:=Any.strings_HasSuffix Tryz.lays100 s p w hs
def Tryz.lays146_ren:Go.Shelf.Ren:=⟨fun|146=>83|221=>125|268=>151|138=>152|143=>153|195=>176|197=>169|218=>177|219=>178|260=>192|217=>199|225=>196|224=>195|267=>200|266=>209|314=>210|n=>n,fun|9=>9|31=>22|3=>3|4=>4|0=>0|105=>218|21=>21|5=>5|46=>238|119=>286|139=>289|138=>288|146=>272|51=>252|n=>n,fun|1=>3|3=>4|4=>5|n=>n⟩
theorem Tryz.lays146:Go.Proofs.Lays.n146 Tryz.prog Tryz.lays146_ren:={
 mixed:=by kernel_rfl
 f138:=Tryz.func152.trans (AAt some (by kernel_rfl))
 f143:=Tryz.func153.trans (AAt some (by kernel_rfl))
 f146:=Tryz.func83.trans (AAt some (by kernel_rfl))
 f195:=Tryz.func176.trans (AAt some (by kernel_rfl))
 f197:=Tryz.func169.trans (AAt some (by kernel_rfl))
 f217:=Tryz.func199.trans (AAt some (by kernel_rfl))
 f218:=Tryz.func177.trans (AAt some (by kernel_rfl))
 f219:=Tryz.func178.trans (AAt some (by kernel_rfl))
 f221:=Tryz.func125.trans (AAt some (by kernel_rfl))
 f224:=Tryz.func195.trans (AAt some (by kernel_rfl))
 f225:=Tryz.func196.trans (AAt some (by kernel_rfl))
 f260:=Tryz.func192.trans (AAt some (by kernel_rfl))
 f266:=Tryz.func209.trans (AAt some (by kernel_rfl))
 f267:=Tryz.func200.trans (AAt some (by kernel_rfl))
 f268:=Tryz.func151.trans (AAt some (by kernel_rfl))
 f314:=Tryz.func210.trans (AAt some (by kernel_rfl))
 t0:=Tryz.underlying0
 a0:=Tryz.isAgg0
 z0:=Tryz.sizeOf0
 v0:=Tryz.zeroValue0
 t3:=Tryz.underlying3
 a3:=Tryz.isAgg3
 z3:=Tryz.sizeOf3
 v3:=Tryz.zeroValue3
 t4:=Tryz.underlying4
 a4:=Tryz.isAgg4
 z4:=Tryz.sizeOf4
 v4:=Tryz.zeroValue4
 t5:=Tryz.underlying5
 a5:=Tryz.isAgg5
 z5:=Tryz.sizeOf5
 v5:=Tryz.zeroValue5
 t9:=Tryz.underlying9
 a9:=Tryz.isAgg9
 z9:=Tryz.sizeOf9
 v9:=Tryz.zeroValue9
 t21:=Tryz.underlying21
 a21:=Tryz.isAgg21
 z21:=Tryz.sizeOf21
 v21:=Tryz.zeroValue21
 t31:=Tryz.underlying22
 a31:=Tryz.isAgg22
 z31:=Tryz.sizeOf22
 v31:=Tryz.zeroValue22
 t46:=Tryz.underlying238
 a46:=Tryz.isAgg238
 z46:=Tryz.sizeOf238
 v46:=Tryz.zeroValue238
 t51:=Tryz.underlying252
 a51:=Tryz.isAgg252
 z51:=Tryz.sizeOf252
 v51:=Tryz.zeroValue252
 t105:=Tryz.underlying218
 a105:=Tryz.isAgg218
 z105:=Tryz.sizeOf218
 v105:=Tryz.zeroValue218
 t119:=Tryz.underlying286
 a119:=Tryz.isAgg286
 z119:=Tryz.sizeOf286
 t138:=Tryz.underlying288
 a138:=Tryz.isAgg288
 z138:=Tryz.sizeOf288
 v138:=Tryz.zeroValue288
 t139:=Tryz.underlying289
 a139:=Tryz.isAgg289
 z139:=Tryz.sizeOf289
 v139:=Tryz.zeroValue289
 t146:=Tryz.underlying272
 a146:=Tryz.isAgg272
 z146:=Tryz.sizeOf272
 v146:=Tryz.zeroValue272
 g1:=by kernel_rfl
 g3:=by kernel_rfl
 g4:=by kernel_rfl }
open Go.RowKit Go.Lib in
theorem Tryz.strings_Split(s sep:ByteArray)(m:Int)(w:World)(hs:s.size<4294967281)(hm:w.cell? ⟨3,0,none⟩=some (.int .i64 m))(h1:1≤sep.size) :
 Calls Tryz.prog 83 #[.string s,.string sep] w fun e w' =>
  e = .returned (.slice (some ⟨w.heap.size,0,none⟩) (Lib.countB s sep+1) (Lib.countB s sep+1))∧w'=w.alloc (.cells ((Lib.splitB sep 0 (Lib.countB s sep) s).map Value.string).toArray 9):=Any.strings_Split Tryz.lays146 (by kernel_rfl) s sep m w hs hm h1
def Tryz.lays105_ren:Go.Shelf.Ren:=⟨fun|105=>143|212=>165|99=>166|165=>138|166=>69|170=>167|169=>71|263=>190|264=>191|206=>141|240=>115|241=>161|276=>140|277=>187|n=>n,fun|9=>9|3=>3|4=>4|20=>20|0=>0|46=>238|109=>246|5=>5|72=>126|76=>129|51=>252|146=>272|53=>222|148=>274|70=>124|37=>59|75=>128|127=>183|164=>215|80=>37|n=>n,fun|n=>n⟩
theorem Tryz.lays105:Go.Proofs.Lays.n105 Tryz.prog Tryz.lays105_ren:={
 mixed:=by kernel_rfl
 f99:=Tryz.func166.trans (AAt some (by kernel_rfl))
 f105:=Tryz.func143.trans (AAt some (by kernel_rfl))
 f165:=Tryz.func138.trans (AAt some (by kernel_rfl))
 f166:=Tryz.func69.trans (AAt some (by kernel_rfl))
 f169:=Tryz.func71.trans (AAt some (by kernel_rfl))
 f170:=Tryz.func167.trans (AAt some (by kernel_rfl))
 f206:=Tryz.func141.trans (AAt some (by kernel_rfl))
 f212:=Tryz.func165.trans (AAt some (by kernel_rfl))
 f240:=Tryz.func115.trans (AAt some (by kernel_rfl))
 f241:=Tryz.func161.trans (AAt some (by kernel_rfl))
 f263:=Tryz.func190.trans (AAt some (by kernel_rfl))
 f264:=Tryz.func191.trans (AAt some (by kernel_rfl))
 f276:=Tryz.func140.trans (AAt some (by kernel_rfl))
 f277:=Tryz.func187.trans (AAt some (by kernel_rfl))
 t0:=Tryz.underlying0
 a0:=Tryz.isAgg0
 z0:=Tryz.sizeOf0
 v0:=Tryz.zeroValue0
 t3:=Tryz.underlying3
 a3:=Tryz.isAgg3
 z3:=Tryz.sizeOf3
 v3:=Tryz.zeroValue3
 t4:=Tryz.underlying4
 a4:=Tryz.isAgg4
 z4:=Tryz.sizeOf4
 v4:=Tryz.zeroValue4
 t5:=Tryz.underlying5
 a5:=Tryz.isAgg5
 z5:=Tryz.sizeOf5
 v5:=Tryz.zeroValue5
 t9:=Tryz.underlying9
 a9:=Tryz.isAgg9
 z9:=Tryz.sizeOf9
 v9:=Tryz.zeroValue9
 t20:=Tryz.underlying20
 a20:=Tryz.isAgg20
 z20:=Tryz.sizeOf20
 v20:=Tryz.zeroValue20
 t37:=Tryz.underlying59
 a37:=Tryz.isAgg59
 z37:=Tryz.sizeOf59
 v37:=Tryz.zeroValue59
 t46:=Tryz.underlying238
 a46:=Tryz.isAgg238
 z46:=Tryz.sizeOf238
 v46:=Tryz.zeroValue238
 t51:=Tryz.underlying252
 a51:=Tryz.isAgg252
 z51:=Tryz.sizeOf252
 v51:=Tryz.zeroValue252
 t53:=Tryz.underlying222
 a53:=Tryz.isAgg222
 z53:=Tryz.sizeOf222
 v53:=Tryz.zeroValue222
 t70:=Tryz.underlying124
 a70:=Tryz.isAgg124
 z70:=Tryz.sizeOf124
 v70:=Tryz.zeroValue124
 t72:=Tryz.underlying126
 a72:=Tryz.isAgg126
 z72:=Tryz.sizeOf126
 v72:=Tryz.zeroValue126
 t75:=Tryz.underlying128
 a75:=Tryz.isAgg128
 z75:=Tryz.sizeOf128
 v75:=Tryz.zeroValue128
 t76:=Tryz.underlying129
 a76:=Tryz.isAgg129
 z76:=Tryz.sizeOf129
 v76:=Tryz.zeroValue129
 t109:=Tryz.underlying246
 a109:=Tryz.isAgg246
 z109:=Tryz.sizeOf246
 v109:=Tryz.zeroValue246
 t127:=Tryz.underlying183
 a127:=Tryz.isAgg183
 z127:=Tryz.sizeOf183
 v127:=Tryz.zeroValue183
 t146:=Tryz.underlying272
 a146:=Tryz.isAgg272
 z146:=Tryz.sizeOf272
 v146:=Tryz.zeroValue272
 t148:=Tryz.underlying274
 a148:=Tryz.isAgg274
 z148:=Tryz.sizeOf274
 v148:=Tryz.zeroValue274
 t164:=Tryz.underlying215
 a164:=Tryz.isAgg215
 z164:=Tryz.sizeOf215
 v164:=Tryz.zeroValue215 }
theorem Tryz.Builder_Extra_105:Builder.Extra Tryz.prog Tryz.lays105_ren:={
 sizeBuilder:=by kernel_rfl
 liesBuilder:=by kernel_rfl
 t5:=Tryz.underlying5
 a5:=Tryz.isAgg5
 z5:=Tryz.sizeOf5
 v5:=Tryz.zeroValue5
 infoByte:=by kernel_rfl
 cellsByte:=by kernel_rfl
 sizeByte:=by kernel_rfl
 neB5:=by decide }
open Go.RowKit Go.Lib in
theorem Tryz.strings_Repeat(s:ByteArray)(c:Nat)(w:World)(hc:c≤9223372036854775807)(hlen:s.size*c≤140737488355328) :
 Calls Tryz.prog 143 #[.string s,.int .i64 c] w fun e w'=>e = .returned (.string ⟨(Lib.repeatL s.data.toList c).toArray⟩)∧Below w.heap.size w w':=Any.strings_Repeat Tryz.lays105 Tryz.Builder_Extra_105 s c w hc hlen
def Tryz.lays110_ren:Go.Shelf.Ren:=⟨fun|110=>47|109=>81|n=>n,fun|31=>22|9=>9|4=>4|3=>3|0=>0|n=>n,fun|n=>n⟩
theorem Tryz.lays110:Go.Proofs.Lays.n110 Tryz.prog Tryz.lays110_ren:={
 mixed:=by kernel_rfl
 f109:=Tryz.func81.trans (AAt some (by kernel_rfl))
 f110:=Tryz.func47.trans (AAt some (by kernel_rfl))
 t0:=Tryz.underlying0
 a0:=Tryz.isAgg0
 z0:=Tryz.sizeOf0
 v0:=Tryz.zeroValue0
 t3:=Tryz.underlying3
 a3:=Tryz.isAgg3
 z3:=Tryz.sizeOf3
 v3:=Tryz.zeroValue3
 t4:=Tryz.underlying4
 a4:=Tryz.isAgg4
 z4:=Tryz.sizeOf4
 v4:=Tryz.zeroValue4
 t9:=Tryz.underlying9
 a9:=Tryz.isAgg9
 z9:=Tryz.sizeOf9
 v9:=Tryz.zeroValue9
 t31:=Tryz.underlying22
 a31:=Tryz.isAgg22
 z31:=Tryz.sizeOf22
 v31:=Tryz.zeroValue22 }
open Go.Lib in
theorem Tryz.slices_Contains_string(b off n c:Nat)(zs:List ByteArray)(x:ByteArray)(w:World)(hz:n≤zs.length)(hbig:n≤9223372036854775807)(hc:∀ j,j<zs.length→w.cell? ⟨b,off+j,none⟩=some (.string (zs.getD j ByteArray.empty))) :
 Calls Tryz.prog 47 #[.slice (some ⟨b,off,none⟩) n c,.string x] w fun e w'=>e = .returned (.bool (Lib.containsS (zs.take n) x))∧w'=w:=Any.slices_Contains_string Tryz.lays110 b off n c zs x w hz hbig hc
open Go.Lib in
theorem Tryz.slices_Contains_string_empty(a:Option Addr)(c:Nat)(x:ByteArray)(w:World) :
 Calls Tryz.prog 47 #[.slice a 0 c,.string x] w fun e w'=>e = .returned (.bool false)∧w'=w:=Any.slices_Contains_string_empty Tryz.lays110 a c x w
end Go.Proofs
namespace Go.Proofs.YtmapgnepfgnphaaGreatDoor
section
open Go Go.DL Go.RowKit Go.Proofs.Tryz
variable{D:Nat→Option XFn}{Y:Nat→Option YI}{r:Nat→Option Nat}{h:XH}{H:Hp}{B:Base}

def iL(D:Nat→Option XFn)(K:Nat)(f:List AV→XH→Option (AV×XH)):Prop :=
 ∀(B:Base)(Y:Nat→Option YI)(r:Nat→Option Nat)(h:XH)(H:Hp)(xs ys:List AV)(v:AV)(h':XH),SH D Y r h H→RnL D Y r xs ys→f xs h=some (v,h')→FnW B Tryz.prog K ys H (eZ D Y r v h')

def sF:List AV→XH→Option (AV×XH):=fun xs h=>match xs with
 | [.str s,.int .i64 n]=>if 0≤n∧n≤1000000∧s.size≤1000 then some (.str ⟨⟨Go.Lib.repeatL s.data.toList n.toNat⟩⟩,h) else none
 | _=>none
theorem aHJ{s:ByteArray}{k:IntKind}{n:Int}{as':List AV}(hr:RnL D Y r [.str s,.int k n] as'):as'=[.str s,.int k n]:=by
 obtain⟨a,as1,rfl,h1,h2⟩:=hr.inv;obtain⟨b,as2,rfl,h3,h4⟩:=h2.inv;rw[cX h1,dW h3,h4.nil_inv]
theorem aNl:iL D 143 sF:=by
 intro B Y r h H xs ys v h' sh hr hx;unfold sF at hx;split at hx
 ·rename_i s n
  split at hx
  ·rename_i hn
   cases hx;rw[aHJ hr];have hc:Calls Tryz.prog 143 #[.string s,.int .i64 (n.toNat:Int)]=Calls Tryz.prog 143 #[.string s,.int .i64 n]:=by rw[aF9 hn.1]
   refine FnW.shelf (r:=fun _=>.string ⟨(Go.Lib.repeatL s.data.toList n.toNat).toArray⟩) (fun vs w=>call143 vs w) (fun F w vs=>.str _) (fun F w vs hl ha=>?_) ⟨r,Sub.refl r,sh,.str _⟩;rw[ha.strInt,←hc];exact Tryz.strings_Repeat s n.toNat w AM (by
    have h1:n.toNat≤1000000:=AM
    have:=P9 hn.2.2 h1;omega)
  ·cases hx
 ·cases hx

def rI:List (List AV)→Option (List ByteArray)
 | []=>some []
 | [.str x]::l=>(rI l).map (x :: ·)
 | _=>none
theorem yX:∀{rows:List (List AV)}{xs:List ByteArray},rI rows=some xs→xs.length=rows.length∧∀(j:Nat)(x:ByteArray),xs[j]?=some x→rows[j]?=some [.str x]
 | [],xs,h=>by simp only[rI,oSI]at h;subst h;simp
 | row::l,xs,h=>by
   unfold rI at h;split at h;·rename_i h0;cases h0
   ·rename_i x l' h0
    cases h0;cases hl:rI l with
    | none=>rw[hl]at h;cases h
    | some ys =>
      rw[hl]at h;simp only[C3,oSI]at h;subst h;obtain⟨h1,h2⟩:=yX hl;refine⟨by simp[h1],fun j y hj=>?_⟩;cases j with
      | zero=>simp at hj;subst hj;rfl
      | succ j=>exact h2 j y (by simpa using hj)
   ·cases h

def aBT:List AV→XH→Option (AV×XH):=fun xs h=>match xs with
 | [.fs rows,.str sep]=>match rI rows with
   | some l=>if l.length≤1000∧(Go.Lib.join (l.map (·.data.toList)) sep.data.toList).length≤100000 then some (.str ⟨⟨Go.Lib.join (l.map (·.data.toList)) sep.data.toList⟩⟩,h) else none
   | none=>none
 | _=>none
theorem aSm:iL D 99 aBT:=by
 intro B Y r h H xs ys v h' sh hr hx;unfold aBT at hx;split at hx
 ·rename_i rows sep
  split at hx
  ·rename_i l hl
   split at hx
   ·rename_i hn
    cases hx;obtain⟨a,as1,rfl,h1,h2⟩:=hr.inv;obtain⟨b,as2,rfl,h3,h4⟩:=h2.inv;rw[(xP h1).1,cX h3,h4.nil_inv];obtain⟨hlen,hget⟩:=yX hl;refine FnW.shelf (r:=fun _=>.string ⟨(Go.Lib.join (l.map (·.data.toList)) sep.data.toList).toArray⟩) (fun vs w=>call99 vs w) (fun F w vs=>.str _) (fun F w vs hlt ha=>?_) ⟨r,Sub.refl r,sh,.str _⟩;obtain⟨v1,vs1,rfl,k1,k2⟩:=ha.cons1;obtain⟨v2,vs2,rfl,k3,k4⟩:=k2.cons1;rw[k4.nil1];cases k3;have none:∀(a:Option Addr)(c:Nat),rows=[]→Calls Tryz.prog 99 #[.slice a 0 c,.string sep] w fun e w'=>e = .returned (.string ⟨(Go.Lib.join (l.map (·.data.toList)) sep.data.toList).toArray⟩)∧Below w.heap.size w w':=fun a c h0=>by
     subst h0;have:l=[]:=B8 (by simpa using hlen);subst this;exact(Tryz.strings_Join_none a c sep w).mono fun e w' ⟨he,hw⟩=>⟨by rw[he];rfl,hw▸Below.refl _ _⟩
    cases k1 with
    | fs0 a cap=>exact none a cap rfl
    | fs rows blk off s cap g hcap hF hs hc ho hv =>
      by_cases h0:rows=[]
      ·have:=none (some ⟨blk,off,Option.none⟩) cap h0
       subst h0;exact this
      ·have hs1:s=1:=by
        obtain⟨row,rest,rfl⟩:=aG4 h0;have hl0:l.length=rest.length+1:=by simpa using hlen
        obtain⟨x,hx0⟩:∃ x,l[0]?=some x:=⟨_,A4 AM⟩;have:=hget 0 x hx0;simp only[D0,oSI]at this;rw[←hs row (by simp),this];rfl
       subst hs1;rw[←hlen];refine Tryz.strings_Join blk off cap l sep w (fun j x hj=>?_) (hlt _ hF) AM AM AM;have h5:=hget j x hj;have h6:=hc j _ 0 _ h5 rfl;have h7:=hv j _ 0 _ h5 rfl;generalize g j 0=y at h6 h7;cases h7;simpa using h6
   ·cases hx
  ·cases hx
 ·cases hx

def hP(c:UInt8):List UInt8→List (List UInt8)
 | []=>[[]]
 | b::r=>if b=c then []::hP c r else match hP c r with
   | x::l=>(b::x)::l
   | []=>[[b]]
theorem aBj(c:UInt8):∀ s:List UInt8,Lib.splitK [c] 0 (Lib.count s [c]) s=hP c s
 | []=>by rw[Lib.count_one];rfl
 | b::l=>by
   have ih:=aBj c l;by_cases h:b=c
   ·subst h
    have hix:Lib.index (b::l) [b]=0:=by rw[Lib.index];simp[List.isPrefixOf]
    rw[Lib.count_cons_eq,aD0,Lib.splitK,hix];simp only[hP,AAe];rw[if_neg (by decide)];simp[ih]
   ·have hp:([c]:List UInt8).isPrefixOf (b::l)=false:=by simp[List.isPrefixOf,Ne.symm h]
    have hix:Lib.index (b::l) [c]=if Lib.index l [c] == -1 then -1 else Lib.index l [c]+1:=by rw[Lib.index,hp];simp
    rw[Lib.count_cons_ne b c l h];simp only[hP,if_neg h,←ih];cases hk:Lib.count l [c]with
    | zero=>rfl
    | succ k =>
      simp only[Lib.splitK];by_cases hm:Lib.index l [c] = -1
      ·rw[hix,if_pos (beq_iff_eq.2 hm)]
       simp[hm]
      ·have hge:=Lib.index_ge l [c]
       obtain⟨j,hj⟩:∃ j:Nat,Lib.index l [c]=j:=⟨(Lib.index l [c]).toNat,by omega⟩;rw[hix,if_neg (fun e=>hm (beq_iff_eq.1 e)),hj];have h1:¬(((j:Int)+1 == -1)=true):=by simp;omega
       have h2:¬(((j:Int) == -1)=true):=by simp
       rw[if_neg h1,if_neg h2];have e:((j:Int)+1).toNat=j+1:=AM
       simp[e,Nat.add_right_comm]

def aAM:List AV→XH→Option (AV×XH):=fun xs h=>match xs with
 | [.str s,.str ⟨⟨[c]⟩⟩]=>if s.size≤100000 then some (.fs ((hP c s.data.toList).map fun l=>[.str ⟨⟨l⟩⟩]),h) else none
 | _=>none
theorem aSo:iL D 83 aAM:=by
 intro B Y r h H xs ys v h' sh hr hx;unfold aAM at hx;split at hx
 ·rename_i s c
  split at hx
  ·rename_i hn
   cases hx;obtain⟨a,as1,rfl,h1,h2⟩:=hr.inv;obtain⟨b,as2,rfl,h3,h4⟩:=h2.inv;rw[cX h1,cX h3,h4.nil_inv];have hv:∀ x∈(hP c s.data.toList).map (fun l=>[AV.str ⟨⟨l⟩⟩]),∀ z∈x,Gd z:=fun x hx z hz=>by
    obtain⟨l,_,rfl⟩:=D6.1 hx;simp only[B2]at hz;subst hz;exact .str _
   refine FnW.shelfG (fun vs w=>call83 vs w) (fun F w vs gi hl ha=>?_) ⟨r,DL.Sub.refl r,sh,(Gd.fs _ hv).rn⟩;obtain⟨hF3,m,hm⟩:=gi.2.1 3 (by simp[aCr]);rw[ha.strStr];refine(Tryz.strings_Split s ⟨#[c]⟩ m w AM hm (by simp[ByteArray.size])).mono ?_;rintro e w' ⟨rfl,rfl⟩;have hsp:((Lib.splitB ⟨#[c]⟩ 0 (Lib.countB s ⟨#[c]⟩) s).map (·.data.toList))=hP c s.data.toList:=by
    rw[Lib.splitB_data];exact aBj c s.data.toList
   have hlen:(Lib.splitB ⟨#[c]⟩ 0 (Lib.countB s ⟨#[c]⟩) s).length=Lib.countB s ⟨#[c]⟩+1:=Lib.splitB_all _ (by simp[ByteArray.size]) 0 _ _ rfl;obtain⟨L,hL⟩:∃ L,L=Lib.splitB ⟨#[c]⟩ 0 (Lib.countB s ⟨#[c]⟩) s:=⟨_,rfl⟩;rw[←hL]at hsp hlen ⊢;have hrows:(hP c s.data.toList).map (fun l=>[AV.str ⟨⟨l⟩⟩])=L.map fun x=>[AV.str x]:=by
    rw[←hsp,aB4];rfl
   rw[hrows];refine⟨_,fun b=>F b∨b=w.heap.size,rfl,(Below.refl _ w).alloc (A8 _) _,fun b hb=>.inl hb,fun b hb=>hb.elim .inl fun e=>.inr AM,fun b hb=>?_,?_⟩
   ·rcases hb with hb|rfl
    ·have:=hl b hb;simp;omega
    ·simp
   ·have hcell:∀(j:Nat)(x:ByteArray),L[j]?=some x→(w.alloc (.cells (L.map Value.string).toArray 9)).cell? ⟨w.heap.size,j,none⟩=some (.string x):=fun j x hj=>by
     have hh:(w.alloc (.cells (L.map Value.string).toArray 9)).heap[w.heap.size]?=some (.cells (L.map Value.string).toArray 9 (0,0)):=by
      show (w.heap.push _)[w.heap.size]?=_;simp
     unfold World.cell?;dsimp only;rw[hh];simp[hj]
    have hlen':(L.map fun x=>[AV.str x]).length=Lib.countB s ⟨#[c]⟩+1:=by rw[A7,hlen]
    rw[←hlen'];refine .fs _ w.heap.size 0 1 _ (fun i _=>.string (L.getD i ByteArray.empty)) AM (.inr rfl) (fun x hx=>?_) (fun i x j z hi hj=>?_) (fun _ _=>rfl) (fun i x j z hi hj=>?_);·obtain⟨y,_,rfl⟩:=D6.1 hx;rfl
    ·rw[A6,A0]at hi
     obtain⟨y,hy,rfl⟩:=hi;cases j with
     | zero =>
       rw[A1,hy];simpa using hcell i y hy
     | succ j=>simp at hj
    ·rw[A6,A0]at hi
     obtain⟨y,hy,rfl⟩:=hi;cases j with
     | zero =>
       simp only[D0,oSI]at hj;subst hj;rw[A1,hy];exact .str _
     | succ j=>simp at hj
  ·cases hx
 ·cases hx

theorem aPP {F:Nat→Prop} {w:World} (gi:GI F w):Lib.TabIs prog w "internal/strconv.uint64pow10" IntKind.u64 Lib.pow10Tab:=by
 obtain⟨_,e,fr,h2⟩:=gi.2.2.1 (0,(List.range 20).map fun i=>Value.int .u64 ((10^i:Nat):Int)) (by simp[aCs])
 have hg:prog.globalNamed "internal/strconv.uint64pow10" = some 0:=by kernel_rfl
 unfold Lib.TabIs World.var?;rw[hg];simp only[E7];dsimp only at h2;rw[h2];simp[Lib.pow10Tab,Function.comp_def]

def zG:List AV→XH→Option (AV×XH):=fun xs h=>match xs with
 | [.int .i64 n]=>if -9223372036854775808≤n∧n≤9223372036854775807 then some (.str ⟨⟨Lib.itoa n⟩⟩,h) else none
 | _=>none
theorem aQx{k:IntKind}{n:Int}{as':List AV}(hr:RnL D Y r [.int k n] as'):as'=[.int k n]:=by
 obtain⟨b,as2,rfl,h3,h4⟩:=hr.inv;rw[dW h3,h4.nil_inv]
theorem aSt:iL D 57 zG:=by
 intro B Y r h H xs ys v h' sh hr hx;unfold zG at hx;split at hx
 ·rename_i n
  split at hx
  ·rename_i hn
   cases hx;rw[aQx hr];refine FnW.shelfG (fun vs w=>call57 vs w) (fun F w vs gi hl ha=>?_) ⟨r,DL.Sub.refl r,sh,.str _⟩;obtain⟨b,bs,rfl,h3,h4⟩:=ha.cons1;cases h3;rw[h4.nil1];refine(Tryz.strconv_Itoa n hn.1 hn.2 w (aPP gi)).mono ?_;rintro e w' ⟨rfl,k,os,rfl⟩;have hbel:Below w.heap.size w («Sort».grow (w.drewN k) os):=by
    have h0:(w.drewN k).heap=w.heap:=rfl;refine⟨rfl,rfl,rfl,?_,fun j hj=>?_⟩;·simp[«Sort».grow,h0]
    ·simp only[«Sort».grow,h0]
     exact aC1 hj
   exact⟨_,F,rfl,hbel,fun _ h=>h,fun _ h=>.inl h,fun b hb=>G4 (hl b hb) hbel.size,.str _⟩
  ·cases hx
 ·cases hx
theorem aVT(b g cap:Nat)(p:Value)(cur:Array Value)(fr fz:Nat×Nat)(l:List UInt8)(w:World)(hbk:w.heap[b]?=some (.cells #[p,.slice (some ⟨g,0,none⟩) l.length cap] 126 fr))(hg:w.heap[g]?=some (.cells cur 5 fz))
 (h0:l≠[]) (hnc:l.length≤cap) (hcs:l.length≤cur.size) (h63:l.length≤9223372036854775807) (hcell:∀(j:Nat)(x:UInt8),l[j]?=some x→cur[j]?=some (.int .u8 x.toNat)) :
 Calls prog 71 #[.pointer (some ⟨b,0,none⟩)] w fun e w'=>e = .returned (.string ⟨l.toArray⟩)∧w'=w.drew.freeze ⟨g,0,none⟩ l.length:=by
 have hl0:l.length≠0:=by simpa using h0
 have c1:w.drew.cell? ⟨b,1,none⟩=some (.slice (some ⟨g,0,none⟩) l.length cap):=by
  have:w.drew.heap[b]?=some (.cells #[p,.slice (some ⟨g,0,none⟩) l.length cap] 126 fr):=hbk;rw[Lib.cell_of_heap this];rfl
 have hSD:(Builtin.unsafeSliceData_ #[59] 183 #[.slice (some ⟨g,0,none⟩) l.length cap]).run prog w.drew = .ok (.pointer (some ⟨g,0,none⟩)) w.drew :=
  Lib.run_unsafeSliceData_row _ _ _ _ _ _ AM
 have hUS:(Builtin.unsafeString_ #[183,3] 9 #[.pointer (some ⟨g,0,none⟩),.int .i64 l.length]).run prog w.drew = .ok (.string ⟨l.toArray⟩) (w.drew.freeze ⟨g,0,none⟩ l.length):=by
  refine Lib.run_unsafeString_row w.drew 183 3 9 5 underlying183 (by kernel_rfl) g cur.size (by have hg':w.drew.heap[g]?=some (.cells cur 5 fz):=hg;simp[World.shape?,hg']) l h0 hcs h63 ?_;intro j x hx;have hg':w.drew.heap[g]?=some (.cells cur 5 fz):=hg;have:=hcell j x hx;have e:(⟨g,0,none⟩:Addr).add j=⟨g,j,none⟩:=by
   by_cases hj:j=0;·subst hj;simp[Addr.add]
   ·simp[Addr.add,hj]
  rw[e];unfold World.cell?;dsimp only;rw[hg'];simpa using this
 have mixed:prog.follows .mixedOrders=true:=rfl;have u126:=run_underlying underlying126;have u124:=run_underlying underlying124;have u59:=run_underlying underlying59;have u183:=run_underlying underlying183;have u3:=run_underlying underlying3;have u9:=run_underlying underlying9;have u5:=run_underlying underlying5
 go_enter func71,ntmps71
 go_wp2
 go_region_o
 all_goals (go_wp2;go_ret;exact⟨rfl,rfl⟩)

theorem aJb:∃ j,prog.info? 126=some j∧j.size=2:=A0.1 (by kernel_rfl:(prog.info? 126).map (·.size)=some 2)
theorem aQZ:liesAt prog prog.depth 126 (2/prog.cellsOf 126) 0 126 1=true:=by kernel_rfl

theorem aDt(b:Nat)(w:World)(h0:w.cell? ⟨b,0,none⟩=some (.pointer none))(hsh:w.shape? b=some (126,2))(hfz:w.frozen? ⟨b,0,none⟩=false) :
 Calls prog 115 #[.pointer (some ⟨b,0,none⟩)] w fun e w'=>e = .returned (.tuple #[])∧w'=w.setCell ⟨b,0,none⟩ (.pointer (some ⟨b,0,none⟩)):=by
 obtain⟨j,hj,hjs⟩:=aJb;have mixed:prog.follows .mixedOrders=true:=rfl;have u126:=run_underlying underlying126;have u124:=run_underlying underlying124;have u215:=run_underlying underlying215;have u9:=run_underlying underlying9;have u4:=run_underlying underlying4
 go_enter func115,ntmps115
 go_wp2
 rw[Lib.run_to_unsafe w ⟨b,0,none⟩ underlying124 underlying215 hj (by rw[hjs];decide) hsh (Nat.zero_lt_succ 1)];simp only[Result.andThen];rw[Oper.upon_value]
 go_wp2
 rw[run_callFunc_extern func140 (by kernel_rfl) (by kernel_rfl) (by kernel_rfl) (e:=Extern.AbiNoEscape.same) (by kernel_rfl)];rw[Lib.run_noEscape];simp only[Result.andThen];rw[Oper.upon_value]
 go_wp2
 rw[Lib.run_from_unsafe w ⟨b,0,none⟩ underlying215 underlying124 hj hsh aQZ];simp only[Result.andThen];rw[Oper.upon_value]
 go_wp2
 go_end0
 exact⟨rfl,rfl⟩

theorem aFC(b:Nat)(w:World)(h0:w.cell? ⟨b,0,none⟩=some (.pointer (some ⟨b,0,none⟩))) :
 Calls prog 115 #[.pointer (some ⟨b,0,none⟩)] w fun e w'=>e = .returned (.tuple #[])∧w'=w:=by
 obtain⟨j,hj,hjs⟩:=aJb;have mixed:prog.follows .mixedOrders=true:=rfl;have u126:=run_underlying underlying126;have u124:=run_underlying underlying124;have u215:=run_underlying underlying215;have u9:=run_underlying underlying9;have u4:=run_underlying underlying4
 go_enter func115,ntmps115
 go_wp2
 rw[Lib.run_neq_ptr_same w _ underlying124 hj]
 go_wp2
 go_end0
 exact⟨rfl,rfl⟩

section
variable{D:Nat→Option XFn}{Y:Nat→Option YI}{r:Nat→Option Nat}{h:XH}{H:Hp}{B:Base}

def aFf:List AV→XH→Option (AV×XH):=fun xs h=>match xs with
 | [.bp b]=>match hat h b with
   | some (.blk _ (.cells true (.nilpt::l)))=>some (.tup [],h.set b (some (.blk false (.cells true (.pt b 0::l)))))
   | some (.blk _ (.cells true (.pt b' 0::_)))=>if b'=b then some (.tup [],h) else none
   | _=>none
 | _=>none
theorem aFw{b:Nat}{g:Bool}{x:ABlk}(h0:hat h b=some (.blk g x)):aG h b=some x:=by unfold aG;rw[h0]
theorem aHe{b:Nat}{w:World}{c:Array Value}{e:TypeId}{fr:Nat×Nat}{v:Value}(hb:w.heap[b]?=some (.cells c e fr))(j:Nat)(hv:c[j]?=some v):w.cell? ⟨b,j,none⟩=some v:=by
 unfold World.cell?;dsimp only;rw[hb];simpa using hv

theorem aNm:iL D 115 aFf:=by
 intro B Y r h H xs ys v h' sh hr hx;unfold aFf at hx;split at hx
 ·rename_i b
  obtain⟨y,as1,rfl,h1,h2⟩:=hr.inv;obtain⟨c,rfl,hrb⟩:=aMR h1;rw[h2.nil_inv];split at hx
  ·rename_i g l hb
   cases hx;obtain⟨g',cs',_,k2,k3,_⟩:=sh.cells hrb (aFw hb);obtain⟨z,l',rfl,k4,k5⟩:=k3.inv;rw[aBH k4]at k2;refine⟨fun vs w=>call115 vs w,fun F w vs hB st ha=>?_⟩;obtain⟨v1,vs1,rfl,a1,a2⟩:=ha.cons1;rw[a2.nil1];cases a1 with
   | bp _ carr fr hcb hsz =>
   obtain⟨o,ho,hrb'⟩:=st.blk c _ k2;rw[hcb]at ho;simp only[oSI]at ho;subst ho;cases hrb' with
   | cells _ _ _ _ _ hfr hl hone hcells =>
   have hlt:c<w.heap.size:=(B7.1 hcb).1;obtain⟨v0,hv0⟩:∃ v0,carr[0]?=some v0:=⟨carr[0]'AM,D8 _⟩;have hn:=hcells 0 _ v0 rfl hv0;cases hn;refine callsIn_wide.2 ((aDt c w (aHe hcb 0 hv0) (by simp[World.shape?,hcb,hsz,aRB]) (by
    have:=hfr 0 AM;unfold World.frozen?;dsimp only;rw[hcb];exact this)).mono ?_)
   rintro e w' ⟨rfl,rfl⟩;have hheap:(w.setCell ⟨c,0,none⟩ (.pointer (some ⟨c,0,none⟩))).heap=w.heap.setIfInBounds c (.cells (carr.setIfInBounds 0 (.pointer (some ⟨c,0,none⟩))) aRB fr):=by
    apply O2;intro j;rw[E9];simp only[World.setCell,N9];by_cases hj:c=j
    ·subst hj
     rw[if_pos rfl,if_pos rfl,hcb];simp[hlt]
    ·rw[if_neg hj,if_neg hj]
   obtain⟨e1,e2⟩:=lL (w':=w.setCell ⟨c,0,none⟩ (.pointer (some ⟨c,0,none⟩))) (y:=.cells true (.pt c 0::l')) st k2 rfl hcb hheap ⟨rfl,rfl,rfl⟩ (fun c1 e1 fr1 hh=>by cases hh;exact⟨_,_,_,rfl,by simp⟩) (fun F1 w1 hu=>by
    refine .cells true _ _ _ fr (fun i hi=>hfr i (by simpa using hi)) (by simpa using hl) (fun i v hv=>?_) (fun i a v ha hv=>?_)
    ·rw[E9]at hv
     split at hv
     ·split at hv
      ·cases hv;rfl
      ·cases hv
     ·exact hone i v hv
    ·rw[E9]at hv
     split at hv
     ·rename_i hi0
      subst hi0;split at hv
      ·cases hv
       simp only[D0,oSI]at ha;subst ha;exact .pt _ _
      ·cases hv
     ·rename_i hi0
      obtain⟨m,rfl⟩:∃ m,i=m+1:=⟨i-1,by omega⟩;exact(hcells (m+1) a v (by simpa using ha) hv).up hu)
   refine⟨.tuple #[],.tup [],F,_,rfl,e1,e2,.tup _ _ rfl (by simp),r,DL.Sub.refl r,sh.turn hb hrb (.cells c false true _ _ (RnL.cons (.pt _ _ _ hrb) k5) (by simp)),.tup _ _ rfl (by simp)⟩
  ·rename_i g b' l hb
   split at hx
   ·rename_i hbb
    cases hx;subst hbb;obtain⟨g',cs',_,k2,k3,_⟩:=sh.cells hrb (aFw hb);obtain⟨z,l',rfl,k4,k5⟩:=k3.inv;obtain⟨c',rfl,hr'⟩:=kX k4;rw[hrb]at hr';cases hr';refine⟨fun vs w=>call115 vs w,fun F w vs hB st ha=>?_⟩;obtain⟨v1,vs1,rfl,a1,a2⟩:=ha.cons1;rw[a2.nil1];cases a1 with
    | bp _ carr fr hcb hsz =>
    obtain⟨o,ho,hrb'⟩:=st.blk c _ k2;rw[hcb]at ho;simp only[oSI]at ho;subst ho;cases hrb' with
    | cells _ _ _ _ _ hfr hl hone hcells =>
    obtain⟨v0,hv0⟩:∃ v0,carr[0]?=some v0:=⟨carr[0]'AM,D8 _⟩;have hn:=hcells 0 _ v0 rfl hv0;cases hn;refine callsIn_wide.2 ((aFC c w (aHe hcb 0 hv0)).mono ?_);rintro e w' ⟨rfl,rfl⟩;exact⟨.tuple #[],.tup [],F,H,rfl,Ext.refl _ _ _,st,.tup _ _ rfl (by simp),r,DL.Sub.refl r,sh,.tup _ _ rfl (by simp)⟩
   ·cases hx
  ·cases hx
 ·cases hx

def aAv:List AV→Option (List UInt8)
 | []=>some []
 | .int .u8 n::r=>if 0≤n∧n<256 then (aAv r).map (UInt8.ofNat n.toNat :: ·) else none
 | _=>none
theorem aHi:∀{bs:List AV}{l:List UInt8},aAv bs=some l→l.length=bs.length∧∀(j:Nat)(x:UInt8),l[j]?=some x→bs[j]?=some (.int .u8 x.toNat)
 | [],l,h=>by simp only[aAv,oSI]at h;subst h;simp
 | v::bs,l,h=>by
   unfold aAv at h;split at h;·rename_i h0;cases h0
   ·rename_i n r h0
    cases h0;split at h
    ·rename_i hn
     cases hl:aAv bs with
     | none=>rw[hl]at h;cases h
     | some l' =>
       rw[hl]at h;simp only[C3,oSI]at h;subst h;obtain⟨h1,h2⟩:=aHi hl;refine⟨by simp[h1],fun j x hj=>?_⟩;cases j with
       | zero =>
         simp only[D0,oSI]at hj;subst hj;have:((UInt8.ofNat n.toNat).toNat:Int)=n:=by
          rw[aE3];have:n.toNat%2^8=n.toNat:=M5 AM;rw[this];omega
         rw[this];rfl
       | succ j=>exact h2 j x (by simpa using hj)
    ·cases h
   ·cases h

def aGt:List AV→XH→Option (AV×XH):=fun xs h=>match xs with
 | [.bp b]=>match hat h b with
   | some (.blk _ (.cells _ [_,.sb g n]))=>match hat h g with
     | some (.blk _ (.cells true bs))=>match aAv (bs.take n)with
       | some (x::l)=>if n≤bs.length∧g≠b∧n≤1000000 then some (.str ⟨⟨x::l⟩⟩,h.set g none) else none
       | _=>none
     | _=>none
   | _=>none
 | _=>none

theorem sR{w:World}{g n:Nat}{c:Array Value}{e:TypeId}{fr:Nat×Nat}(hg:w.heap[g]?=some (.cells c e fr)):∃ fr',(w.drew.freeze ⟨g,0,none⟩ n).heap[g]?=some (.cells c e fr')∧(∀ j,j≠g→(w.drew.freeze ⟨g,0,none⟩ n).heap[j]?=w.heap[j]?) ∧
 (w.drew.freeze ⟨g,0,none⟩ n).heap.size=w.heap.size∧SameIO w (w.drew.freeze ⟨g,0,none⟩ n):=by
 unfold World.freeze;split;·exact⟨fr,hg,fun _ _=>rfl,rfl,⟨rfl,rfl,rfl⟩⟩
 ·have h0:w.drew.heap=w.heap:=rfl
  refine⟨if fr.1==fr.2 then (0,0+n) else (min fr.1 0,max fr.2 (0+n)),?_,fun j hj=>?_,by simp[h0],⟨rfl,rfl,rfl⟩⟩;·simp only[h0,N9,AAe,hg,C3]
  ·simp only[h0,N9]
   rw[if_neg (Ne.symm hj)]

theorem aSs:iL D 71 aGt:=by
 intro B Y r h H xs ys v h' sh hr hx;unfold aGt at hx;split at hx
 ·rename_i b
  obtain⟨y,as1,rfl,h1,h2⟩:=hr.inv;obtain⟨c,rfl,hrb⟩:=aMR h1;rw[h2.nil_inv];split at hx
  ·rename_i fl wr a0 g n hb
   split at hx
   ·rename_i fl2 bs hg
    split at hx
    ·rename_i x l hbl
     split at hx
     ·rename_i hc
      cases hx;obtain⟨_,cs',_,k2,k3,_⟩:=sh.cells hrb (aFw hb);obtain⟨z0,l0,rfl,k4,k5⟩:=k3.inv;obtain⟨z1,l1,rfl,k6,k7⟩:=k5.inv;rw[k7.nil_inv]at k2;obtain⟨gc,rfl,hrg⟩:=aMP k6;obtain⟨_,bs',_,m2,m3,_⟩:=sh.cells hrg (aFw hg);obtain⟨hbl1,hbl2⟩:=aHi hbl;have hlen:(x::l).length=n:=by rw[hbl1,G5];omega
      have hne:gc≠c:=fun e=>hc.2.1 (sh.inj g b c _ _ hg hb (e▸hrg) hrb);refine⟨fun vs w=>call71 vs w,fun F w vs hB st ha=>?_⟩;obtain⟨v1,vs1,rfl,a1,a2⟩:=ha.cons1;rw[a2.nil1];cases a1 with
      | bp _ carr fr hcb hsz =>
      obtain⟨o,ho,hrb'⟩:=st.blk c _ k2;rw[hcb]at ho;simp only[oSI]at ho;subst ho;cases hrb' with
      | cells _ _ _ _ _ hfr hl hone hcells =>
      obtain⟨v0,hv0⟩:∃ v0,carr[0]?=some v0:=⟨carr[0]'AM,D8 _⟩;obtain⟨v1,hv1⟩:∃ v1,carr[1]?=some v1:=⟨carr[1]'AM,D8 _⟩;have hs:=hcells 1 _ v1 rfl hv1;cases hs with
      | sb _ _ cap gcur gfr hgb hcap hle =>
      have hcarr:carr = #[v0,.slice (some ⟨gc,0,none⟩) n cap]:=by
       apply O2;intro j;match j with
       | 0=>rw[hv0];rfl
       | 1=>rw[hv1];rfl
       | j+2=>rw[J2 AM,J2 (by simp)]
      rw[hcarr]at hcb;obtain⟨o2,ho2,hrg'⟩:=st.blk gc _ m2;rw[hgb]at ho2;simp only[oSI]at ho2;subst ho2;cases hrg' with
      | cells _ _ _ _ _ hfr2 hl2 hone2 hcells2 =>
      have hl2':bs.length=bs'.length:=m3.1;rw[←hlen]at hcb;refine callsIn_wide.2 ((aVT c gc cap v0 gcur fr gfr (x::l) w hcb hgb (by simp) AM AM AM (fun j u hj=>?_)).mono ?_)
      ·have hb1:=hbl2 j u hj
       rw[G9]at hb1;split at hb1
       ·obtain⟨u',hu1,hu2⟩:=m3.get hb1
        have hlt:j<bs'.length:=(A2.1 hu1).1;obtain⟨q,hq⟩:∃ q,gcur[j]?=some q:=⟨gcur[j]'AM,D8 _⟩;have h9:=hcells2 j u' q hu1 hq;rw[dW hu2]at h9;cases h9;exact hq
       ·cases hb1
      ·rintro e w' ⟨rfl,rfl⟩
       obtain⟨fr',f1,f2,f3,f4⟩:=sR (n:=(x::l).length) hgb;have hE:Ext F w H F (w.drew.freeze ⟨gc,0,none⟩ (x::l).length) (mA H gc):=by
        refine⟨fun _ h=>h,fun _ h=>.inl h,fun j hj=>?_,fun j hj=>?_,by rw[f3];exact A8 _,fun j hj hw=>?_,fun j c1 e1 fr1 hj=>?_,f4⟩
        ·unfold mA at hj
         split at hj;·cases hj
         ·exact .inl hj
        ·left
         unfold qV at hj ⊢;unfold mA at hj;by_cases hjg:j=gc;·simp[hjg]at hj
         ·simpa [hjg]using hj
        ·refine f2 j fun e=>?_
         subst e;unfold qV at hw;rw[m2]at hw;simp[ABlk.wr]at hw
        ·by_cases hjg:j=gc
         ·subst hjg
          rw[hgb]at hj;cases hj;exact⟨_,_,_,f1,rfl⟩
         ·exact⟨c1,e1,fr1,by rw[f2 j hjg];exact hj,rfl⟩
       have hU:=hE.up st;refine⟨.string ⟨(x::l).toArray⟩,.str ⟨⟨x::l⟩⟩,F,mA H gc,rfl,hE,⟨fun j hj=>by rw[f3];exact st.lt j hj,fun j y hj=>?_,fun j y hj=>?_⟩,.str _,r,DL.Sub.refl r,⟨fun b1 c1 hb1=>by simpa using sh.dom b1 c1 hb1,fun b1 b2 c1 x1 x2 q1 q2 q3 q4=>?_,fun b1 x1 q1=>?_,sh.gh.elim fun G hG=>⟨_,hG.drop hg hrg⟩⟩,.str _⟩
       ·unfold mA at hj
        split at hj;·cases hj
        ·exact st.dis j y hj
       ·unfold mA at hj
        split at hj;·cases hj
        ·rename_i hjg
         obtain⟨o,o1,o2⟩:=st.blk j y hj;exact⟨o,by rw[f2 j hjg];exact o1,o2.up hU⟩
       ·have live:∀ b z,hat (h.set g none) b=some z→hat h b=some z:=fun b z hz=>by
         rw[fQ]at hz;split at hz;·cases hz
         ·exact hz
        exact sh.inj b1 b2 c1 x1 x2 (live _ _ q1) (live _ _ q2) q3 q4
       ·rw[fQ]at q1
        split at q1;·cases q1
        ·rename_i hcd
         obtain⟨c2,y2,w1,w2,w3⟩:=sh.blk b1 x1 q1;refine⟨c2,y2,w1,?_,w3⟩;unfold mA;rw[if_neg];·exact w2
         ·intro e
          subst e;exact hcd ⟨sh.inj b1 g _ x1 _ q1 hg w1 hrg,pZ hg⟩
     ·cases hx
    ·cases hx
   ·cases hx
  ·cases hx
 ·cases hx
theorem vO{s t:ByteArray}{as':List AV}(hr:RnL D Y r [.str s,.str t] as'):as'=[.str s,.str t]:=by
 obtain⟨a,as1,rfl,h1,h2⟩:=hr.inv;obtain⟨b,as2,rfl,h3,h4⟩:=h2.inv;rw[cX h1,cX h3,h4.nil_inv]

def aBS:List AV→XH→Option (AV×XH):=fun xs h=>match xs with
 | [.str s,.str p]=>if s.size≤1000000 then some (.bool (Lib.hasSuffix s.data.toList p.data.toList),h) else none
 | _=>none
theorem aSv:iL D 37 aBS:=by
 intro B Y r h H xs ys v h' sh hr hx;unfold aBS at hx;split at hx
 ·rename_i s p
  split at hx
  ·rename_i hn
   cases hx;rw[vO hr];refine FnW.shelf (r:=fun _=>.bool (Lib.hasSuffix s.data.toList p.data.toList)) (fun vs w=>call37 vs w) (fun F w vs=>.bool _) (fun F w vs hl ha=>?_) ⟨r,DL.Sub.refl r,sh,.bool _⟩;rw[ha.strStr];exact(Tryz.strings_HasSuffix s p w AM).mono fun e w' ⟨he,hw⟩=>⟨he,hw▸Below.refl _ _⟩
  ·cases hx
 ·cases hx

def oP:List AV→XH→Option (AV×XH):=fun xs h=>match xs with
 | [.str s,.str p]=>some (.tup [.str ⟨⟨Lib.trimPrefix s.data.toList p.data.toList⟩⟩,.bool (Lib.hasPrefix s.data.toList p.data.toList)],h)
 | _=>none
theorem aSr:iL D 72 oP:=by
 intro B Y r h H xs ys v h' sh hr hx;unfold oP at hx;split at hx
 ·rename_i s p
  cases hx;rw[vO hr];have two:∀(F:Nat→Prop)(w:World),Rv F w (.tup [.str ⟨⟨Lib.trimPrefix s.data.toList p.data.toList⟩⟩,.bool (Lib.hasPrefix s.data.toList p.data.toList)]) (.tuple #[.string ⟨(Lib.trimPrefix s.data.toList p.data.toList).toArray⟩,.bool (Lib.hasPrefix s.data.toList p.data.toList)]):=fun F w =>
   .tup _ _ rfl fun i x y hx hy=>by
    match i with
    | 0=>simp at hx hy;subst hx hy;exact .str _
    | 1=>simp at hx hy;subst hx hy;exact .bool _
    | k+2=>simp at hx
  refine FnW.shelf (r:=fun _=>.tuple #[.string ⟨(Lib.trimPrefix s.data.toList p.data.toList).toArray⟩,.bool (Lib.hasPrefix s.data.toList p.data.toList)]) (fun vs w=>call72 vs w) (fun F w vs=>two F w) (fun F w vs hl ha=>?_) ⟨r,DL.Sub.refl r,sh,(Gd.tup _ (fun c hc=>by
   simp only[B3,G6,AAi]at hc;rcases hc with rfl|rfl;·exact .str _
   ·exact .bool _)).rn⟩
  rw[ha.strStr];exact(Tryz.strings_CutPrefix s p w).mono fun e w' ⟨he,hw⟩=>⟨he,hw▸Below.refl _ _⟩
 ·cases hx

def aBR:List AV→XH→Option (AV×XH):=fun xs h=>match xs with
 | [.str s,.str ⟨⟨[c]⟩⟩]=>if c.toNat<128∧s.size≤1000000 then some (.str ⟨⟨Lib.trimRightB s.data.toList c⟩⟩,h) else none
 | _=>none
theorem aSp:iL D 80 aBR:=by
 intro B Y r h H xs ys v h' sh hr hx;unfold aBR at hx;split at hx
 ·rename_i s c
  split at hx
  ·rename_i hn
   cases hx;rw[vO hr];refine FnW.shelf (r:=fun _=>.string ⟨(Lib.trimRightB s.data.toList c).toArray⟩) (fun vs w=>call80 vs w) (fun F w vs=>.str _) (fun F w vs hl ha=>?_) ⟨r,DL.Sub.refl r,sh,.str _⟩;rw[ha.strStr];exact(Tryz.strings_TrimRight_one s c hn.1 w AM).mono fun e w' ⟨he,hw⟩=>⟨he,hw▸Below.refl _ _⟩
  ·cases hx
 ·cases hx

def aGu:List AV→XH→Option (AV×XH):=fun xs h=>match xs with
 | [.fs rows,.str x]=>match rI rows with
   | some l=>if l.length≤1000000 then some (.bool (Lib.containsS l x),h) else none
   | none=>none
 | _=>none
theorem aSu:iL D 47 aGu:=by
 intro B Y r h H xs ys v h' sh hr hx;unfold aGu at hx;split at hx
 ·rename_i rows x
  split at hx
  ·rename_i l hl
   split at hx
   ·rename_i hn
    cases hx;obtain⟨a,as1,rfl,h1,h2⟩:=hr.inv;obtain⟨b,as2,rfl,h3,h4⟩:=h2.inv;rw[(xP h1).1,cX h3,h4.nil_inv];obtain⟨hlen,hget⟩:=yX hl;refine FnW.shelf (r:=fun _=>.bool (Lib.containsS l x)) (fun vs w=>call47 vs w) (fun F w vs=>.bool _) (fun F w vs hlt ha=>?_) ⟨r,DL.Sub.refl r,sh,.bool _⟩;obtain⟨v1,vs1,rfl,k1,k2⟩:=ha.cons1;obtain⟨v2,vs2,rfl,k3,k4⟩:=k2.cons1;rw[k4.nil1];cases k3;have none:∀(a:Option Addr)(c:Nat),rows=[]→Calls Tryz.prog 47 #[.slice a 0 c,.string x] w fun e w'=>e = .returned (.bool (Lib.containsS l x))∧Below w.heap.size w w':=fun a c h0=>by
     subst h0;have:l=[]:=B8 (by simpa using hlen);subst this;exact(Tryz.slices_Contains_string_empty a c x w).mono fun e w' ⟨he,hw⟩=>⟨by rw[he];rfl,hw▸Below.refl _ _⟩
    cases k1 with
    | fs0 a cap=>exact none a cap rfl
    | fs rows blk off s cap g hcap hF hs hc ho hv =>
      by_cases h0:rows=[]
      ·have:=none (some ⟨blk,off,Option.none⟩) cap h0
       subst h0;exact this
      ·have hs1:s=1:=by
        obtain⟨row,rest,rfl⟩:=aG4 h0;have hl0:l.length=rest.length+1:=by simpa using hlen
        obtain⟨y,hy0⟩:∃ y,l[0]?=some y:=⟨_,A4 AM⟩;have:=hget 0 y hy0;simp only[D0,oSI]at this;rw[←hs row (by simp),this];rfl
       subst hs1;have hcl:=Tryz.slices_Contains_string blk off l.length cap l x w (A8 _) AM (fun j hj=>by
        obtain⟨y,hy⟩:∃ y,l[j]?=some y:=⟨_,A4 hj⟩;have h5:=hget j y hy;have h6:=hc j _ 0 _ h5 rfl;have h7:=hv j _ 0 _ h5 rfl;rw[A1,hy];generalize g j 0=z at h6 h7;cases h7;simpa using h6)
       rw[aD1]at hcl;rw[←hlen];exact hcl.mono fun e w' ⟨he,hw⟩=>⟨he,hw▸Below.refl _ _⟩
   ·cases hx
  ·cases hx
 ·cases hx
end
def p75(r:Nat):Bool:=decide (r<32)||decide (126<r)

theorem bBm(x:Nat)(hx:x≤1114111)(W:World):FnGives prog 75 #[] #[encR x] (.bool (p75 x)) W:=by
 unfold FnGives;have u21:=run_underlying underlying21;have u4:=run_underlying underlying4;show Calls prog 75 (#[encR x] ++ #[]) W _;by_cases h1:x<32
 ·have e:p75 x=true:=by simp[p75,h1]
  rw[e];have h1':(x:Int)<32:=AM
  go_enter func75,ntmps75
  go_wp2
  all_goals (go_ret;exact⟨rfl,0,rfl⟩)
 ·by_cases h2:126<x
  ·have e:p75 x=true:=by simp[p75,h2]
   rw[e];have h1':¬(x:Int)<32:=AM
   have h2':(126:Int)<x:=AM
   go_enter func75,ntmps75
   go_wp2
   all_goals (go_ret;exact⟨rfl,0,rfl⟩)
  ·have e:p75 x=false:=by simp[p75];omega
   rw[e];have h1':¬(x:Int)<32:=AM
   have h2':¬(126:Int)<x:=AM
   go_enter func75,ntmps75
   go_wp2
   all_goals (go_ret;exact⟨rfl,0,rfl⟩)

def pL:List UInt8→Bool
 | []=>false
 | b::r=>decide (b.toNat<32)||(decide (126<b.toNat)||pL r)
theorem aLg(s:ByteArray)(pos:Nat)(h:128≤(s.get! pos).toNat):126<(Utf8.decode s pos).1:=by
 have h0:¬(s.get! (pos+0)).toNat<128:=by
  show ¬(s.get! pos).toNat<128;omega
 unfold Utf8.decode;dsimp only;rw[if_neg h0];split
 ·split
  ·rename_i hc;exact G4 (by decide) hc
  ·decide
 ·split
  ·split
   ·rename_i hc
    simp only[A3,AAg]at hc;omega
   ·decide
  ·split
   ·split
    ·rename_i hc
     simp only[A3,AAg]at hc;omega
    ·decide
   ·decide
theorem aLf(s:ByteArray)(pos:Nat)(h:(s.get! pos).toNat<128):Utf8.decode s pos=((s.get! pos).toNat,1):=by
 have h0:(s.get! (pos+0)).toNat<128:=h;unfold Utf8.decode;dsimp only;rw[if_pos h0];rfl
theorem aOd{s:ByteArray}{pos:Nat}{b:UInt8}{l:List UInt8}(h:s.data.toList.drop pos=b::l):s.get! pos=b∧pos<s.size∧s.data.toList.drop (pos+1)=l:=by
 have hlt:pos<s.data.toList.length:=by
  rcases Nat.lt_or_ge pos s.data.toList.length with h1|h1;·exact h1
  ·rw[H9 h1]at h;cases h
 have hsz:s.size=s.data.toList.length:=by rw[D4];rfl
 rw[aD3 hlt]at h;simp only[aA3]at h;refine⟨?_,by omega,h.2⟩;rw[←h.1];have:pos<s.data.size:=by simpa using hlt
 show s.data[pos]! = _;rw[getElem!_pos s.data pos this];simp
theorem aJE(s:ByteArray):∀(l:List UInt8)(f pos:Nat),s.data.toList.drop pos=l→l.length≤f→decide (0≤Lib.idxFuncFrom p75 true s f pos)=pL l
 | [],f,pos,h,hf=>by
   have hsz:s.size=s.data.toList.length:=by rw[D4];rfl
   have:¬pos<s.size:=fun hc=>by
    have:=aF1 (l:=s.data.toList) (i:=pos);rw[h]at this;simp at this;omega
   rw[Lib.idxFuncFrom_end p75 true s f pos this];rfl
 | b::l,0,pos,h,hf=>by simp at hf
 | b::l,f+1,pos,h,hf=>by
   obtain⟨h1,h2,h3⟩:=aOd h;unfold Lib.idxFuncFrom;rw[if_pos h2];by_cases hb:b.toNat<128
   ·rw[aLf s pos (by rw[h1];exact hb),h1]
    dsimp only;by_cases hp:p75 b.toNat=true
    ·rw[if_pos hp]
     have:pL (b::l)=true:=by
      unfold pL;unfold p75 at hp;simp only[M4]at hp ⊢;rcases hp with hp|hp;·exact .inl hp
      ·exact .inr (.inl hp)
     rw[this];simp
    ·rw[if_neg hp,aJE s l f (pos+1) h3 (by simpa using hf)]
     unfold p75 at hp;simp only[M4,AAg,not_or]at hp;have e1:decide (b.toNat<32)=false:=AAm hp.1;have e2:decide (126<b.toNat)=false:=AAm hp.2;rw[pL,e1,e2];simp
   ·have hd:=aLg s pos (by rw[h1];omega)
    have hp:p75 (Utf8.decode s pos).1=true:=by simp[p75,hd]
    rw[if_pos hp];have:pL (b::l)=true:=by
     unfold pL;have:decide (126<b.toNat)=true:=AAl AM;rw[this];simp
    rw[this];simp

section
variable{D:Nat→Option XFn}{Y:Nat→Option YI}{r:Nat→Option Nat}{h:XH}{H:Hp}{B:Base}
def aJq:List AV→XH→Option (AV×XH):=fun xs h=>match xs with
 | [.str s,.fn (.func 75) [] []]=>some (.bool (pL s.data.toList),h)
 | _=>none
theorem aSq:iL D 74 aJq:=by
 intro B Y r h H xs ys v h' sh hr hx;unfold aJq at hx;split at hx
 ·rename_i s
  cases hx;obtain⟨a,as1,rfl,h1,h2⟩:=hr.inv;obtain⟨b,as2,rfl,h3,h4⟩:=h2.inv;rw[cX h1,h4.nil_inv];have hb:b = .fn (.func 75) [] []:=by
   cases h3 with
   | fn _ _ ys _ vs _ hl1 _ hl2 _ =>
     rw[B8 (l:=ys) (by simpa using hl1.symm),B8 (l:=vs) (by simpa using hl2.symm)]
  rw[hb];refine FnW.shelf (r:=fun _=>.bool (pL s.data.toList)) (fun vs w=>call74 vs w) (fun F w vs=>.bool _) (fun F w vs hl ha=>?_) ⟨r,DL.Sub.refl r,sh,.bool _⟩;obtain⟨v1,vs1,rfl,k1,k2⟩:=ha.cons1;obtain⟨v2,vs2,rfl,k3,k4⟩:=k2.cons1;rw[k4.nil1];cases k1;cases k3 with
  | fn _ _ _ fv cv hl1 hl2 _ _ =>
    have e1:fv = #[]:=by
     rcases fv with ⟨_|⟨a,l⟩⟩;·rfl
     ·simp at hl1
    have e2:cv = #[]:=by
     rcases cv with ⟨_|⟨a,l⟩⟩;·rfl
     ·simp at hl2
    rw[e1,e2];have hc:=Tryz.strings_ContainsFunc_runes 75 #[] (fun vs w=>call75 vs w) p75 s w (fun W x hx _=>bBm x hx W);have he:decide (0≤Lib.idxFunc p75 true s)=pL s.data.toList:=aJE s s.data.toList s.size 0 rfl (by rw[D4];exact A8 _);rw[he]at hc;exact hc
 ·cases hx
end
end
section
open Go Go.DL Go.Proofs.Tryz

noncomputable def ops56:Array Oper:=match f56.body with
 | some (.seq (.region _ ops _) _)=>ops
 | _ => #[]
noncomputable def rest56:Code:=match f56.body with
 | some (.seq (.region _ _ _) c)=>c
 | _=>.skip
theorem aUG:f56.body=some (.seq (.region 0 ops56 false) rest56):=rfl
theorem aTH:∃ o,ops56[0]?=some o∧o.dst=some 4∧o.guard=none∧o.op = .call { callee:=.builtin .recover,args := #[],argTypes := #[] }:=⟨_,rfl,rfl,rfl,rfl⟩
theorem aTG:∃ o,ops56[1]?=some o∧o.dst=some 5∧o.guard=none∧o.op = .typeAssert (.tmp 4) 20 110 true:=⟨_,rfl,rfl,rfl,rfl⟩
def mZ:List DOper:=[⟨0,some 3,.mv (.t 5),none⟩,⟨0,some 6,.ext (.t 3) 0,none⟩,⟨0,some 7,.ext (.t 3) 1,none⟩,⟨0,some 1,.alloc [.int .i64 0],none⟩,⟨0,none,.store 1 (.t 1) (.t 6) [],none⟩,⟨0,some 2,.mv (.t 7),none⟩]
def vX:List DOper:=[⟨0,some 8,.mv (.t 2),none⟩]
def uH:List DOper:=[⟨0,some 9,.fld 0 (.t 1),none⟩,⟨0,some 10,.load false 1 (.t 9),none⟩,⟨0,some 11,.callf false (.c (.fn (.func 57) [] [])) [.t 10] [],none⟩,
 ⟨0,some 12,.bin .add (.c (.str ⟨#[110,111,32]⟩)) (.t 11),none⟩,⟨0,none,.store 1 (.t 0) (.t 12) [],none⟩]
noncomputable def ops56m:Array Oper:=match f56.body with
 | some (.seq _ (.seq (.region _ ops _) _))=>ops
 | _ => #[]
noncomputable def ops56l:Array Oper:=match f56.body with
 | some (.seq _ (.seq _ (.cond _ (.region _ ops _) _)))=>ops
 | _ => #[]
theorem aKF:rest56 = .seq (.region 1 ops56m false) (.cond (.tmp 8) (.region 2 ops56l false) .skip):=rfl
theorem aQz:((ops56.toList.drop 2).mapM (aEk prog ops56))=some mZ:=by kernel_rfl
theorem aUy:tI prog 13 ops56m false=some vX:=by kernel_rfl
theorem aRw:tI prog 13 ops56l false=some uH:=by kernel_rfl
theorem aTl:ops56.size=8:=rfl
theorem aPf:∃ i,prog.info? 110=some i∧i.zero=some (.agg #[.int .i64 0]):=⟨_,rfl,rfl⟩
theorem aFW:∃ fs,prog.underlying 110=some (.struct fs):=⟨_,rfl⟩
theorem aVZ:f56.results = #[]:=rfl
theorem aWs:f56.ntmps=13:=rfl

noncomputable def code21:Code:=match f21.body with
 | some (.seq _ (.seq _ c))=>c
 | _=>.skip
noncomputable def r21_0:Array Oper:=match f21.body with
 | some (.seq (.region _ ops _) _)=>ops
 | _ => #[]
noncomputable def r21_1:Array Oper:=match f21.body with
 | some (.seq _ (.seq (.region _ ops _) _))=>ops
 | _ => #[]
theorem aUH:f21.body=some (.seq (.region 0 r21_0 false) (.seq (.region 1 r21_1 false) code21)):=rfl
theorem aWj:tI prog 41 r21_0 false=some [⟨0,some 4,.alloc [.str ⟨#[]⟩],none⟩]:=by kernel_rfl
theorem aWy:∃ o,r21_1[0]?=some o∧aEk prog r21_1 o=some ⟨0,some 7,.mkf (.func 56) [] [.t 4],none⟩:=⟨_,rfl,by kernel_rfl⟩
theorem bBo:∃ o,r21_1[1]?=some o∧o.dst=none∧o.guard=none∧o.op = .defer { callee:=.value (.tmp 7),args := #[],argTypes := #[] }:=⟨_,rfl,rfl,rfl,rfl⟩
theorem aZp:r21_1.size=2:=rfl
theorem aWt:f21.ntmps=41:=rfl
theorem aWa:f21.results.toList.mapM (aAC prog)=some [(4,some (false,1))]:=by kernel_rfl

section
variable{D:Nat→Option XFn}{B:Base}{Y:Nat→Option YI}{r:Nat→Option Nat}{h:XH}{H:Hp}{F:Nat→Prop}{w:World}

theorem aFx:∀(j:Nat)(d:DOper),mZ[j]?=some d→Reads prog ops56 (2+j) d:=by
 intro j d hj;obtain⟨h1,h2⟩:=zM aQz;obtain⟨o,h3,h4⟩:=h2 j d hj;refine nT (o:=o) ?_ h4;rw[G8,G3]at h3;exact h3
theorem aKR:∀ d∈mZ,aEi 13 d:=by
 intro d hd;simp only[mZ,B3,G6,AAi]at hd;rcases hd with rfl|rfl|rfl|rfl|rfl|rfl<;>exact⟨by intro k hk;simp at hk<;>omega,rfl⟩

theorem aSY{run:eP}{runY:fS}(hf:FnS prog B D Y run)(hy:YS prog B D Y runY)(hm:prog.follows .mixedOrders=true)(hB:B.Up F w)(st:St F w H)(sh:SH D Y r h H){c o b:Nat}(hrc:r c=some b)
 {i:aPa} (hi1:i.hops=mZ++vX) (hi2:i.hlast=uH) (hi3:i.is=8) {v v':AV} {t:Bool} (hv:Rn D Y r v v') {h3:XH} (hx:vF i run runY (.pt c o) v t h=some h3)
 {x vv:Value} (hta:(Instr.typeAssert x 20 110 true).run prog w = .ok (.tuple #[vv,.bool t]) w) (hvv:Rv F w v' vv) {cs:List Frame} {Q:Exit→Act→List Frame→World→Prop} {a:Act} (ha:a.tmps.size=13) (hdf:a.defers=[])
 (ha4:a.eval (.tmp 4)=x) (ha0:a.tmps.getD 0 undef = .pointer (some ⟨b,o,none⟩)) (gi:GI F w)
 (hQ:∀ a' F' w' H' r',a'.defers=[]→Ext F w H F' w' H'→St F' w' H'→Sub r r'→SH D Y r' h3 H'→Q .normal a' cs w') :
 wpOpsIn Fence.wide 0 prog ops56 (fun e a w=>Exit.thenS (rest56.wpSIn Fence.wide 0 prog Q) Q e a cs w) (List.range' 1 7) a w:=by
 obtain⟨o1,g1,g2,g3,g4⟩:=aTG;rw[aC9,wpOpsIn_cons];unfold wpOpIn;simp only[g1];have hw:Region.wanted o1 (yielded ops56 a.tmps)=true:=by unfold Region.wanted;rw[g3]
 rw[if_pos hw];refine⟨fun _ _=>trivial,?_⟩;have hs:(o1.semAt Fence.wide.round a.eval).run prog w = .ok (.value (.tuple #[vv,.bool t])) w:=by
  rw[Oper.semAt_eq _ _ _ (by rw[g4];simp)];simp[execOp,g4,ha4,hta]
 rw[hs,Oper.uponIn_value,g2];have hsr:SR D Y r (aAr (.pt c o) v t) h (aAr (.pt b o) v' t) H:=⟨sh,fun j=>by
  unfold aAr;split;·exact .pt _ _ _ hrc
  ·split
   ·exact .tup _ _ rfl fun i x y hx hy=>by
     match i with
     | 0=>simp at hx hy;subst hx hy;exact hv
     | 1=>simp at hx hy;subst hx hy;exact .bool _
     | k+2=>simp at hx
   ·exact .any _⟩
 have hre:RE F w (aAr (.pt b o) v' t) (a.put (some 5) (.tuple #[vv,.bool t])):=⟨fun k=>by
  unfold aAr;have hsz5:5<a.tmps.size:=AM
  split
  ·rename_i hk;subst hk
   simp only[Act.put,F8,E9]at ha0 ⊢;simp only[show ¬(5=0) by omega,AAd];rw[ha0];exact .pt _ _
  ·split
   ·rename_i hk;subst hk
    simp only[Act.put,F8,E9,AAe,hsz5,H7];exact .tup _ _ rfl fun i x y hx hy=>by
     match i with
     | 0=>simp at hx hy;subst hx hy;exact hvv
     | 1=>simp at hx hy;subst hx hy;exact .bool _
     | k+2=>simp at hx
   ·exact .any _,gi⟩
 unfold vF at hx;split at hx
 ·rename_i e1 h1 hx1
  rw[hi1]at hx1;have R:=aKD (jZ (P:=prog) (B:=B) hf hy (mZ++vX) r _ h _ H e1 h1 (fun env' H'=>∃ r',Sub r r'∧SR D Y r' e1 h1 env' H') rfl hsr hx1 (fun r' env' H' hs sr'=>⟨r',hs,sr'⟩));refine aBM (r:=none) (B:=B) (N:=13) mZ 2 aFx aKR F w H _ _ (by simpa [Act.put]using ha) hB st hre R ?_;intro a3 F3 w3 env3 H3 s1 s2 s3 s4 s5 s6;show rest56.wpSIn Fence.wide 0 prog Q a3 cs w3;rw[aKF];have hB3:=hB.step st s3;refine wpSIn_seq (wpSIn_of_wpIn rfl (mQ (B:=B) (r:=none) (F:=F3) (H:=H3) (env:=env3) (N:=13) (draw:=false) hm aUy s1 hB3 s4 s5 s6 ?_));rintro a4 F4 w4 env4 H4 q1 q2 q3 q4 q5 ⟨r4,q6,q7⟩;show (Code.cond (.tmp 8) (.region 2 ops56l false) .skip).wpSIn Fence.wide 0 prog Q a4 cs w4;have hd4:a4.defers=[]:=by rw[q2,s2];exact hdf
  have E4:=s3.trans q3;have h8:=q7.re i.is;rw[hi3]at h8 hx;split at hx
  ·rename_i h8t
   rw[h8t]at h8;have hev:a4.eval (.tmp 8) = .bool true:=by
    have:=q5.rv 8;rw[fE h8]at this;show a4.tmps.getD 8 undef=_;generalize a4.tmps.getD 8 undef=z at this;cases this;rfl
   refine wpSIn_cond (t:=true) hev ?_;simp only[A0]at hx;obtain⟨⟨e5,h5⟩,hx5,rfl⟩:=hx;rw[hi2]at hx5
   refine wpSIn_of_wpIn rfl (mQ (B:=B) (r:=none) (F:=F4) (H:=H4) (env:=env4) (N:=13) (draw:=false) hm aRw q1 (hB3.step s4 q3) q4 q5
    (jZ (P:=prog) (B:=B) hf hy uH r4 _ h1 _ H4 e5 h5 (fun env' H'=>∃ r',Sub r r'∧SR D Y r' e5 h5 env' H') rfl q7 hx5 (fun r' env' H' hs sr'=>⟨r',q6.trans hs,sr'⟩)) ?_)
   rintro a5 F5 w5 env5 H5 p1 p2 p3 p4 p5 ⟨r5,p6,p7⟩;exact hQ a5 F5 w5 H5 r5 (by rw[p2];exact hd4) (E4.trans p3) p4 p6 p7.sh
  ·rename_i h8t
   rw[h8t]at h8;simp only[oSI]at hx;subst hx;have hev:a4.eval (.tmp 8) = .bool false:=by
    have:=q5.rv 8;rw[fE h8]at this;show a4.tmps.getD 8 undef=_;generalize a4.tmps.getD 8 undef=z at this;cases this;rfl
   refine wpSIn_cond (t:=false) hev ?_;exact wpSIn_of_wpIn rfl (wpIn_skip (hQ a4 F4 w4 H4 r4 hd4 E4 q4 q6 q7.sh))
  ·simp at hx
 ·simp at hx

theorem aHk(vv:Value):(Instr.typeAssert (.iface 110 vv) 20 110 true).run prog w = .ok (.tuple #[vv,.bool true]) w:=by
 obtain⟨fs,hfs⟩:=aFW;simp[Instr.typeAssert,run_underlying hfs]
theorem aIK:(Instr.typeAssert .nilIface 20 110 true).run prog w = .ok (.tuple #[.agg #[.int .i64 0],.bool false]) w:=by
 obtain⟨fs,hfs⟩:=aFW;obtain⟨i,hi,hz⟩:=aPf;simp[Instr.typeAssert,run_underlying hfs,zeroValue,typeInfo,hi,hz]

theorem aUa{run:eP}{runY:fS}(hf:FnS prog B D Y run)(hy:YS prog B D Y runY)(hm:prog.follows .mixedOrders=true)(hB:B.Up F w)(st:St F w H)(sh:SH D Y r h H){c o b:Nat}(hrc:r c=some b)
 {i:aPa} (hi1:i.hops=mZ++vX) (hi2:i.hlast=uH) (hi3:i.is=8) {v v':AV} {t:Bool} (hv:Rn D Y r v v') {h3:XH} (hx:vF i run runY (.pt c o) v t h=some h3) {u:FrameMode} {R:Ending→FrameMode→World→Prop} {cval:Value}
 (hu:(t=true∧u = .panicking (pnc cval)∧Rv F w (.ifc 110 v') cval)∨(t=false∧u = .returning∧v' = .agg [.int .i64 0]))
 (hR:∀ F' w' H' r' u',settle u' = .returning→Ext F w H F' w' H'→St F' w' H'→Sub r r'→SH D Y r' h3 H'→R (.returned (.tuple #[])) u' w') :
 CallsDIn Fence.wide 0 prog 56 #[.pointer (some ⟨b,o,none⟩)] u w R:=by
 refine callsDIn_of_wpSIn func56 aUG trivial fun c₀ cs hc0=>?_;rw[aWs];obtain⟨o0,g1,g2,g3,g4⟩:=aTH;refine wpSIn_seq (aCX g1 g3 (fun _ _=>trivial) (by simp[execOp,resolve,g4,invoke,builtin]) rfl ?_)
 have fin:∀(x vv:Value)(cs':List Frame)(u':FrameMode),cs'={ c₀ with mode:=u' }::cs→settle u' = .returning→(Instr.typeAssert x 20 110 true).run prog w = .ok (.tuple #[vv,.bool t]) w→Rv F w v' vv →
  wpOpsIn Fence.wide 0 prog ops56 (fun e a w=>Exit.thenS (rest56.wpSIn Fence.wide 0 prog (bodyPostS prog f56 c₀ cs R)) (bodyPostS prog f56 c₀ cs R) e a cs' w) (List.range' 1 (ops56.size-1))
   (Act.put { tmps := #[.pointer (some ⟨b,o,none⟩)]++Array.replicate (13 - #[Value.pointer (some ⟨b,o,none⟩)].size) undef,defers:=[] } o0.dst x) w:=by
  intro x vv cs' u' hcs hset hta hvv;rw[g2,aTl];refine aSY hf hy hm hB st sh hrc hi1 hi2 hi3 hv hx hta hvv (by simp[Act.put]) rfl (by simp[Act.put,Act.eval]) (by simp[Act.put]) (B.gi.up hB) ?_;intro a' F' w' H' r' k1 k2 k3 k4 k5;refine⟨k1,u',hcs,.tuple #[],?_,hR F' w' H' r' u' hset k2 k3 k4 k5⟩;simp[results,aVZ]
 rcases hu with ⟨rfl,rfl,hc⟩|⟨rfl,rfl,rfl⟩
 ·cases hc with
  | ifc _ _ vv hvv =>
  have hrec:recoverD (c₀::cs)=some (.iface 110 vv,{ c₀ with mode:=.panicking [{ v:=.iface 110 vv,recovered:=true }] }::cs):=by
   simp[recoverD,hc0,pnc]
  rw[hrec];exact fin _ vv _ _ rfl rfl (aHk vv) hvv
 ·have hrec:recoverD (c₀::cs)=none:=by simp[recoverD,hc0]
  rw[hrec];exact fin _ (.agg #[.int .i64 0]) _ .returning (by rw[←hc0]) rfl aIK (.agg _ _ rfl (fun i v hv=>by
   match i with
   | 0=>simp at hv;subst hv;rfl
   | k+1=>simp at hv) (fun i x y hx hy=>by
   match i with
   | 0=>simp at hx hy;subst hx hy;exact .int _ _
   | k+1=>simp at hx))

def b21:XCode:=(.seq (.reg [(0,false)] false [⟨0,(some 8),(.mv (.t 0)),none⟩,⟨0,(some 9),(.callf false (.c (.fn (.func 59) [] [])) [(.t 8)] []),none⟩,⟨0,(some 10),
 (.not (.t 9)),none⟩,⟨0,(some 11),(.callf false (.c (.fn (.func 58) [] [])) [(.t 10),(.c (.int .i64 9))] []),none⟩]) (.seq (.reg [(1,false)] false
 [⟨0,(some 12),(.mv (.t 1)),none⟩,⟨0,(some 13),(.callf false (.c (.fn (.func 60) [] [])) [(.t 12)] []),none⟩,⟨0,(some 5),(.alloc [(.str ⟨#[]⟩),
 .nilsl,.nilsl]),none⟩,⟨0,none,(.store 3 (.t 5) (.t 13) []),none⟩]) (.seq (.reg [(0,false),(5,true)] false [⟨0,(some 14),(.mv (.t 0)),none⟩,⟨0,
 (some 15),(.load true 3 (.t 5)),none⟩,⟨0,(some 16),(.callf false (.c (.fn (.func 61) [] [])) [(.t 14),(.t 15)] []),none⟩,⟨0,(some 6),(.mv (.t
 16)),none⟩]) (.seq (.seq (.reg [] false [⟨0,(some 17),(.mv (.t 6)),none⟩,⟨0,(some 18),(.eqn 2 false (.t 17) (.c .nilfn)),none⟩]) (.cond (.t 18)
 (.seq (.reg [(0,false),(5,true)] false [⟨0,(some 19),(.mv (.t 0)),none⟩,⟨0,(some 20),(.load true 3 (.t 5)),none⟩,⟨0,(some 21),(.callf false (.c
 (.fn (.func 62) [] [])) [(.t 19),(.t 20)] []),none⟩,⟨0,none,(.store 1 (.t 4) (.t 21) []),none⟩]) .ret) .skip)) (.seq (.reg [] false [⟨0,(some 22),
 (.mv (.t 0)),none⟩,⟨0,(some 23),(.nilck (.t 22)),none⟩,⟨0,(some 24),(.fld 6 (.t 23)),none⟩,⟨0,(some 25),(.load false 1 (.t 24)),none⟩,⟨0,
 (some 26),(.len false (.t 25)),none⟩,⟨0,(some 27),(.bin .lss (.t 26) (.c (.int .i64 300))),none⟩,⟨0,(some 28),(.callf false (.c (.fn (.func 58) []
 [])) [(.t 27),(.c (.int .i64 15))] []),none⟩]) (.seq (.reg [] false [⟨0,(some 29),(.mv (.t 6)),none⟩,⟨0,(some 30),(.callf false (.t 29) [] []),
 none⟩]) (.seq (.reg [(1,false)] false [⟨0,(some 31),(.mv (.t 0)),none⟩,⟨0,(some 32),(.mv (.t 0)),none⟩,⟨0,(some 33),(.nilck (.t 32)),none⟩,⟨0,
 (some 34),(.fld 6 (.t 33)),none⟩,⟨0,(some 35),(.load false 1 (.t 34)),none⟩,⟨0,(some 36),(.mv (.t 1)),none⟩,⟨0,(some 37),(.bslice 1 1 [(.str
 ⟨#[]⟩)] [(0,(1,(.t 36)))]),none⟩,⟨0,(some 38),(.app 1 16 (.t 35) (.t 37)),none⟩,⟨0,(some 39),(.nilck (.t 31)),none⟩,⟨0,(some 40),(.fld 6 (.t
 39)),none⟩,⟨0,none,(.store 1 (.t 40) (.t 38) []),none⟩]) (.seq (.reg [] false [⟨0,none,(.store 1 (.t 4) (.c (.str ⟨#[111,107]⟩)) []),none⟩])
 .ret))))))))
def saySay:aPa:=⟨41,[(4,some (false,1))],[⟨0,some 4,.alloc [.str ⟨#[]⟩],none⟩],4,7,b21,110,.agg [.int .i64 0],mZ++vX,8,uH⟩
theorem aEm:eH prog 41 code21=some b21.erase:=by kernel_rfl
theorem aWr:pJ b21=true:=by kernel_rfl
theorem aWu:sG b21=true:=by kernel_rfl

end
noncomputable def m58a:Array Oper:=match f58.body with
 | some (.seq (.region _ ops _) _)=>ops
 | _ => #[]
noncomputable def m58b:Array Oper:=match f58.body with
 | some (.seq _ (.cond _ (.region _ ops _) _))=>ops
 | _ => #[]
theorem aUF:f58.body=some (.seq (.region 0 m58a false) (.cond (.tmp 5) (.region 1 m58b false) .skip)):=rfl
def aTV:List DOper:=[⟨0,some 4,.mv (.t 0),none⟩,⟨0,some 5,.not (.t 4),none⟩]
def l58b:List DOper:=[⟨0,some 6,.mv (.t 1),none⟩,⟨0,some 7,.build [.int .i64 0] [(0,(1,.t 6))],none⟩,⟨0,some 8,.mkifc 110 (.t 7),none⟩]
theorem aON:tI prog 9 m58a false=some aTV:=by kernel_rfl
theorem aOM:((m58b.toList.take 3).mapM (aEk prog m58b))=some l58b:=by kernel_rfl
theorem p58:∃ o,m58b[3]?=some o∧o.guard=none∧o.op = .panic (.tmp 8):=⟨_,rfl,rfl,rfl⟩
theorem s58:m58b.size=4:=rfl
theorem n58:f58.ntmps=9:=rfl

section
variable{D:Nat→Option XFn}{B:Base}{Y:Nat→Option YI}{r:Nat→Option Nat}{h:XH}{H:Hp}
def aJw:eP:=fun _ _ _=>none
def aFj:fS:=fun _ _ _=>none
theorem aGy:FnS prog B D Y aJw:=fun _ _ _ _ _ _ _ _ _ _ hx=>by simp[aJw]at hx
theorem aDO:YS prog B D Y aFj:=fun _ _ _ _ _ _ _ _ _ _ _ _ hx=>by simp[aFj]at hx

theorem aYw(k:IntKind)(n:Int):∃ e1,fA aJw aFj aTV (aV [.bool false,.int k n]) h=some (e1,h)∧e1 5 = .bool true∧e1 1 = .int k n:=⟨_,rfl,rfl,rfl⟩
theorem aYv{e:aH}{k:IntKind}{n:Int}(he:e 1 = .int k n):∃ e1,fA aJw aFj l58b e h=some (e1,h)∧e1 8 = .ifc 110 (.agg [.int k n]):=by
 refine⟨aW (aW (aW e (some 6) (.int k n)) (some 7) (.agg [.int k n])) (some 8) (.ifc 110 (.agg [.int k n])),?_,rfl⟩;have h0:aK e (.t 1) = .int k n:=he;simp only[l58b,fA,gd,dG,aD,h0,E7];rfl

theorem aKG{P:Program}{ops:Array Oper}{r:Option Nat}{N:Nat}{Q:Exit→Act→World→Prop}{tl:List Nat}{K:aH→Hp→Prop}:∀(l:List DOper)(i:Nat),(∀ j d,l[j]?=some d→Reads P ops (i+j) d)→(∀ d∈l,aEi N d) →
 ∀(F:Nat→Prop)(w:World)(H:Hp)(env:aH)(a:Act),a.tmps.size=N→B.Up F w→St F w H→RE F w env a→RS B P l K env H→DL.Ends N a F w H K (fun a' w'=>wpOpsIn (FW r) 0 P ops Q tl a' w') →
 wpOpsIn (FW r) 0 P ops Q (List.range' i l.length++tl) a w:=by
 intro l;induction l with
 | nil=>intro i _ _ F w H env a hsz hB st re h hQ;exact hQ a F w env H hsz rfl (Ext.refl _ _ _) st re h
 | cons d l ih =>
   intro i hr hd F w H env a hsz hB st re h hQ;rw[C8,aC9,J9,wpOpsIn_cons];refine aBk (hr 0 d rfl) (hd d (by simp)).2 (hd d (by simp)).1 hsz hB st re h ?_;intro a' F' w' env' H' h1 h2 h3 h4 h5 h6;exact ih (i+1) (fun j d' hj=>by have:=hr (j+1) d' (by simpa using hj);rwa [aB0,aD0 1 j]) (fun d' hd'=>hd d' (by simp[hd'])) F' w' H' env' a' h1 (hB.step st h3) h4 h5 h6 (hQ.step h2 h3)

theorem aZu(hm:prog.follows .mixedOrders=true)(k:IntKind)(n:Int){as':List AV}(sh:SH D Y r h H)(hA:RnL D Y r [.bool false,.int k n] as'):FnP B prog 58 as' H (eZ D Y r (.ifc 110 (.agg [.int k n])) h):=by
 have hl:as'.length=2:=by have:=hA.1;simpa using this.symm
 refine⟨fun vs w=>call58 vs w,fun F w vs hB st hAr=>?_⟩;have hsz:(vs++Array.replicate (f58.ntmps-vs.size) undef).size=9:=by
  have h1:=hAr.1;rw[n58];simp;omega
 have hre:=aAU (N:=9) (nt:=f58.ntmps-vs.size) hB hAr;obtain⟨e1,hx1,he5,he1⟩:=aYw (h:=h) k n;have wO:=jZ (P:=prog) (B:=B) aGy aDO aTV r _ h _ H e1 h (fun env' H'=>∃ r',DL.Sub r r'∧SR D Y r' e1 h env' H') rfl ⟨sh,pF hA⟩ hx1 (fun r' env' H' hs sr'=>⟨r',hs,sr'⟩);refine callsIn_of_wp_marks func58 aUF trivial (wpIn_seq (mQ (B:=B) (r:=none) (N:=9) (draw:=false) hm aON hsz hB st hre wO ?_));rintro a1 F1 w1 env1 H1 p1 p2 p3 p4 p5 ⟨r1,p6,p7⟩;show (Code.cond (.tmp 5) (.region 1 m58b false) .skip).wpIn Fence.wide 0 prog _ a1 w1;have hev:a1.eval (.tmp 5) = .bool true:=by
  have h5:=p7.re 5;rw[he5]at h5;have:=p5.rv 5;rw[fE h5]at this;show a1.tmps.getD 5 undef=_;generalize a1.tmps.getD 5 undef=z at this;cases this;rfl
 refine wpIn_cond (t:=true) hev (wpIn_region ?_);rw[s58,show List.range 4=List.range' 0 l58b.length++[3] from rfl];obtain⟨e2,hx2,he8⟩:=aYv (h:=h) he1;have dM:=jZ (P:=prog) (B:=B) aGy aDO l58b r1 _ h _ H1 e2 h (fun env' H'=>∃ r',DL.Sub r r'∧SR D Y r' e2 h env' H') rfl p7 hx2 (fun r' env' H' hs sr'=>⟨r',p6.trans hs,sr'⟩);refine aKG (r:=none) (B:=B) (N:=9) l58b 0 (fun j d hj=>?_) (fun d hd=>?_) F1 w1 H1 env1 a1 p1 (hB.step st p3) p4 p5 dM ?_
 ·obtain⟨h1,h2⟩:=zM aOM
  obtain⟨o,h3,h4⟩:=h2 j d hj;rw[I6];refine nT (o:=o) ?_ h4;rw[G9]at h3;split at h3;·rwa [G3]at h3
  ·cases h3
 ·simp only[l58b,B3,G6,AAi]at hd
  rcases hd with rfl|rfl|rfl<;>exact⟨by intro k hk;simp at hk<;>omega,rfl⟩
 rintro a2 F2 w2 env2 H2 q1 q2 q3 q4 q5 ⟨r2,q6,q7⟩;obtain⟨o,g1,g2,g3⟩:=p58;rw[wpOpsIn_cons];unfold wpOpIn;simp only[g1];have hw:Region.wanted o (yielded m58b a2.tmps)=true:=by unfold Region.wanted;rw[g2]
 rw[if_pos hw];refine⟨fun _ _=>trivial,?_⟩;have h8:=q7.re 8;rw[he8]at h8;have hrv:=q5.rv 8;cases hz:env2 8<;>rw[hz]at h8<;>cases h8
 rename_i v8 h8;rw[hz]at hrv;obtain⟨cv,hcv⟩:∃ cv,a2.tmps.getD 8 undef=cv:=⟨_,rfl⟩;rw[hcv]at hrv;have hev8:a2.eval (.tmp 8)=cv:=hcv;have hrv0:=hrv;cases hrv with
 | ifc _ _ vv hvv =>
 have hsem:(o.semAt (FW none).round a2.eval).run prog w2 = .halt (.panic (.iface 110 vv)) w2:=by
  rw[Oper.semAt_eq _ _ _ (by rw[g3];simp)];simp[execOp,g3,hev8,Instr.panic,goPanic]
 rw[hsem,Oper.uponIn_panic];show LeavesInM Fence.wide 0 prog f58 a2.tmps _ a2.defers (.panicking _) w2;have hd2:a2.defers=[]:=by rw[q2,p2]
 rw[hd2];exact⟨.iface 110 vv,_,F2,H2,rfl,p3.trans q3,q4,hrv0,r2,q6,q7.sh,.ifc _ _ _ h8⟩
end
end
section
open Go Go.DL Go.Proofs.Tryz

def mU(f:List AV→XH→Option (AV×XH)):XFn:=⟨10,[],false,false,.skip,none,some f⟩
def aWk(n:Nat):XFn:=⟨n,[],false,false,.skip,none,some fun _ _=>none⟩
def aNh(K:Nat):Option XFn:=match K with
 | 37=>some (mU aBS)
 | 47=>some (mU aGu)
 | 57=>some (mU zG)
 | 71=>some (mU aGt)
 | 72=>some (mU oP)
 | 74=>some (mU aJq)
 | 80=>some (mU aBR)
 | 83=>some (mU aAM)
 | 99=>some (mU aBT)
 | 115=>some (mU aFf)
 | 143=>some (mU sF)
 | 21=>some (aWk 41)
 | K=>aJn K

theorem aSl{D:Nat→Option XFn}{K:Nat}:iL D K (fun _ _=>none):=fun _ _ _ _ _ _ _ _ _ _ _ hx=>by cases hx
theorem XOk.over{D D':Nat→Option XFn}(ok:XOk prog D)(h:∀ K d,D' K=some d→(D K=some d∧d.prm=none)∨∃ n f,d=⟨n,[],false,false,.skip,none,some f⟩∧iL D' K f):XOk prog D' where
 mixed:=ok.mixed
 is K d hd hp:=by
  rcases h K d hd with ⟨h1,_⟩|⟨n,f,rfl,_⟩;·exact ok.is K d h1 hp
  ·cases hp
 prm K d f hd hp B Y _ r hh H xs ys v h' sh hr hx:=by
  rcases h K d hd with ⟨_,h2⟩|⟨n,f',rfl,h2⟩;·rw[h2]at hp;cases hp
  ·cases hp
   exact h2 B Y r hh H xs ys v h' sh hr hx
 ok K d hd:=by
  rcases h K d hd with ⟨h1,_⟩|⟨n,f,rfl,_⟩;·exact ok.ok K d h1
  ·rfl
 sites K d hd:=by
  rcases h K d hd with ⟨h1,_⟩|⟨n,f,rfl,_⟩;·exact ok.sites K d h1
  ·trivial

end
section
open Go Go.DL Go.RowKit Go.Proofs.Tryz
variable{D:Nat→Option XFn}{Y:Nat→Option YI}{r:Nat→Option Nat}{h:XH}{H:Hp}{B:Base}
def pE(s:ByteArray):AV:=match Lib.atoiAll s.data.toList with
 | .ok v=>.tup [.int .i64 v,.nilifc]
 | Lib.NumEnd.syntax=>.tup [.int .i64 0,.ifc 232 .any]
 | .range=>.tup [.int .i64 (Lib.atoiSat s.data.toList),.ifc 232 .any]
def aFg:List AV→XH→Option (AV×XH):=fun xs h=>match xs with
 | [.str s]=>if s.size≤100000 then some (pE s,h) else none
 | _=>none
theorem aEy{F:Nat→Prop}{w:World}{a b:AV}{x y:Value}(h1:Rv F w a x)(h2:Rv F w b y):Rv F w (.tup [a,b]) (.tuple #[x,y]):=by
 refine .tup _ _ rfl fun i c v hc hv=>?_;match i,hc,hv with
 | 0,hc,hv =>
   simp at hc hv;rw[←hc,←hv];exact h1
 | 1,hc,hv =>
   simp at hc hv;rw[←hc,←hv];exact h2
 | i+2,hc,_=>simp at hc
theorem aEz{a b x y:AV}(h1:Rn D Y r a x)(h2:Rn D Y r b y):Rn D Y r (.tup [a,b]) (.tup [x,y]):=by
 refine .tup _ _ rfl fun i c v hc hv=>?_;match i,hc,hv with
 | 0,hc,hv =>
   simp at hc hv;rw[←hc,←hv];exact h1
 | 1,hc,hv =>
   simp at hc hv;rw[←hc,←hv];exact h2
 | i+2,hc,_=>simp at hc
theorem aSn:iL D 86 aFg:=by
 intro B Y r h H xs ys v h' sh hr hx;unfold aFg at hx;split at hx
 ·rename_i s
  split at hx
  ·rename_i hn
   cases hx;obtain⟨a,as1,rfl,h1,h2⟩:=hr.inv;rw[cX h1,h2.nil_inv];have hrn:Rn D Y r (pE s) (pE s):=by
    unfold pE;split;·exact aEz (.int _ _) .nilifc
    ·exact aEz (.int _ _) (.ifc _ _ _ (.any _))
    ·exact aEz (.int _ _) (.ifc _ _ _ (.any _))
   refine FnW.shelfG (fun vs w=>call86 vs w) (fun F w vs gi hl ha=>?_) ⟨r,DL.Sub.refl r,sh,hrn⟩;obtain⟨b,bs,rfl,h3,h4⟩:=ha.cons1;cases h3;rw[h4.nil1];obtain⟨_,ev1,hv1,he1⟩:=gi.2.2.2 1 (by simp[aAQ]);obtain⟨_,ev2,hv2,he2⟩:=gi.2.2.2 2 (by simp[aAQ]);unfold pE;cases hA:Lib.atoiAll s.data.toList with
   | ok v =>
     refine(Tryz.strconv_Atoi_ok s AM v hA w).mono ?_;rintro e w' ⟨rfl,hw⟩;have hbel:Below w.heap.size w w':=by
      rcases hw with rfl|⟨t,rfl⟩;·exact Below.refl _ _
      ·exact Lib.bytesWorld_below _ _ _
     exact⟨_,F,rfl,hbel,fun _ h=>h,fun _ h=>.inl h,fun b hb=>G4 (hl b hb) hbel.size,aEy (.int _ _) .nilifc⟩
   | range =>
     refine(Tryz.strconv_Atoi_range s AM hA ev2 w hv2 he2).mono ?_;rintro e w' ⟨N,rfl,_,_,hbel⟩;exact⟨_,F,rfl,hbel,fun _ h=>h,fun _ h=>.inl h,fun b hb=>G4 (hl b hb) hbel.size,aEy (.int _ _) (.ifc _ _ _ (.any _))⟩
   | _ =>
     refine(Tryz.strconv_Atoi_syntax s AM hA ev1 w hv1 he1).mono ?_;rintro e w' ⟨N,rfl,_,_,hbel⟩;exact⟨_,F,rfl,hbel,fun _ h=>h,fun _ h=>.inl h,fun b hb=>G4 (hl b hb) hbel.size,aEy (.int _ _) (.ifc _ _ _ (.any _))⟩
  ·cases hx
 ·cases hx
end
section
open Go Go.DL Go.Proofs.Tryz

def aB(K:Nat):Option XFn:=match K with
 | 86=>some (mU aFg)
 | K=>aNh K
theorem aA:XOk prog aB:=by
 refine XOk.over progX_ok fun K d hd=>?_;unfold aB at hd;split at hd;·cases hd;exact .inr ⟨_,_,rfl,aSn⟩
 ·unfold aNh at hd
  split at hd;·cases hd;exact .inr ⟨_,_,rfl,aSv⟩
  ·cases hd;exact .inr ⟨_,_,rfl,aSu⟩
  ·cases hd;exact .inr ⟨_,_,rfl,aSt⟩
  ·cases hd;exact .inr ⟨_,_,rfl,aSs⟩
  ·cases hd;exact .inr ⟨_,_,rfl,aSr⟩
  ·cases hd;exact .inr ⟨_,_,rfl,aSq⟩
  ·cases hd;exact .inr ⟨_,_,rfl,aSp⟩
  ·cases hd;exact .inr ⟨_,_,rfl,aSo⟩
  ·cases hd;exact .inr ⟨_,_,rfl,aSm⟩
  ·cases hd;exact .inr ⟨_,_,rfl,aNm⟩
  ·cases hd;exact .inr ⟨_,_,rfl,aNl⟩
  ·cases hd;exact .inr ⟨_,_,rfl,aSl⟩
  ·exact .inl ⟨hd,aNk hd⟩
theorem qX(K:Nat)(d:XFn)(hD:aB K=some d){vs:List AV}{h:XH}(hl:vs.length≤d.N:=by exact Nat.le_of_ble_eq_true rfl)(hdf:d.dfr=none:=by rfl)(hpr:d.prm=none:=by rfl)(hg:lK K=false:=by rfl):runW aB K vs h=gV none d.res d.ownR h.length (execW aB K h.length none d.body (aV (if d.ownA then vs else lO vs)) h):=dS hD hl h hdf hpr hg
theorem qY(K:Nat)(d:XFn)(hD:aB K=some d){vs:List AV}{h:XH}(hl:vs.length≤d.N:=by exact Nat.le_of_ble_eq_true rfl)(hdf:d.dfr=none:=by rfl)(hg:lK K=true:=by rfl)(hpr:d.prm=none:=by rfl):runW aB K vs h=aDm d.res (execW aB K h.length none d.body (aV (if d.ownA then vs else lO vs)) h):=aMI hD hl h hdf hg hpr
end
section
open Go Go.DL

def iK(x:Nat):Nat:=(x+224)%256
def dH(s:List Nat):List Nat:=s.take 40++List.replicate (40-s.length) 32
def rC:Nat→List Nat→Nat
 | _,[]=>0
 | i,x::r=>(i+1)*iK x+rC (i+1) r
def vH(row:Nat)(f:List Nat):Nat:=(row+rC 0 f)%9973
def jW(c:Nat):List Nat:=[48+c/1000,48+c/100%10,48+c/10%10,48+c%10]
def iS(row:Nat)(f:List Nat):List Nat:=jW (vH row f)++(f++[10])
def eG(times:Nat):List Nat→List Nat→List Nat
 | a::f,b::o=>(32+(iK a+times*iK b)%95)::eG times f o
 | _,_=>[]
def bN(s:ByteArray):List Nat:=s.data.toList.map UInt8.toNat
def rE(l:List Nat):ByteArray:=⟨⟨l.map UInt8.ofNat⟩⟩
def tK(l:List Nat):AV:=.agg (l.map fun(n:Nat)=>.int .u8 (n:Int))
end
section
open Go Go.DL
abbrev U(n:Nat):AV:=.int .u8 (n:Int)
theorem ptf(p:Prop):p=True∨p=False:=by
 by_cases h:p;·exact .inl (AAp h)
 ·exact .inr (AAq h)
theorem gF{α:Type}{l:List α}{i:Nat}(h:i<l.length):∃ x,l[i]?=some x:=⟨_,A4 h⟩
theorem kT{n i:Nat}(h:i<n)(hn:n≤9223372036854775807):IntKind.i64.wrap ((i:Int)+1)=(i:Int)+1:=aI AM AM
theorem p57{xs:List AV}{h:XH}:runW aB 57 xs h=zG xs h:=eL rfl rfl xs h
theorem aZv{xs:List AV}{h:XH}:runW aB 143 xs h=sF xs h:=eL rfl rfl xs h
theorem q44{vs:List AV}{h:XH}(hl:vs.length≤15):runW aB 44 vs h=gV none x44.res x44.ownR h.length (execW aB 44 h.length none x44.body (aV (if x44.ownA then vs else lO vs)) h):=dS rfl hl h rfl
theorem aZs{vs:List AV}{h:XH}(hl:vs.length≤33):runW aB 119 vs h=gV none x119.res x119.ownR h.length (execW aB 119 h.length none x119.body (aV (if x119.ownA then vs else lO vs)) h):=dS rfl hl h rfl

def bT(l:List Nat):List AV:=l.map fun(n:Nat)=>.int .u8 (n:Int)
theorem bM(l:List Nat):tK l = .agg (bT l):=rfl
theorem aN(l:List Nat):(bT l).length=l.length:=by simp[bT]
theorem aIT{l:List Nat}{i x:Nat}(h:l[i]?=some x):(bT l)[i]?=some (U x):=by simp[bT,h]
theorem bL(l:List Nat):lJ (bT l)=true:=eW fun v hv=>by
 obtain⟨n,_,rfl⟩:=D6.1 hv;rfl
theorem cN(l:List Nat):slL (bT l)=[]:=by
 induction l with
 | nil=>rfl
 | cons a l ih=>show slN _++slL (bT l)=[];rw[ih];rfl
theorem cH(l:List Nat):lF (bT l)=[]:=by
 induction l with
 | nil=>rfl
 | cons a l ih=>show iZ _++lF (bT l)=[];rw[ih];rfl
theorem cG(s:Nat→Option Nat)(l:List Nat):lR s (bT l)=bT l:=by
 induction l with
 | nil=>rfl
 | cons a l ih=>show rnA s _::lR s (bT l)=_;rw[ih];rfl
theorem cO(l:List Nat):lO (bT l)=bT l:=by
 induction l with
 | nil=>rfl
 | cons a l ih=>show qP _::lO (bT l)=_;rw[ih];rfl
theorem aHt{l:List Nat}{i x:Nat}(h:i<l.length):bO (bT l) i [.int .u8 (x:Int)]=bT (l.set i x):=by
 unfold bO bT;rw[aG0,aE5,if_pos (by simpa using h)];simp
theorem jH{a b:List Nat}(h:a.length=b.length):bO (bT a) 0 (bT b)=bT b:=by
 unfold bO;rw[List.take_zero,G7,H9 (by rw[aN,aN];omega),I5]
theorem gO{l:List Nat}(h:l.length=40):List.take 40 (bT l)=bT l:=B5 (by rw[aN];omega)
theorem jY{l:List Nat}(h:l.length=40):List.take 40 (List.drop 0 (bT l))=bT l:=by rw[aC2];exact gO h

def nf(i:Nat):List Nat:=List.replicate i 32++List.replicate (40-i) 0
theorem eD{i:Nat}(h:i≤40):(nf i).length=40:=by simp[nf];omega
theorem aTL{i:Nat}(h:i<40):bO (bT (nf i)) i [.int .u8 32]=bT (nf (i+1)):=by
 have h1:=aHt (l:=nf i) (i:=i) (x:=32) (by rw[eD AM];exact h);have h2:(nf i).set i 32=nf (i+1):=by
  unfold nf;obtain⟨k,hk⟩:∃ k,40-i=k+1:=⟨39-i,by omega⟩;have hk':40-(i+1)=k:=AM
  rw[hk,hk',M0,List.replicate_succ',O0 _ _ (by simp)];simp
 rw[←h2];exact h1
theorem iI(l:List Nat):(dH l).length=40:=by simp[dH];omega
theorem bBp(s:ByteArray):bO (bT (nf 40)) 0 ((s.data.toList.map fun b=>AV.int .u8 (b.toNat:Int)).take (min s.size 40))=bT (dH (bN s)):=by
 have hs:s.size=s.data.toList.length:=by rw[D4];rfl
 have hn:bT (nf 40)=List.replicate 40 (U 32):=rfl;rw[hn];unfold bO dH bN bT;rw[F6,aF2,aB4,List.take_zero,G7,hs];have e:((s.data.toList.map fun b=>AV.int .u8 (b.toNat:Int)).take (min s.data.toList.length 40))=(s.data.toList.map ((fun n:Nat=>AV.int .u8 (n:Int))∘UInt8.toNat)).take 40:=by
  by_cases h:s.data.toList.length≤40;·rw[aA5 h,B5 (by simp),B5 (by simpa using h)];rfl
  ·rw[Nat.min_eq_right AM];rfl
 rw[e];congr 1;simp only[I6,G5,A7,List.drop_replicate,List.map_replicate];congr 1;omega
theorem cpR(s:ByteArray):aEw 1 [some (XB.blk true (ABlk.cells true (bT (nf 0)))),some (XB.blk true (ABlk.cells true (bT (nf 40))))] (AV.sl 1 0 1 40) (AV.str s)=some (.int .i64 ((min s.size 40:Nat):Int),[some (XB.blk true (ABlk.cells true (bT (nf 0)))),some (XB.blk true (ABlk.cells true (bT (dH (bN s)))))]):=by
 have hc:=bBp s;have l40:(bT (nf 40)).length=40:=by rw[aN];exact eD AM
 unfold aEw aAX;simp only[fJ,hat,aF7,aD6,AAe,l40];simp only[AAk,I6,aC0,A8,AAe,C3,aG5,aG6,jU,Bool.and_true];rw[hc]
theorem aWN{i:Nat}(h:i<40):(i+1≤40)=True:=AAa
theorem w44(s:ByteArray):runW aB 44 [.str s] []=some (tK (dH (bN s)),[]):=by
 rw[q44 (by simp)];unfold x44;dsimp only;have e0:((40:Int)<40)=False:=AAb;have l40:(bT (nf 40)).length=40:=by rw[aN];exact eD AM
 have l0:(bT (nf 0)).length=40:=by rw[aN];exact eD AM
 have g0:=bL (nf 0);rw[bM];sym =>
  simp[Zb,Zf,Zh,Zl,Zv,Zw,Wg,Va,Tc,Tf,Tg,Tl,Tm,Tt,TD,TE,TJ,TK,S9,SD,SE,SN,e0]
  tactic =>
   unfold aRT;rw[aS 40 (fun i=>[.str s,.pt 0 0,.pt 1 0,I (i:Nat)]) (fun i=>[some (.blk true (.cells true (bT (nf 0)))),some (.blk true (.cells true (bT (nf i))))])]
   ·have c2:=iI (bN s)
    have c4:=aN (dH (bN s));rw[c2]at c4;have c5:=gO c2;have c6:=jY c2;have c7:=bL (dH (bN s));have c3:=cpR s;have c8:=jH (a:=nf 0) (b:=dH (bN s)) (by rw[c2];exact eD AM);(exact kO e0 l40 l0 c3 c4 c5 c6 c7 c8 g0 cN cH cG cO aE aE aE aE aE aE)
   ·(exact wO)
   ·intro i hi
    have i1:((i:Int)<40)=True:=AAa;have a2:=kT (n:=40) hi AM;have n1:(bT (nf i)).length=40:=by rw[aN];exact eD AM
    have n2:=aTL hi;have n3:=aWN hi;(exact RS5 i1 a2 n1 n2 n3)
   ·(exact dM e0)
def qL(a b:Int):Int:=Int.tmod a b
def wP(a b:Int):Int:=Int.tdiv a b
def aMX(z:Bool)(k:IntKind)(v:Int):Option AV:=if z then none else some (.int k v)
theorem lS(k:IntKind)(v:Int):aMX false k v=some (.int k v):=rfl
theorem fW{k:IntKind}{a b:Int}:gN .rem k a k b=aMX (decide (b=0)) k (qL a b):=by
 by_cases h:b=0<;>simp[gN,aMX,h,qL]
theorem fX{k:IntKind}{a b:Int}:gN .quo k a k b=aMX (decide (b=0)) k (k.wrap (wP a b)):=by
 by_cases h:b=0<;>simp[gN,aMX,h,wP]
theorem kB(a b:Nat):qL (a:Int) (b:Int)=((a%b:Nat):Int):=by rw[qL,aG7 AM];exact(Int.natCast_emod a b).symm

theorem aFD(x:Nat):iK x<256:=J4 _ (by decide)
theorem aOA{x:Nat}(h:x<256):IntKind.u8.wrap ((x:Int)-32)=(iK x:Int):=by
 unfold iK;simp[IntKind.wrap,IntKind.bits,IntKind.signed];omega
theorem aEo(x:Nat):∀(l:List Nat)(k:Nat),rC k (l++[x])=rC k l+(k+l.length+1)*iK x
 | [],k=>by simp[rC]
 | a::l,k=>by
   rw[J9,rC,aEo x l (k+1),rC,C8];rw[show k+1+l.length+1=k+(l.length+1)+1 by omega];omega
theorem aJY:∀(l:List Nat)(k:Nat),rC k l≤l.length*((k+l.length)*255)
 | [],k=>by simp[rC]
 | a::l,k=>by
   have h1:=aJY l (k+1);have h2:=aFD a;rw[rC,C8];have h3:(k+1)*iK a≤(k+(l.length+1))*255:=P9 AM AM;have h4:k+1+l.length=k+(l.length+1):=AM
   rw[h4]at h1;rw[aA6 l.length 1];omega
def wN(row:Nat)(f:List Nat)(i:Nat):Nat:=row+rC 0 (f.take i)
theorem aYn(row:Nat)(f:List Nat):wN row f 0=row:=by simp[wN,rC]
theorem aYm{row:Nat}{f:List Nat}{i x:Nat}(h:f[i]?=some x):wN row f (i+1)=wN row f i+(i+1)*iK x:=by
 have hi:i<f.length:=(A2.1 h).1;have ht:f.take (i+1)=f.take i++[x]:=by rw[I7,h];rfl
 unfold wN;rw[ht,aEo,G5,aA5 AM];rw[show 0+i+1=i+1 by omega,aB0]
theorem aUN{row:Nat}{f:List Nat}(hf:f.length=40)(i:Nat):wN row f i≤row+408000:=by
 have h:=aJY (f.take i) 0;have h1:(f.take i).length≤40:=by rw[G5];omega
 have h2:(f.take i).length*((0+(f.take i).length)*255)≤40*(40*255):=P9 h1 (P9 AM (A8 _));unfold wN;omega
theorem aUO{row:Nat}{f:List Nat}(hf:f.length=40):wN row f 40%9973=vH row f:=by
 unfold wN vH;rw[B5 AM]

theorem aOU(l1 l2:List UInt8):(⟨⟨l1⟩⟩:ByteArray)++⟨⟨l2⟩⟩=⟨⟨l1++l2⟩⟩:=by
 have h:((⟨⟨l1⟩⟩:ByteArray)++⟨⟨l2⟩⟩).data=(⟨⟨l1++l2⟩⟩:ByteArray).data:=by
  rw[M3];simp
 cases hx:(⟨⟨l1⟩⟩:ByteArray)++⟨⟨l2⟩⟩with
 | mk d=>rw[hx]at h;simp only at h;rw[h]
theorem oJ{a b:ByteArray}(h:a.size+b.size≤1000000):aQ BinOp.add a b=some (.str (a++b)):=by
 have e:IntKind.i64.max=9223372036854775807:=by decide
 simp only[aQ];rw[if_neg (by rw[e];omega)]
theorem rH(l:List UInt8):(⟨⟨l⟩⟩:ByteArray).size=l.length:=rfl
def aIx(c:Nat):ByteArray:=rE (jW c)
theorem aRs{c:Nat}(h:c<9973):1≤(Lib.itoa (c:Int)).length∧(Lib.itoa (c:Int)).length≤4∧Lib.repeatL [48] (4-(Lib.itoa (c:Int)).length)++Lib.itoa (c:Int)=(jW c).map UInt8.ofNat:=by
 have e:Lib.itoa (c:Int)=Lib.decDigits c:=by
  unfold Lib.itoa;rw[if_neg AM];rfl
 rw[e];by_cases h1:c<10
 ·rw[Lib.decDigits_one h1]
  refine⟨by simp,by simp,?_⟩;have:jW c=[48,48,48,48+c]:=by simp[jW];omega
  rw[this];rfl
 ·by_cases h2:c<100
  ·rw[Lib.decDigits_two h1 h2]
   refine⟨by simp,by simp,?_⟩;have:jW c=[48,48,48+c/10,48+c%10]:=by simp[jW];omega
   rw[this];rfl
  ·have s3:∀{m:Nat},¬m<10→Lib.decDigits m=Lib.decDigits (m/10)++[UInt8.ofNat (48+m%10)]:=fun {m} hm=>by
    conv=>lhs;rw[Lib.decDigits,dif_neg hm]
   by_cases h3:c<1000
   ·rw[s3 h1,Lib.decDigits_two AM AM]
    refine⟨by simp,by simp,?_⟩;have:jW c=[48,48+c/10/10,48+c/10%10,48+c%10]:=by simp[jW];omega
    rw[this];rfl
   ·rw[s3 h1,s3 AM,Lib.decDigits_two AM AM]
    refine⟨by simp,by simp,?_⟩;have:jW c=[48+c/10/10/10,48+c/10/10%10,48+c/10%10,48+c%10]:=by simp[jW];omega
    rw[this];rfl

theorem w57{c:Nat}(h:c<9973):runW aB 57 [I (c:Int)] []=some (.str ⟨⟨Lib.itoa (c:Int)⟩⟩,[]):=by
 rw[p57];unfold zG;dsimp only;rw[if_pos AM]
theorem aZg{d:Nat}(h:d≤4):runW aB 143 [.str ⟨#[48]⟩,I (d:Int)] []=some (.str ⟨⟨Lib.repeatL [48] d⟩⟩,[]):=by
 rw[aZv];unfold sF;dsimp only;rw[if_pos (by refine⟨by omega,by omega,by decide⟩)];simp

theorem aZm{f:List Nat}{row:Nat}(hf:f.length=40)(hb:∀(i x:Nat),f[i]?=some x→x<256)(hrow:row≤1000000):runW aB 119 [tK f,I (row:Int)] []=some (.str (aIx (vH row f)),[]):=by
 rw[aZs (by simp)];unfold x119;dsimp only;have e0:((40:Int)<40)=False:=AAb;have lf:=aN f;rw[hf]at lf;have gf:=bL f;rw[bM];have t1:=gO hf;have t2:=jY hf;sym =>
  simp[fW,fX,lS,Za,Zb,Zf,Zh,Zl,Zm,Zo,Zv,Zz,ZV,Wj,WY,Vb,Vq,V1,V2,V3,V9,UT,Tc,Tg,Tm,TJ,TK,TU,TV,Sn,Sp,Ss,Sz,S9,SD,SE,SM,SN,e0,lf,gf,t1,t2,cN,cH,cG,cO]
  tactic =>
   unfold aLH;rw[aS 40 (fun i=>[I (wN row f i:Nat),.agg (bT f),I (i:Nat)]) (fun _=>[])]
   ·have hc:vH row f<9973:=J4 _ (by decide)
    have c1:qL ((wN row f 40:Nat):Int) 9973=((vH row f:Nat):Int):=by rw[←aUO hf];exact kB _ _
    have c2:=w57 hc;obtain⟨d1,d2,d3⟩:=aRs hc;have c3:=aZg (d:=4-(Lib.itoa ((vH row f:Nat):Int)).length) AM;have c4:aIx (vH row f)=(⟨⟨Lib.repeatL [48] (4-(Lib.itoa ((vH row f:Nat):Int)).length)⟩⟩:ByteArray)++⟨⟨Lib.itoa ((vH row f:Nat):Int)⟩⟩:=by
     rw[aOU,d3];rfl
    rw[c4];have c5:(⟨⟨Lib.itoa ((vH row f:Nat):Int)⟩⟩:ByteArray).size=(Lib.itoa ((vH row f:Nat):Int)).length:=rfl;have c6:IntKind.i64.wrap (4-((Lib.itoa ((vH row f:Nat):Int)).length:Int))=((4-(Lib.itoa ((vH row f:Nat):Int)).length:Nat):Int):=by rw[aI AM AM];omega
    have c7:=oJ (a:=⟨⟨Lib.repeatL [48] (4-(Lib.itoa ((vH row f:Nat):Int)).length)⟩⟩) (b:=⟨⟨Lib.itoa ((vH row f:Nat):Int)⟩⟩) (by
     rw[rH,rH,Lib.repeatL_length];simp only[C8,J3,I6,aC0];omega)
    generalize Lib.itoa ((vH row f:Nat):Int)=ss at *;generalize hz:(⟨⟨ss⟩⟩:ByteArray)=a at *;generalize hd:4-ss.length=d at *;generalize hy:(⟨⟨Lib.repeatL [48] d⟩⟩:ByteArray)=z at *;(sym=>(simp[fW,fX,lS,Za,Zb,Zf,Zh,Zl,Zm,Zv,ZA,ZR,Ye,Yh,Ym,Yn,Yy,Y8,YG,Xz,XJ,Wu,Ww,WG,Va,V8,VI,VM,VN,VO,VQ,VR,VT,VU,Ug,Uh,Ui,Uu,UE,UF,UH,UI,UJ,UK,UL,UO,UP,UQ,UR,UU,UX,UZ,Td,Te,Tg,Th,Tj,Tm,T5,T8,T9,TA,TB,TC,S7,S8,S9,SA,SC,SE,SF,SK,SM,SN,Qh,Qs,QX,QY,QZ,Pa,e0,lf,c1,c2,c3,c5,c6,c7,cN,cH,cG,cO];all_goals tactic=>exact rfl))
   ·have a0:=aYn row f
    (sym=>(simp[fW,fX,lS,Za,YU,Xz,XL,Wu,Wx,VI,VN,VP,VQ,VR,UV,UW,Td,Te,Th,Tj,T9,TA,TB,TC,SL,lf,a0,cN,cH,cG,cO];all_goals tactic=>exact rfl))
   ·intro i hi
    have i1:((i:Int)<40)=True:=AAa;have a2:=kT (n:=40) hi AM;obtain⟨x,hx⟩:=gF (l:=f) (i:=i) AM;have hx':=aIT hx;have hxb:=hb i x hx;have b1:=aOA hxb;have hcx:=aFD x;have b2:IntKind.i64.wrap ((iK x:Nat):Int)=((iK x:Nat):Int):=aI AM AM;have hm:(i+1)*iK x≤40*255:=P9 AM AM;have b3:IntKind.i64.wrap (((i:Int)+1)*((iK x:Nat):Int))=(((i+1)*iK x:Nat):Int):=by
     have:(((i:Int)+1)*((iK x:Nat):Int))=(((i+1)*iK x:Nat):Int):=by rw[Int.natCast_mul];rfl
     rw[this];exact aI AM AM
    have hal:=aUN (row:=row) hf i;have b4:IntKind.i64.wrap (((wN row f i:Nat):Int)+(((i+1)*iK x:Nat):Int))=((wN row f (i+1):Nat):Int):=by
     rw[aYm hx,aI AM AM];omega
    generalize wN row f i=A at *;generalize wN row f (i+1)=A' at *;generalize iK x=cx at *;generalize (i+1)*cx=px at *;(sym=>(simp[fW,fX,lS,Za,Zb,Zf,Zh,Zl,Zm,Zv,ZA,ZE,ZI,Ys,Y7,Y8,Y9,YG,YM,YN,Xw,Xz,XL,Wu,Wx,VI,VN,VO,VQ,VR,UU,UV,UW,UX,UY,Td,Te,Th,Tj,T0,T4,T8,T9,TA,TB,TC,Su,S7,S9,SB,SD,SE,SI,SL,SM,SN,Rp,Qs,i1,a2,hx',b1,b2,b3,b4,lf,cN,cH,cG,cO];all_goals tactic=>exact rfl))
   ·(sym=>(simp[fW,fX,lS,Za,Zb,Zf,Zh,Zl,Zm,ZA,YG,UU,UX,UZ,Ta,T5,S7,S9,SC,SE,SF,SM,SN,Qs,e0];all_goals tactic=>exact rfl))
end
section
open Go Go.DL
theorem lV{q0 q1 q2 q3 q4 q5 q6 q7 q8 q9 q10 q11 q12 q13 q14 q15 q16 q17 q18 q19 q20 q21 q22 q23 q24 q25 p:Prop}(x0:q0)(x1:q1)(x2:q2)(x3:q3)(x4:q4)(x5:q5)(x6:q6)(x7:q7)(x8:q8)(x9:q9)(x10:q10)(x11:q11)(x12:q12)(x13:q13)(x14:q14)(x15:q15)(x16:q16)(x17:q17)(x18:q18)(x19:q19)(x20:q20)(x21:q21)(x22:q22)(x23:q23)(x24:q24)(x25:q25)(h:q0→q1→q2→q3→q4→q5→q6→q7→q8→q9→q10→q11→q12→q13→q14→q15→q16→q17→q18→q19→q20→q21→q22→q23→q24→q25→p:=by intro x0 x1 x2 x3 x4 x5 x6 x7 x8 x9 x10 x11 x12 x13 x14 x15 x16 x17 x18 x19 x20 x21 x22 x23 x24 x25; (sym=>(simp[x0,x1,x2,x3,x4,x5,x6,x7,x8,x9,x10,x11,x12,x13,x14,x15,x16,x17,x18,x19,x20,x21,x22,x23,x24,x25,fW,fX,lS,Za,Zb,Zc,Zd,Ze,Zf,Zg,Zh,Zi,Zj,Zk,Zl,Zm,Zn,Zo,Zp,Zq,Zr,Zs,Zt,Zu,Zv,Zw,Zx,Zy,Zz,Z0,Z8,Z9,ZA,ZB,ZC,ZD,ZE,ZF,ZG,ZH,ZI,ZJ,ZK,ZL,ZM,ZN,ZO,ZP,ZQ,ZR,ZS,ZT,ZU,ZV,ZW,ZX,ZY,ZZ,Ya,Yb,Yc,Ye,Yf,Yg,Yh,Yi,Yj,Yk,Yl,Ym,Yn,Yo,Yp,Yr,Ys,Yt,Yu,Yv,Yw,Yx,Yy,Yz,Y4,Y5,Y6,Y7,Y8,Y9,YB,YC,YD,YE,YF,YG,YH,YJ,YK,YM,YN,YO,YP,YR,YT,YU,YV,YX,YY,YZ,Xa,Xb,Xc,Xd,Xe,Xf,Xg,Xh,Xi,Xj,Xk,Xl,Xm,Xn,Xo,Xp,Xq,Xr,Xs,Xt,Xu,Xv,Xw,Xx,Xy,Xz,XI,XJ,XL,XM,XN,XO,XW,XX,XY,XZ,Wa,Wb,Wc,We,Wf,Wg,Wh,Wi,Wj,Wk,Wl,Wm,Wn,Wo,Wp,Wq,Wr,Wt,Wu,Wv,Ww,Wx,Wy,Wz,W3,W4,W5,W6,W7,W8,W9,WA,WB,WC,WE,WF,WG,WH,WI,WJ,WK,WL,WM,WN,WO,WP,WQ,WR,WS,WT,WU,WV,WW,WX,WY,WZ,Va,Vb,Vc,Vd,Ve,Vf,Vh,Vi,Vj,Vk,Vl,Vm,Vn,Vo,Vp,Vq,Vr,Vs,Vt,Vu,Vv,Vw,Vx,Vy,Vz,V0,V1,V2,V3,V4,V5,V6,V7,V8,V9,VA,VB,VC,VD,VE,VF,VG,VH,VI,VJ,VK,VL,VM,VN,VO,VP,VQ,VR,VS,VT,VU,VV,VW,VX,VY,VZ,Ua,Ub,Uc,Ud,Ue,Uf,Ug,Uh,Ui,Uj,Uk,Ul,Um,Un,Uo,Ur,Us,Ut,Uu,Uv,Uw,Ux,Uy,Uz,U0,U6,U7,U8,U9,UA,UB,UC,UD,UE,UF,UG,UH,UI,UJ,UK,UL,UM,UN,UO,UP,UQ,UR,US,UT,UU,UV,UW,UX,UY,UZ,Ta,Tb,Tc,Td,Te,Tf,Tg,Th,Ti,Tj,Tl,Tm,Tn,Tp,Tq,Tr,Ts,Tt,Tu,Tv,Tw,Tx,Ty,Tz,T0,T1,T2,T3,T4,T5,T6,T7,T8,T9,TA,TB,TC,TD,TE,TF,TG,TH,TI,TJ,TK,TL,TM,TN,TO,TP,TQ,TR,TS,TT,TU,TV,TW,TX,TY,TZ,Sa,Sc,Sd,Se,Sf,Sg,Si,Sj,Sk,Sl,Sm,Sn,Sp,Sq,Sr,Ss,Su,Sv,Sw,Sx,Sy,Sz,S2,S3,S4,S5,S6,S7,S8,S9,SA,SB,SC,SD,SE,SF,SG,SI,SJ,SK,SL,SM,SN,SO,SP,SQ,SS,SU,SV,SW,SX,SY,SZ,Ra,Rb,Rc,Rd,Re,Rf,Rg,Rh,Ri,Rj,Rk,Rl,Rm,Ro,Rp,Rq,Rr,Rs,Rt,Ru,Rw,Rx,Ry,Rz,R0,RC,RF,RG,RH,RI,RJ,RK,RN,RO,RP,RQ,RR,RU,RV,RW,RX,RY,RZ,Qa,Qb,Qd,Qe,Qf,Qg,Qh,Qi,Qj,Qk,Ql,Qm,Qn,Qo,Qp,Qq,Qr,Qs,Qt,Qu,Qw,Qx,Qy,Qz,Q0,QA,QB,QD,QE,QF,QG,QH,QI,QJ,QK,QL,QM,QN,QO,QQ,QR,QS,QT,QU,QV,QW,QX,QY,QZ,Pa,Pb,Pc,Pd,Pe,Pf,Pg,Ph,Pj,Pk,Pl,Pm,Pn,Po,Pp,Pq,Pr,aJM,aFz];all_goals tactic=>exact rfl))):p:=h x0 x1 x2 x3 x4 x5 x6 x7 x8 x9 x10 x11 x12 x13 x14 x15 x16 x17 x18 x19 x20 x21 x22 x23 x24 x25
theorem RT0{p:Prop}(h:p:=by exact lV aE aE aE aE aE aE aE aE aE aE aE aE aE aE aE aE aE aE aE aE aE aE aE aE aE aE):p:=h
theorem RT1{q0 p:Prop}(x0:q0)(h:q0→p:=by intro x0;exact lV @x0 aE aE aE aE aE aE aE aE aE aE aE aE aE aE aE aE aE aE aE aE aE aE aE aE aE):p:=h x0
theorem RT2{q0 q1 p:Prop}(x0:q0)(x1:q1)(h:q0→q1→p:=by intro x0 x1;exact lV @x0 @x1 aE aE aE aE aE aE aE aE aE aE aE aE aE aE aE aE aE aE aE aE aE aE aE aE):p:=h x0 x1
theorem RT3{q0 q1 q2 p:Prop}(x0:q0)(x1:q1)(x2:q2)(h:q0→q1→q2→p:=by intro x0 x1 x2;exact lV @x0 @x1 @x2 aE aE aE aE aE aE aE aE aE aE aE aE aE aE aE aE aE aE aE aE aE aE aE):p:=h x0 x1 x2
theorem RT4{q0 q1 q2 q3 p:Prop}(x0:q0)(x1:q1)(x2:q2)(x3:q3)(h:q0→q1→q2→q3→p:=by intro x0 x1 x2 x3;exact lV @x0 @x1 @x2 @x3 aE aE aE aE aE aE aE aE aE aE aE aE aE aE aE aE aE aE aE aE aE aE):p:=h x0 x1 x2 x3
theorem RT5{q0 q1 q2 q3 q4 p:Prop}(x0:q0)(x1:q1)(x2:q2)(x3:q3)(x4:q4)(h:q0→q1→q2→q3→q4→p:=by intro x0 x1 x2 x3 x4;exact lV @x0 @x1 @x2 @x3 @x4 aE aE aE aE aE aE aE aE aE aE aE aE aE aE aE aE aE aE aE aE aE):p:=h x0 x1 x2 x3 x4
theorem RT7{q0 q1 q2 q3 q4 q5 q6 p:Prop}(x0:q0)(x1:q1)(x2:q2)(x3:q3)(x4:q4)(x5:q5)(x6:q6)(h:q0→q1→q2→q3→q4→q5→q6→p:=by intro x0 x1 x2 x3 x4 x5 x6;exact lV @x0 @x1 @x2 @x3 @x4 @x5 @x6 aE aE aE aE aE aE aE aE aE aE aE aE aE aE aE aE aE aE aE):p:=h x0 x1 x2 x3 x4 x5 x6
theorem RT9{q0 q1 q2 q3 q4 q5 q6 q7 q8 p:Prop}(x0:q0)(x1:q1)(x2:q2)(x3:q3)(x4:q4)(x5:q5)(x6:q6)(x7:q7)(x8:q8)(h:q0→q1→q2→q3→q4→q5→q6→q7→q8→p:=by intro x0 x1 x2 x3 x4 x5 x6 x7 x8;exact lV @x0 @x1 @x2 @x3 @x4 @x5 @x6 @x7 @x8 aE aE aE aE aE aE aE aE aE aE aE aE aE aE aE aE aE):p:=h x0 x1 x2 x3 x4 x5 x6 x7 x8
theorem aUQ{q0 q1 q2 q3 q4 q5 q6 q7 q8 q9 p:Prop}(x0:q0)(x1:q1)(x2:q2)(x3:q3)(x4:q4)(x5:q5)(x6:q6)(x7:q7)(x8:q8)(x9:q9)(h:q0→q1→q2→q3→q4→q5→q6→q7→q8→q9→p:=by intro x0 x1 x2 x3 x4 x5 x6 x7 x8 x9;exact lV @x0 @x1 @x2 @x3 @x4 @x5 @x6 @x7 @x8 @x9 aE aE aE aE aE aE aE aE aE aE aE aE aE aE aE aE):p:=h x0 x1 x2 x3 x4 x5 x6 x7 x8 x9
theorem aAb{q0 q1 q2 q3 q4 q5 q6 q7 q8 q9 q10 q11 q12 p:Prop}(x0:q0)(x1:q1)(x2:q2)(x3:q3)(x4:q4)(x5:q5)(x6:q6)(x7:q7)(x8:q8)(x9:q9)(x10:q10)(x11:q11)(x12:q12)(h:q0→q1→q2→q3→q4→q5→q6→q7→q8→q9→q10→q11→q12→p:=by intro x0 x1 x2 x3 x4 x5 x6 x7 x8 x9 x10 x11 x12;exact lV @x0 @x1 @x2 @x3 @x4 @x5 @x6 @x7 @x8 @x9 @x10 @x11 @x12 aE aE aE aE aE aE aE aE aE aE aE aE aE):p:=h x0 x1 x2 x3 x4 x5 x6 x7 x8 x9 x10 x11 x12
theorem aPb{q0 q1 q2 q3 q4 q5 q6 q7 q8 q9 q10 q11 q12 q13 q14 q15 q16 q17 q18 q19 p:Prop}(x0:q0)(x1:q1)(x2:q2)(x3:q3)(x4:q4)(x5:q5)(x6:q6)(x7:q7)(x8:q8)(x9:q9)(x10:q10)(x11:q11)(x12:q12)(x13:q13)(x14:q14)(x15:q15)(x16:q16)(x17:q17)(x18:q18)(x19:q19)(h:q0→q1→q2→q3→q4→q5→q6→q7→q8→q9→q10→q11→q12→q13→q14→q15→q16→q17→q18→q19→p:=by intro x0 x1 x2 x3 x4 x5 x6 x7 x8 x9 x10 x11 x12 x13 x14 x15 x16 x17 x18 x19;exact lV @x0 @x1 @x2 @x3 @x4 @x5 @x6 @x7 @x8 @x9 @x10 @x11 @x12 @x13 @x14 @x15 @x16 @x17 @x18 @x19 aE aE aE aE aE aE):p:=h x0 x1 x2 x3 x4 x5 x6 x7 x8 x9 x10 x11 x12 x13 x14 x15 x16 x17 x18 x19
end
section
open Go Go.DL
theorem q77{vs:List AV}{h:XH}(hl:vs.length≤12):runW aB 77 vs h=gV none x77.res x77.ownR h.length (execW aB 77 h.length none x77.body (aV (if x77.ownA then vs else lO vs)) h):=dS rfl hl h rfl
theorem q45{vs:List AV}{h:XH}(hl:vs.length≤31):runW aB 45 vs h=gV none x45.res x45.ownR h.length (execW aB 45 h.length none x45.body (aV (if x45.ownA then vs else lO vs)) h):=dS rfl hl h rfl
def Byt(f:List Nat):Prop:=∀(i x:Nat),f[i]?=some x→x<256
theorem yP:∀{f:List Nat},gT (bT f)=some (f.map UInt8.ofNat)
 | []=>rfl
 | x::f=>by
   have ih:=yP (f:=f);show (gT (bT f)).map _=_;rw[ih];rfl

theorem aOF{run:eP}{g:Nat}{vs:List AV}{v:AV}{hl h:XH}(hn:lF vs=[])(hr:∀ s,lR s vs=vs)(hrun:run g vs []=some (v,hl))(hg:gdA v=true):nH run (.fn (.func g) [] []) vs h=some v:=by
 unfold nH;dsimp only;have hp:gR ([]++vs++[]) h=[]:=by
  unfold gR;rw[G7,I5,hn];rfl
 rw[hp,G7,I5,hr];show (match run g vs []with|some (v,hl)=>if gdA v&&aDW [] hl then some v else none|none=>none)=some v;rw[hrun];dsimp only;rw[hg];cases hl<;>rfl
theorem w77{f:List Nat}{row:Nat}(hf:f.length=40)(hb:Byt f)(hrow:row≤1000000):runW aB 77 [tK f,I (row:Int)] []=some (.str (rE (iS row f)),[]):=by
 rw[q77 (by simp)];unfold x77;dsimp only;have lf:=aN f;rw[hf]at lf;have gf:=bL f;have c1:=aZm hf hb hrow;rw[bM]at c1 ⊢;have t1:=gO hf;have t2:=jY hf;have bu:=yP (f:=f);have cq:=aOF (run:=runW aB) (h:=[some (XB.blk true (ABlk.cells true (bT f)))]) (by show iZ (.agg (bT f))++_=[];simp only[iZ,cH];rfl) (fun s=>by show rnA s (.agg (bT f))::_=_;simp only[rnA,cG];rfl) c1 rfl;have hd:(aIx (vH row f)).size=4:=rfl;have s1:=oJ (a:=aIx (vH row f)) (b:=⟨⟨f.map UInt8.ofNat⟩⟩) (by rw[hd,rH,A7];omega);have s2:=oJ (a:=aIx (vH row f)++⟨⟨f.map UInt8.ofNat⟩⟩) (b:=⟨#[10]⟩) (by rw[E8,hd,rH,A7];simp[ByteArray.size];omega);have s3:rE (iS row f)=(aIx (vH row f)++⟨⟨f.map UInt8.ofNat⟩⟩)++⟨#[10]⟩:=by
  unfold aIx rE iS;rw[aOU,aOU];simp
 rw[s3];(exact aAb lf gf t1 t2 cq bu s1 s2 cN cH cG cO aE)

def pv(t x y:Nat):Nat:=32+(iK x+t*iK y)%95
theorem aBU{t x y:Nat}:∀{l m:List Nat},l.length=m.length→eG t (l++[x]) (m++[y])=eG t l m++[pv t x y]
 | [],[],_=>rfl
 | [],_::_,h=>by simp at h
 | _::_,[],h=>by simp at h
 | a::l,b::m,h=>by
   simp only[J9,eG];rw[aBU (by simpa using h)]
theorem mH{t:Nat}:∀{l m:List Nat},l.length=m.length→(eG t l m).length=l.length
 | [],[],_=>rfl
 | [],_::_,h=>by simp at h
 | _::_,[],h=>by simp at h
 | a::l,b::m,h=>by simp only[eG,C8,mH (l:=l) (m:=m) (by simpa using h)]
theorem aWc(t x y:Nat):pv t x y<127:=by
 have:=J4 (iK x+t*iK y) (show 0<95 by decide);unfold pv;omega
theorem tX{t:Nat}:∀{l m:List Nat},Byt (eG t l m)
 | [],m=>by intro i x h;simp[eG]at h
 | a::l,[]=>by intro i x h;simp[eG]at h
 | a::l,b::m=>by
   intro i x h;simp only[eG]at h;cases i with
   | zero=>simp at h;subst h;exact G4 (aWc t a b) (by decide)
   | succ i=>exact tX (l:=l) (m:=m) i x (by simpa using h)
def plS(t:Nat)(f o:List Nat)(i:Nat):List Nat:=eG t (f.take i) (o.take i)++f.drop i
section
variable{t:Nat}{f o:List Nat}
theorem aZt:plS t f o 0=f:=by simp[plS,eG]
theorem aWm(hf:f.length=40)(ho:o.length=40):plS t f o 40=eG t f o:=by
 unfold plS;rw[B5 AM,B5 AM,H9 AM,I5]
theorem aBW(hf:f.length=40)(ho:o.length=40){i:Nat}(hi:i≤40):(eG t (f.take i) (o.take i)).length=i:=by
 rw[mH (by simp[hf,ho])];simp;omega
theorem aHR(hf:f.length=40)(ho:o.length=40){i:Nat}(hi:i≤40):(plS t f o i).length=40:=by
 unfold plS;rw[B6,aBW hf ho hi,aF1];omega
theorem aWl(hf:f.length=40)(ho:o.length=40){i x:Nat}(hi:i<40)(hx:f[i]?=some x):(plS t f o i)[i]?=some x:=by
 unfold plS;rw[B9 (by rw[aBW hf ho AM];exact A8 _),aBW hf ho AM,J8,G8];exact hx
theorem aTD(hf:f.length=40)(ho:o.length=40){i x y:Nat}(hi:i<40)(hx:f[i]?=some x)(hy:o[i]?=some y):bO (bT (plS t f o i)) i [.int .u8 ((pv t x y:Nat):Int)]=bT (plS t f o (i+1)):=by
 rw[aHt (by rw[aHR hf ho AM];exact hi)];congr 1;unfold plS;have h1:f.take (i+1)=f.take i++[x]:=by rw[I7,hx];rfl
 have h2:o.take (i+1)=o.take i++[y]:=by rw[I7,hy];rfl
 have h3:f.drop i=x::f.drop (i+1):=by
  obtain⟨k1,k2⟩:=A2.1 hx;rw[←k2];exact aD3 k1
 rw[h1,h2,aBU (by simp[hf,ho]),h3,O0 _ _ (by rw[aBW hf ho AM];exact A8 _),aBW hf ho AM,J8];simp
end

theorem w45{f o:List Nat}{t:Nat}(hf:f.length=40)(ho:o.length=40)(bf:Byt f)(bo:Byt o)(ht:t≤94):runW aB 45 [tK f,tK o,I (t:Int)] []=some (tK (eG t f o),[]):=by
 rw[q45 (by simp)];unfold x45;dsimp only;have e0:((40:Int)<40)=False:=AAb;have lf:=aN f;rw[hf]at lf;have lo:=aN o;rw[ho]at lo;have gf:=bL f;have go:=bL o;have l0:(bT (nf 0)).length=40:=by rw[aN];exact eD AM
 have g0:=bL (nf 0);rw[bM,bM,bM];sym =>
  simp[fW,fX,lS,Za,Zb,Zf,Zh,Zl,Zo,Zv,Zw,Zz,Wg,Wj,WY,Vb,Vq,V9,UT,Tc,Tf,Tg,Tl,Tm,Tt,TD,TE,TJ,TK,TU,TV,Sz,S9,SD,SE,SM,SN,e0,lf,lo,gf,go,cN,cH,cG,cO]
  tactic =>
   unfold aRS;rw[aS 40 (fun i=>[I (t:Int),.pt 0 0,.pt 1 0,.pt 2 0,I (i:Nat)]) (fun i=>[some (.blk true (.cells true (bT (plS t f o i)))),some (.blk true (.cells true (bT o))),some (.blk true (.cells true (bT (nf 0))))])]
   ·have hp:=aWm (t:=t) hf ho
    have hpl:=aHR (t:=t) hf ho (i:=40) AM;rw[hp]at hpl;have c4:=aN (eG t f o);rw[hpl]at c4;have c5:=gO hpl;have c6:=jY hpl;have c7:=bL (eG t f o);have c8:=jH (a:=nf 0) (b:=eG t f o) (by rw[hpl];exact eD AM);(exact aPb e0 hp lo l0 c4 c5 c6 c7 c8 go g0 cN cH cG cO aE aE aE aE aE)
   ·have h0:=aZt (t:=t) (f:=f) (o:=o)
    (exact RT9 h0 lf lo gf go cN cH cG cO)
   ·intro i hi
    have i1:((i:Int)<40)=True:=AAa;have a2:=kT (n:=40) hi AM;obtain⟨x,hx⟩:=gF (l:=f) (i:=i) AM;obtain⟨y,hy⟩:=gF (l:=o) (i:=i) AM;have hx':=aIT (aWl (t:=t) hf ho hi hx);have hy':=aIT hy;have b1:=aOA (bf i x hx);have b2:=aOA (bo i y hy);have hcx:=aFD x;have hcy:=aFD y;have b3:IntKind.i64.wrap ((iK x:Nat):Int)=((iK x:Nat):Int):=aI AM AM;have b4:IntKind.i64.wrap ((iK y:Nat):Int)=((iK y:Nat):Int):=aI AM AM;have hm:t*iK y≤94*255:=P9 ht AM;have b5:IntKind.i64.wrap ((t:Int)*((iK y:Nat):Int))=((t*iK y:Nat):Int):=by
     have:((t:Int)*((iK y:Nat):Int))=((t*iK y:Nat):Int):=by rw[Int.natCast_mul]
     rw[this];exact aI AM AM
    have b6:IntKind.i64.wrap (((iK x:Nat):Int)+((t*iK y:Nat):Int))=((iK x+t*iK y:Nat):Int):=by
     rw[aI AM AM];omega
    have b7:qL ((iK x+t*iK y:Nat):Int) 95=(((iK x+t*iK y)%95:Nat):Int):=kB _ _;have hr:=J4 (iK x+t*iK y) (show 0<95 by decide);have b8:IntKind.u8.wrap (((iK x+t*iK y)%95:Nat):Int)=(((iK x+t*iK y)%95:Nat):Int):=by
     simp[IntKind.wrap,IntKind.bits,IntKind.signed];omega
    have b9:IntKind.u8.wrap (32+(((iK x+t*iK y)%95:Nat):Int))=((pv t x y:Nat):Int):=by
     unfold pv;simp[IntKind.wrap,IntKind.bits,IntKind.signed];omega
    have ns:=aTD (t:=t) hf ho hi hx hy;have n1:=aN (plS t f o i);rw[aHR hf ho AM]at n1;have n3:=aWN hi;generalize pv t x y=P at *;generalize (iK x+t*iK y)%95=R at *;generalize iK x+t*iK y=S at *;generalize t*iK y=T at *;generalize iK x=cx at *;generalize iK y=cy at *;(exact lV i1 a2 hx' hy' b1 b2 b3 b4 b5 b6 b7 b8 b9 ns n1 n3 lo l0 go g0 cN cH cG cO aE aE)
   ·(exact RT1 e0)
theorem q46{vs:List AV}{h:XH}(hl:vs.length≤6):runW aB 46 vs h=gV none x46.res x46.ownR h.length (execW aB 46 h.length none x46.body (aV (if x46.ownA then vs else lO vs)) h):=dS rfl hl h rfl
theorem q36{vs:List AV}{h:XH}(hl:vs.length≤5):runW aB 36 vs h=gV none x36.res x36.ownR h.length (execW aB 36 h.length none x36.body (aV (if x36.ownA then vs else lO vs)) h):=dS rfl hl h rfl
theorem q42{vs:List AV}{h:XH}(hl:vs.length≤23):runW aB 42 vs h=gV none x42.res x42.ownR h.length (execW aB 42 h.length none x42.body (aV (if x42.ownA then vs else lO vs)) h):=dS rfl hl h rfl
theorem p74{xs:List AV}{h:XH}:runW aB 74 xs h=aJq xs h:=eL rfl rfl xs h
theorem p80{xs:List AV}{h:XH}:runW aB 80 xs h=aBR xs h:=eL rfl rfl xs h
def lnB(f:List Nat):ByteArray:=⟨⟨Lib.trimRightB (f.map UInt8.ofNat) 32⟩⟩
theorem w46{f:List Nat}(hf:f.length=40):runW aB 46 [tK f] []=some (.str (lnB f),[]):=by
 rw[q46 (by simp)];unfold x46;dsimp only;have lf:=aN f;rw[hf]at lf;have gf:=bL f;have bu:=yP (f:=f);have t1:=gO hf;have t2:=jY hf;have c1:runW aB 80 [.str ⟨⟨f.map UInt8.ofNat⟩⟩,.str ⟨⟨[32]⟩⟩] []=some (.str (lnB f),[]):=by
  rw[p80];unfold aBR;dsimp only;rw[if_pos ⟨by decide,by rw[rH,A7];omega⟩];rfl
 rw[bM];(exact nN lf gf t1 t2 bu c1 cN cH cG cO)
theorem w36(s:ByteArray):runW aB 36 [.str s] []=some (.bool (pL s.data.toList),[]):=by
 rw[q36 (by simp)];unfold x36;dsimp only;have c1:runW aB 74 [.str s,.fn (.func 75) [] []] []=some (.bool (pL s.data.toList),[]):=by rw[p74];rfl
 (exact dM c1)

def txB(s:ByteArray):ByteArray:=mC s 4 44
def rdF(s:ByteArray):List Nat:=dH (bN (txB s))
def aDZ(s:ByteArray)(n:Nat):Bool := !pL (txB s).data.toList&&((rE (iS n (rdF s))).toList==s.toList)
theorem wM(s:ByteArray):Byt (bN s):=by
 intro i x h;unfold bN at h;rw[A6,A0]at h;obtain⟨b,_,rfl⟩:=h;exact b.toNat_lt
theorem oW{l:List Nat}(h:Byt l):Byt (dH l):=by
 intro i x hx;unfold dH at hx;rw[D9]at hx;split at hx
 ·rw[G9]at hx
  split at hx;·exact h i x hx
  ·cases hx
 ·rw[M6]at hx
  split at hx;·simp only[oSI]at hx;omega
  ·cases hx
theorem aGa(a b:ByteArray):aQ BinOp.eql a b=some (.bool (a.toList==b.toList)):=rfl
theorem w42{s:ByteArray}{n:Nat}(hs:s.size=45)(hn:n≤1000000):runW aB 42 [.str s,I (n:Int)] []=some (.tup [tK (rdF s),.bool (aDZ s n)],[]):=by
 rw[q42 (by simp)];unfold x42;dsimp only;have hs':((45:Int)=45)=True:=AAp rfl;have l1:=iI (bN (txB s));have b1:=oW (wM (txB s));have c1:=w44 (txB s);have c2:=w36 (txB s);have c3:=w77 (row:=n) l1 b1 hn;have hx:mC s 4 44=txB s:=rfl;have n44:Int.toNat 44=44:=rfl;have n4:Int.toNat 4=4:=rfl;have n45:((4:Int)≤((44:Nat):Int))=True:=AAa;rw[bM]at c1 c3 ⊢;have lf:=aN (dH (bN (txB s)));rw[l1]at lf;have t1:=gO l1;have t2:=jY l1;have gf:=bL (dH (bN (txB s)));have l0:(bT (nf 0)).length=40:=by rw[aN];exact eD AM
 have g0:=bL (nf 0);have a1:=jH (a:=nf 0) (b:=dH (bN (txB s))) (by rw[l1];exact eD AM);have e1:=aGa (rE (iS n (dH (bN (txB s))))) s;unfold aDZ rdF;cases hu:pL (txB s).data.toList with
 | true =>
   rw[hu]at c2;(exact kO hs hx n44 n4 n45 c1 c2 lf t1 t2 gf l0 g0 a1 cN cH cG cO aE aE)
 | false =>
   rw[hu]at c2;(exact kO hs hx n44 n4 n45 c1 c2 c3 e1 lf t1 t2 gf l0 g0 a1 cN cH cG cO)
theorem q43{vs:List AV}{h:XH}(hl:vs.length≤18):runW aB 43 vs h=gV none x43.res x43.ownR h.length (execW aB 43 h.length none x43.body (aV (if x43.ownA then vs else lO vs)) h):=dS rfl hl h rfl
def eN(C:List Nat)(k:Nat):List Nat:=(C.drop (k*40)).take 40
def eK(C:List Nat):Nat→List Nat
 | 0=>dH []
 | k+1=>eG 1 (eK C k) (eN C k)
theorem qB{C:List Nat}{n k:Nat}(h:n*40≤C.length)(hk:k<n):(eN C k).length=40:=by
 have h1:(k+1)*40≤n*40:=C4 _ hk;have h2:(k+1)*40=k*40+40:=AM
 simp[eN];omega
theorem aAS{C:List Nat}(h:Byt C)(k:Nat):Byt (eN C k):=by
 intro i x hx;unfold eN at hx;rw[G9]at hx;split at hx;·rw[G8]at hx;exact h _ _ hx
 ·cases hx
theorem fD{C:List Nat}{n:Nat}(h:n*40≤C.length):∀ k,k≤n→(eK C k).length=40
 | 0,_=>iI []
 | k+1,hk=>by
   have h1:=fD h k AM;rw[eK,mH (by rw[h1,qB h AM])];exact h1
theorem tR{C:List Nat}:∀ k,Byt (eK C k)
 | 0=>oW (fun i x h=>by simp at h)
 | k+1=>tX
theorem aEf{C:List Nat}{k:Nat}:((bT C).drop (k*40)).take 40=bT (eN C k):=by
 simp[bT,eN,aF2,aJ5]

def aLt:XCode:=(.loop [2,3,7,8,9] (.seq (.reg [] false [⟨0,(some 10),(.bin .lss (.t 9) (.t 8)),none⟩]) (.seq (.cond (.t 10) .skip (.exit 0)) (.seq (.block 1 (.seq (.reg [] false [⟨0,(some 11),(.idx 40 (.t 7) (.t 9)),none⟩,⟨0,(some 12),(.load true 40 (.t 11)),none⟩,⟨0,(some 5),(.alloc (bT (nf 0))),none⟩,⟨0,none,(.store 40 (.t 5) (.t 12) []),none⟩]) (.reg [] false [⟨0,(some 13),(.load true 40 (.t 3)),none⟩,⟨0,(some 14),(.load true 40 (.t 5)),none⟩,⟨0,(some 15),(.callf false (.c (.fn (.func 45) [] [])) [(.t 13),(.t 14),(.c (.int .i64 1))] []),none⟩,⟨0,none,(.store 40 (.t 3) (.t 15) []),none⟩]))) (.reg [] false [⟨0,(some 16),(.bin .add (.t 9) (.c (.int .i64 1))),none⟩,⟨0,(some 9),(.mv (.t 16)),none⟩])))))
theorem aLu:aRU=aLt:=rfl
theorem w43{C:List Nat}{n:Nat}(hC:n*40≤C.length)(hb:Byt C)(hn:n≤1000):runW aB 43 [.sl 0 0 40 n] [some (.blk true (.cells true (bT C)))]=some (tK (eK C n),[some (.blk true (.cells true (bT C)))]):=by
 rw[q43 (by simp)];unfold x43;dsimp only;have c1:=w44 ⟨⟨[]⟩⟩;have hnf:dH (bN ⟨⟨[]⟩⟩)=dH []:=rfl;rw[hnf]at c1;rw[bM]at c1 ⊢;have l0:(bT (nf 0)).length=40:=by rw[aN];exact eD AM
 have g0:=bL (nf 0);have l1:=iI [];have lf:=aN (dH []);rw[l1]at lf;have gf:=bL (dH []);have a1:=jH (a:=nf 0) (b:=dH []) (by rw[l1];exact eD AM);have t1:=gO l1;have t2:=jY l1;have gC:=bL C;sym =>
  simp[Za,Zb,Zc,Zf,Zh,Zl,Zm,Zv,Zw,ZR,ZZ,Ya,Ye,Yh,Ym,Yn,Yw,XJ,Wg,Ww,Wx,Ve,Vq,V1,V4,V5,V7,V8,V9,VI,VM,VO,VT,VU,Ug,Uh,Ui,UT,Tc,Td,Te,Tf,Tg,Th,Tl,Tm,Tt,T0,T8,T9,TA,TB,TC,TD,TE,TJ,TK,TL,Sv,Sw,S9,SD,SE,SM,SN,QX,QY,QZ,Pa,c1,l0,g0,lf,gf,a1,t1,t2,gC,cN,cH,cG,cO]
  tactic =>
   rw[aLu];unfold aLt;rw[aS n (fun i=>[.pt 1 0,.pt 2 0,.sl 0 0 40 n,I (n:Nat),I (i:Nat)]) (fun i=>[some (.blk true (.cells true (bT C))),some (.blk true (.cells true (bT (nf 0)))),some (.blk true (.cells true (bT (eK C i))))])]
   ·have e0:((n:Int)<(n:Int))=False:=AAb
    have l3:=fD hC n (A8 _);have c4:=aN (eK C n);rw[l3]at c4;have c5:=gO l3;have c6:=jY l3;have c7:=bL (eK C n);have c8:=jH (a:=nf 0) (b:=eK C n) (by rw[l3];exact eD AM);(exact nJ e0 l0 g0 c4 c5 c6 c7 c8 gC cN cH cG cO)
   ·have s0:eK C 0=dH []:=rfl
    (exact nN s0 l0 g0 lf gf gC cN cH cG cO)
   ·intro i hi
    have i1:((i:Int)<(n:Int))=True:=AAa;have a2:=kT hi AM;have lC:=aN C;have i3:(i*40+40≤(bT C).length)=True:=AAp (by
     rw[lC];have h1:(i+1)*40≤n*40:=C4 _ hi;omega)
    have fu:=aEf (C:=C) (k:=i);have l3:=fD hC i AM;have l4:=fD hC (i+1) AM;have l5:=qB hC hi;have w:=w45 (t:=1) l3 l5 (tR i) (aAS hb i) AM;have ws:eG 1 (eK C i) (eN C i)=eK C (i+1):=rfl;rw[ws]at w;rw[bM,bM,bM]at w;have m3:=aN (eK C i);rw[l3]at m3;have m4:=aN (eK C (i+1));rw[l4]at m4;have m5:=aN (eN C i);rw[l5]at m5;have c8:=jH (a:=nf 0) (b:=eN C i) (by rw[l5];exact eD AM);have c9:=jH (a:=eK C i) (b:=eK C (i+1)) (by rw[l3,l4]);have k3:=gO l3;have k4:=jY l3;have k5:=gO l5;have k6:=jY l5;have g3:=bL (eK C i);have g4:=bL (eK C (i+1));have g5:=bL (eN C i);have w':runW aB 45 [.agg (bT (eK C i)),.agg (bT (eN C i)),I 1] []=some (.agg (bT (eK C (i+1))),[]):=w;generalize eK C (i+1)=S' at *;generalize eK C i=S at *;generalize eN C i=f at *;(exact tP i1 a2 i3 fu w' m3 m4 m5 c8 c9 k3 k4 k5 k6 g3 g4 g5 gC l0 g0 cN cH cG cO aE aE)
   ·have e0:((n:Int)<(n:Int))=False:=AAb
    (exact dM e0)
theorem aEn{cs:List AV}{s:Nat}:∀{n o i:Nat},i<n→(bU cs o s n)[i]?=some ((cs.drop (o+i*s)).take s)
 | 0,_,_,h=>absurd h AM
 | n+1,o,0,_=>by rw[bU,D0,aI1,J1]
 | n+1,o,i+1,h=>by
   rw[bU,E6,aEn AM,aA6 i 1,aI8,aB0,aD0 s]
theorem aYe{C:List Nat}{n:Nat}(hC:n*40≤C.length):(bU (bT C) 0 40 n).length=n∧∀ i,i<n→(bU (bT C) 0 40 n)[i]?=some (bT (eN C i)):=by
 obtain⟨h1,_,_⟩:=wG (cs:=bT C) (s:=40) (n:=n) (o:=0) (by rw[aN];omega);refine⟨h1,fun i hi=>?_⟩;rw[aEn hi,I6,aEf]
theorem aYD{C:List Nat}{n:Nat}(hC:n*40≤C.length)(hb:Byt C)(hn:n≤1000):runW aB 43 [.fs (bU (bT C) 0 40 n)] []=some (tK (eK C n),[]):=by
 rw[q43 (by simp)];unfold x43;dsimp only;have c1:=w44 ⟨⟨[]⟩⟩;have hnf:dH (bN ⟨⟨[]⟩⟩)=dH []:=rfl;rw[hnf]at c1;rw[bM]at c1 ⊢;have l0:(bT (nf 0)).length=40:=by rw[aN];exact eD AM
 have g0:=bL (nf 0);have l1:=iI [];have lf:=aN (dH []);rw[l1]at lf;have gf:=bL (dH []);have a1:=jH (a:=nf 0) (b:=dH []) (by rw[l1];exact eD AM);have t1:=gO l1;have t2:=jY l1;obtain⟨rl,ra⟩:=aYe hC;generalize bU (bT C) 0 40 n=R at *;sym =>
  simp[Za,Zb,Zc,Zf,Zh,Zl,Zm,Zv,Zw,ZR,ZZ,Ya,Ye,Yh,Ym,Yn,Yv,XJ,Wg,Ww,Wx,Vd,Vq,V1,V4,V5,V7,V8,V9,VI,VM,VO,VT,VU,Ug,Uh,Ui,UT,Tc,Td,Te,Tf,Tg,Th,Tl,Tm,Tt,T0,T8,T9,TA,TB,TC,TD,TE,TJ,TK,TL,Sv,Sw,S9,SD,SE,SM,SN,QX,QY,QZ,Pa,rl,c1,l0,g0,lf,gf,a1,t1,t2,cN,cH,cG,cO]
  tactic =>
   rw[aLu];unfold aLt;rw[aS n (fun i=>[.pt 0 0,.pt 1 0,.fs R,I (n:Nat),I (i:Nat)]) (fun i=>[some (.blk true (.cells true (bT (nf 0)))),some (.blk true (.cells true (bT (eK C i))))])]
   ·have e0:((n:Int)<(n:Int))=False:=AAb
    have l3:=fD hC n (A8 _);have c4:=aN (eK C n);rw[l3]at c4;have c5:=gO l3;have c6:=jY l3;have c7:=bL (eK C n);have c8:=jH (a:=nf 0) (b:=eK C n) (by rw[l3];exact eD AM);(exact nJ e0 l0 g0 c4 c5 c6 c7 c8 cN cH cG cO aE)
   ·have s0:eK C 0=dH []:=rfl
    (exact uO s0 l0 g0 lf gf cN cH cG cO)
   ·intro i hi
    have i1:((i:Int)<(n:Int))=True:=AAa;have a2:=kT hi AM;have i3:(i<R.length)=True:=AAa;have fu:=ra i hi;have l3:=fD hC i AM;have l4:=fD hC (i+1) AM;have l5:=qB hC hi;have w:=w45 (t:=1) l3 l5 (tR i) (aAS hb i) AM;have ws:eG 1 (eK C i) (eN C i)=eK C (i+1):=rfl;rw[ws]at w;rw[bM,bM,bM]at w;have m3:=aN (eK C i);rw[l3]at m3;have m4:=aN (eK C (i+1));rw[l4]at m4;have m5:=aN (eN C i);rw[l5]at m5;have c8:=jH (a:=nf 0) (b:=eN C i) (by rw[l5];exact eD AM);have c9:=jH (a:=eK C i) (b:=eK C (i+1)) (by rw[l3,l4]);have k3:=gO l3;have k4:=jY l3;have k5:=gO l5;have k6:=jY l5;have g3:=bL (eK C i);have g4:=bL (eK C (i+1));have g5:=bL (eN C i);have w':runW aB 45 [.agg (bT (eK C i)),.agg (bT (eN C i)),I 1] []=some (.agg (bT (eK C (i+1))),[]):=w;generalize eK C (i+1)=S' at *;generalize eK C i=S at *;generalize eN C i=f at *;(exact tP i1 a2 i3 fu rl w' m3 m4 m5 c8 c9 k3 k4 k5 k6 g3 g4 g5 l0 g0 cN cH cG cO aE aE)
   ·have e0:((n:Int)<(n:Int))=False:=AAb
    (exact dM e0)
theorem q69{vs:List AV}{h:XH}(hl:vs.length≤19):runW aB 69 vs h=gV none x69.res x69.ownR h.length (execW aB 69 h.length none x69.body (aV (if x69.ownA then vs else lO vs)) h):=dS rfl hl h rfl
theorem aWp{xs:List AV}{h:XH}:runW aB 115 xs h=aFf xs h:=eL rfl rfl xs h
theorem p71{xs:List AV}{h:XH}:runW aB 71 xs h=aGt xs h:=eL rfl rfl xs h
def dU(s:ByteArray):List AV:=s.data.toList.map fun b=>.int .u8 (b.toNat:Int)
theorem aMh(s:ByteArray):s.data.toList.map (fun b=>AV.int .u8 (b.toNat:Int))=dU s:=rfl
theorem aBf(s:ByteArray):(dU s).length=s.size:=by
 unfold dU;rw[A7,D4];rfl
theorem aMi(a b:ByteArray):dU a++dU b=dU (a++b):=by
 unfold dU;rw[←F6,M3,aD5]
theorem fC(s:ByteArray):lJ (dU s)=true:=eW fun v hv=>by
 obtain⟨n,_,rfl⟩:=D6.1 hv;rfl
theorem aNE{α:Type}{g:α→AV}(hg:∀ a,iZ (g a)=[])(l:List α):lF (l.map g)=[]:=by
 induction l with
 | nil=>rfl
 | cons a l ih=>show iZ _++lF (l.map g)=[];rw[ih,hg];rfl
theorem aNC{α:Type}{g:α→AV}(hg:∀ a,slN (g a)=[])(l:List α):slL (l.map g)=[]:=by
 induction l with
 | nil=>rfl
 | cons a l ih=>show slN _++slL (l.map g)=[];rw[ih,hg];rfl
theorem aND{α:Type}{g:α→AV}{s:Nat→Option Nat}(hg:∀ a,rnA s (g a)=g a)(l:List α):lR s (l.map g)=l.map g:=by
 induction l with
 | nil=>rfl
 | cons a l ih=>show rnA s _::lR s (l.map g)=_;rw[ih,hg];rfl
theorem dO(s:ByteArray):lF (dU s)=[]:=aNE (fun _=>rfl) _
theorem eA(s:ByteArray):slL (dU s)=[]:=aNC (fun _=>rfl) _
theorem eC(f:Nat→Option Nat)(s:ByteArray):lR f (dU s)=dU s:=aND (fun _=>rfl) _
theorem aJZ:∀ l:List UInt8,aAv (l.map fun b=>AV.int .u8 (b.toNat:Int))=some l
 | []=>rfl
 | b::l=>by
   have ih:=aJZ l;have hb:=b.toNat_lt;show (if 0≤(b.toNat:Int)∧(b.toNat:Int)<256 then (aAv (l.map fun b=>AV.int .u8 (b.toNat:Int))).map (UInt8.ofNat (b.toNat:Int).toNat :: ·) else none)=_;rw[if_pos AM,ih];simp

theorem aGb(H:Hp)(s:ByteArray):fJ 1 H (.str s)=some (s.size,dU s):=rfl
theorem aGR(h:XH)(s:ByteArray):jU h (.str s)=true:=rfl
theorem aSR{s:ByteArray}(h0:0<s.size)(h1:s.size≤100000):runW aB 69 [.bp 0,.str s] [some (.blk true (.cells true [.nilpt,.nilsl]))] =
 some (.tup [I (s.size:Nat),.nilifc],[some (.blk false (.cells true [.pt 0 0,.sb 1 s.size])),some (.blk true (.cells true (dU s)))]):=by
 rw[q69 (by simp)];unfold x69;dsimp only;have c1:runW aB 115 [.bp 0] [some (.blk true (.cells true [.nilpt,.nilsl]))]=some (.tup [],[some (.blk false (.cells true [.pt 0 0,.nilsl]))]):=by rw[aWp];rfl
 have z1:(s.size=0)=False:=AAb;have z2:(s.size*1048577≤1099511627776)=True:=AAa;have z3:(s.size≤1099511627776)=True:=AAa;have g1:=fC s;(exact nN c1 z1 z2 z3 aGb aGR dO eA eC g1)

theorem aSQ{s a:ByteArray}(h0:0<s.size)(h1:s.size≤100000)(h2:a.size≤100000):runW aB 69 [.bp 0,.str s] [some (.blk false (.cells true [.pt 0 0,.sb 1 a.size])),some (.blk true (.cells true (dU a)))] =
 some (.tup [I (s.size:Nat),.nilifc],[some (.blk false (.cells true [.pt 0 0,.sb 2 (a.size+s.size)])),none,some (.blk true (.cells true (dU (a++s))))]):=by
 rw[q69 (by simp)];unfold x69;dsimp only;have c1:runW aB 115 [.bp 0] [some (.blk false (.cells true [.pt 0 0,.sb 1 a.size])),some (.blk true (.cells true (dU a)))]=some (.tup [],[some (.blk false (.cells true [.pt 0 0,.sb 1 a.size])),some (.blk true (.cells true (dU a)))]):=by rw[aWp];rfl
 have l1:=aBf a;have z3:(a.size+s.size≤1099511627776)=True:=AAa;have z4:(a.size+s.size≤1099511627776∧True)=True:=AAp ⟨by omega,trivial⟩;have g1:=fC s;have g2:=fC a;have g3:=fC (a++s);have e1:=aMi a s;(exact nJ c1 l1 z3 aGb aGR dO eA eC g1 g2 g3 e1 aE)
theorem w71{a:ByteArray}(h0:0<a.size)(h1:a.size≤1000000):runW aB 71 [.bp 0] [some (.blk false (.cells true [.pt 0 0,.sb 1 a.size])),some (.blk true (.cells true (dU a)))]=some (.str a,[some (.blk false (.cells true [.pt 0 0,.sb 1 a.size])),none]):=by
 rw[p71];have hl:=aBf a;have hb:=aJZ a.data.toList;have hsz:a.size=a.data.toList.length:=by rw[D4];rfl
 unfold aGt;simp only[hat,aD6,aF7];rw[B5 (by rw[hl];exact A8 _)];unfold dU;rw[hb];cases hd:a.data.toList with
 | nil=>rw[hsz,hd]at h0;simp at h0
 | cons x l =>
   dsimp only;have hc:a.size≤(List.map (fun b:UInt8=>AV.int IntKind.u8 (b.toNat:Int)) (x::l)).length∧(1:Nat)≠0∧a.size≤1000000:=⟨by rw[A7,←hd,←hsz];exact A8 _,by decide,h1⟩;rw[if_pos hc];have ha:(⟨⟨x::l⟩⟩:ByteArray)=a:=by
    rw[←hd]
   rw[ha];rfl
def aRN:XCode:=(.loop [1,5,6,9,10,11] (.seq (.reg [] false [⟨0,(some 12),(.bin .lss (.t 11) (.t 10)),none⟩]) (.seq (.cond (.t 12) .skip (.exit 0)) (.seq (.block 1 (.seq (.reg [] false [⟨0,(some 13),(.mv (.t 11)),none⟩,⟨0,(some 14),(.idx 1 (.t 9) (.t 11)),none⟩,⟨0,(some 15),(.load false 1 (.t 14)),none⟩,⟨0,(some 7),(.mv (.t 13)),none⟩,⟨0,(some 8),(.mv (.t 15)),none⟩]) (.seq (.reg [(8,false)] false [⟨0,(some 16),(.mv (.t 6)),none⟩,⟨0,(some 17),(.mv (.t 8)),none⟩,⟨0,(some 18),(.callf false (.c (.fn (.func 44) [] [])) [(.t 17)] []),none⟩,⟨0,(some 19),(.bslice 40 1 (bT (nf 0)) [(0,(40,(.t 18)))]),none⟩,⟨0,(some 20),(.app 40 40 (.t 16) (.t 19)),none⟩,⟨0,(some 6),(.mv (.t 20)),none⟩]) (.reg [(5,false)] false [⟨0,(some 21),(.mv (.t 6)),none⟩,⟨0,(some 22),(.mv (.t 7)),none⟩,⟨0,(some 23),(.idx 40 (.t 21) (.t 22)),none⟩,⟨0,(some 24),(.load true 40 (.t 23)),none⟩,⟨0,(some 25),(.mv (.t 1)),none⟩,⟨0,(some 26),(.mv (.t 7)),none⟩,⟨0,(some 27),(.bin .add (.t 25) (.t 26)),none⟩,⟨0,(some 28),(.callf false (.c (.fn (.func 77) [] [])) [(.t 24),(.t 27)] []),none⟩,⟨0,(some 29),(.callf false (.c (.fn (.func 69) [] [])) [(.t 5),(.t 28)] []),none⟩])))) (.reg [] false [⟨0,(some 30),(.bin .add (.t 11) (.c (.int .i64 1))),none⟩,⟨0,(some 11),(.mv (.t 30)),none⟩])))))
theorem aSG:aRV=aRN:=rfl
def vW(s:ByteArray):List Nat:=dH (bN s)
theorem uC(s:ByteArray):(vW s).length=40:=iI _
theorem aFq(s:ByteArray):Byt (vW s):=oW (wM s)
def Cn(ls:List ByteArray)(i:Nat):List Nat:=((ls.take i).map vW).flatten
def rwB(row:Nat)(f:List Nat):ByteArray:=rE (iS row f)
def Bn(ls:List ByteArray)(row:Nat):Nat→ByteArray
 | 0=>⟨⟨[]⟩⟩
 | i+1=>Bn ls row i++rwB (row+i) (vW (ls.getD i ⟨⟨[]⟩⟩))
theorem aMK{row:Nat}{f:List Nat}(h:f.length=40):(iS row f).length=45:=by simp[iS,jW,h]
theorem xH{row:Nat}{f:List Nat}(h:f.length=40):(rwB row f).size=45:=by
 unfold rwB rE;rw[rH,A7,aMK h]
theorem aAW(ls:List ByteArray)(row:Nat):∀ i,(Bn ls row i).size=i*45
 | 0=>rfl
 | i+1=>by rw[Bn,E8,aAW ls row i,xH (uC _)];omega
theorem aRq(a:ByteArray):(⟨⟨[]⟩⟩:ByteArray)++a=a:=by
 cases a with
 | mk d=>cases d with
   | mk l=>rw[aOU];rfl
theorem nL{ls:List ByteArray}:∀{i:Nat},i≤ls.length→(Cn ls i).length=i*40
 | 0,_=>by simp[Cn]
 | i+1,h=>by
   have ih:=nL (ls:=ls) (i:=i) AM;unfold Cn at *;rw[I7];obtain⟨x,hx⟩:=gF (l:=ls) (i:=i) AM;rw[hx];simp only[Option.toList_some,F6,D7,aE7,aF8,I3,aC7,I5,B6,ih,uC];omega
theorem aRL{ls:List ByteArray}{i:Nat}{s:ByteArray}(h:ls[i]?=some s):Cn ls (i+1)=Cn ls i++vW s:=by
 unfold Cn;rw[I7,h];simp
theorem aUS(ls:List ByteArray)(i:Nat):Byt (Cn ls i):=by
 intro k x h;have hm:=A5 h;unfold Cn at hm;obtain⟨l,h1,h2⟩:=aH5.1 hm;obtain⟨s,_,rfl⟩:=D6.1 h1;obtain⟨j,hj⟩:=I0 h2;exact aFq s j x hj
theorem aYr{ls:List ByteArray}{i:Nat}{s:ByteArray}(h:ls[i]?=some s):((bT (Cn ls (i+1))).drop (i*40)).take 40=bT (vW s):=by
 have hi:i<ls.length:=(A2.1 h).1;have hl:=nL (ls:=ls) (i:=i) AM;rw[aRL h];unfold bT;rw[F6,I9 (by rw[A7,hl];exact A8 _),H9 (by rw[A7,hl];exact A8 _),G7];exact B5 (by rw[A7,uC];exact A8 _)
theorem aLY(a b:List Nat):bT a++bT b=bT (a++b):=by simp[bT]
theorem aUT{ls:List ByteArray}{row i:Nat}{s:ByteArray}(h:ls[i]?=some s):Bn ls row (i+1)=Bn ls row i++rwB (row+i) (vW s):=by
 rw[Bn,A1,h];rfl
def rS(ls:List ByteArray):List (List AV):=ls.map fun s=>[.str s]
theorem sD(ls:List ByteArray):(rS ls).length=ls.length:=by simp[rS]
theorem aAl{ls:List ByteArray}{i:Nat}{s:ByteArray}(h:ls[i]?=some s):(rS ls)[i]?=some [.str s]:=by simp[rS,h]

theorem q35{vs:List AV}{h:XH}(hl:vs.length≤15):runW aB 35 vs h=gV none x35.res x35.ownR h.length (execW aB 35 h.length none x35.body (aV (if x35.ownA then vs else lO vs)) h):=dS rfl hl h rfl
theorem w35(lo n hi:Int):runW aB 35 [I lo,I n,I hi] []=some (.bool (decide (lo≤n)&&decide (n≤hi)),[]):=by
 rw[q35 (by simp)];unfold x35;dsimp only;rcases ptf (lo≤n)with h1|h1
 ·have d1:decide (lo≤n)=true:=by simp[h1]
  (exact RS2 h1 d1)
 ·have d1:decide (lo≤n)=false:=by simp[h1]
  (exact RS2 h1 d1)
def zO(s:ByteArray):Int:=if 40<s.size then 14 else if s.size=0||(pL s.data.toList||Lib.hasSuffix s.data.toList [32]) then 13 else 0
def emB:ByteArray:=⟨#[]⟩
def pgB(ls:List ByteArray)(row:Nat):ByteArray:=Bn ls row ls.length++rwB (row+ls.length) (eK (Cn ls ls.length) ls.length)
theorem aIV(s:ByteArray):s.toList=s.data.toList:=ByteArray.toList_eq s
theorem q16{vs:List AV}{h:XH}(hl:vs.length≤121):runW aB 16 vs h=gV none x16.res x16.ownR h.length (execW aB 16 h.length none x16.body (aV (if x16.ownA then vs else lO vs)) h):=dS rfl hl h rfl
def aRP:XCode:=(.loop [0,1,4,5,7,8,9,35,36] (.seq (.reg [] false [⟨0,(some 37),(.bin .lss (.t 36) (.t 35)),none⟩]) (.seq (.cond (.t 37) .skip (.exit 1)) (.seq (.block 2 (.seq (.reg [] false [⟨0,(some 38),(.mv (.t 36)),none⟩,⟨0,(some 10),(.mv (.t 38)),none⟩]) (.seq (.reg [] false [⟨0,(some 40),(.mv (.t 0)),none⟩,⟨0,(some 41),(.mv (.t 10)),none⟩,⟨0,(some 42),(.bin .mul (.t 41) (.c (.int .i64 45))),none⟩,⟨0,(some 43),(.mv (.t 10)),none⟩,⟨0,(some 44),(.bin .add (.t 43) (.c (.int .i64 1))),none⟩,⟨0,(some 45),(.bin .mul (.t 44) (.c (.int .i64 45))),none⟩,⟨0,(some 46),(.slstr (.t 40) (some (.t 42)) (some (.t 45))),none⟩,⟨0,(some 47),(.mv (.t 1)),none⟩,⟨0,(some 48),(.mv (.t 10)),none⟩,⟨0,(some 49),(.bin .add (.t 47) (.t 48)),none⟩,⟨0,(some 50),(.callf false (.c (.fn (.func 42) [] [])) [(.t 46),(.t 49)] []),none⟩,⟨0,(some 39),(.mv (.t 50)),none⟩,⟨0,(some 51),(.ext (.t 39) 0),none⟩,⟨0,(some 52),(.ext (.t 39) 1),none⟩,⟨0,(some 11),(.alloc (bT (nf 0))),none⟩,⟨0,none,(.store 40 (.t 11) (.t 51) []),none⟩,⟨0,(some 12),(.mv (.t 52)),none⟩]) (.seq (.seq (.reg [] false [⟨0,(some 53),(.mv (.t 12)),none⟩,⟨0,(some 54),(.not (.t 53)),none⟩]) (.cond (.t 54) (.seq (.reg [] false [⟨0,(some 55),(.mv (.t 10)),none⟩,⟨0,(some 9),(.mv (.t 55)),none⟩]) (.reg [] false [⟨0,(some 56),(.mv (.t 5)),none⟩,⟨0,(some 57),(.bin .add (.t 56) (.c (.int .i64 1))),none⟩,⟨0,(some 5),(.mv (.t 57)),none⟩])) .skip)) (.reg [] false [⟨0,(some 58),(.mv (.t 8)),none⟩,⟨0,(some 59),(.load true 40 (.t 11)),none⟩,⟨0,(some 60),(.bslice 40 1 (bT (nf 0)) [(0,(40,(.t 59)))]),none⟩,⟨0,(some 61),(.app 40 40 (.t 58) (.t 60)),none⟩,⟨0,(some 8),(.mv (.t 61)),none⟩]))))) (.reg [] false [⟨0,(some 62),(.bin .add (.t 36) (.c (.int .i64 1))),none⟩,⟨0,(some 36),(.mv (.t 62)),none⟩])))))
def aRO:XCode:=(.loop [4,5,105,106,107] (.seq (.reg [] false [⟨0,(some 108),(.bin .lss (.t 107) (.t 106)),none⟩]) (.seq (.cond (.t 108) .skip (.exit 4)) (.seq (.block 5 (.seq (.reg [] false [⟨0,(some 109),(.idx 40 (.t 105) (.t 107)),none⟩,⟨0,(some 110),(.load true 40 (.t 109)),none⟩,⟨0,(some 15),(.alloc (bT (nf 0))),none⟩,⟨0,none,(.store 40 (.t 15) (.t 110) []),none⟩]) (.reg [] false [⟨0,(some 111),(.mv (.t 4)),none⟩,⟨0,(some 112),(.load true 40 (.t 15)),none⟩,⟨0,(some 113),(.callf false (.c (.fn (.func 46) [] [])) [(.t 112)] []),none⟩,⟨0,(some 114),(.bslice 1 1 [(.str ⟨#[]⟩)] [(0,(1,(.t 113)))]),none⟩,⟨0,(some 115),(.app 1 16 (.t 111) (.t 114)),none⟩,⟨0,(some 4),(.mv (.t 115)),none⟩]))) (.reg [] false [⟨0,(some 116),(.bin .add (.t 107) (.c (.int .i64 1))),none⟩,⟨0,(some 107),(.mv (.t 116)),none⟩])))))
def aSH:XCode:=(.seq (.seq (.reg [] false [⟨0,(some 103),(.mv (.t 8)),none⟩,⟨0,(some 104),(.mv (.t 13)),none⟩,⟨0,(some 105),(.slsl 40 (.t 103) none (some (.t 104))),none⟩,⟨0,(some 106),(.len false (.t 105)),none⟩,⟨0,(some 107),(.mv (.c (.int .i64 0))),none⟩]) (.block 4 aRO)) (.seq (.seq (.reg [(4,false)] false [⟨0,(some 117),(.mv (.t 4)),none⟩,⟨0,(some 118),(.callf false (.c (.fn (.func 47) [] [])) [(.t 117),(.c (.str ⟨#[]⟩))] []),none⟩]) (.cond (.t 118) (.seq (.reg [] false [⟨0,(some 4),(.mv (.c .nilsl)),none⟩,⟨0,(some 5),(.mv (.c (.int .i64 0))),none⟩,⟨0,(some 6),(.mv (.c (.int .i64 13))),none⟩]) .ret) .skip)) (.seq (.reg [] false [⟨0,(some 119),(.mv (.t 4)),none⟩,⟨0,(some 120),(.mv (.t 5)),none⟩,⟨0,(some 4),(.mv (.t 119)),none⟩,⟨0,(some 5),(.mv (.t 120)),none⟩,⟨0,(some 6),(.mv (.c (.int .i64 0))),none⟩]) .ret)))
def aUU:XCode:=(.seq (.reg [] false [⟨0,(some 4),(.mv (.c .nilsl)),none⟩,⟨0,(some 5),(.mv (.c (.int .i64 0))),none⟩,⟨0,(some 6),(.mv (.c (.int .i64 0))),none⟩]) (.seq (.reg [] false [⟨0,(some 16),(.mv (.t 0)),none⟩,⟨0,(some 17),(.len true (.t 16)),none⟩,⟨0,(some 18),(.bin .quo (.t 17) (.c (.int .i64 45))),none⟩,⟨0,(some 7),(.mv (.t 18)),none⟩]) (.seq (.block 0 (.seq (.reg [] false [⟨0,(some 20),(.mv (.t 1)),none⟩,⟨0,(some 21),(.callf false (.c (.fn (.func 35) [] [])) [(.c (.int .i64 0)),(.t 20),(.c (.int .i64 1000))] []),none⟩,⟨0,(some 22),(.not (.t 21)),none⟩,⟨0,(some 19),(.mv (.t 22)),none⟩]) (.cond (.t 19) (.seq (.reg [] false [⟨0,(some 4),(.mv (.c .nilsl)),none⟩,⟨0,(some 5),(.mv (.c (.int .i64 0))),none⟩,⟨0,(some 6),(.mv (.c (.int .i64 2))),none⟩]) .ret) (.seq (.reg [] false [⟨0,(some 24),(.mv (.t 0)),none⟩,⟨0,(some 25),(.len true (.t 24)),none⟩,⟨0,(some 26),(.bin .rem (.t 25) (.c (.int .i64 45))),none⟩,⟨0,(some 27),(.bin .neq (.t 26) (.c (.int .i64 0))),none⟩,⟨0,(some 28),(.mv (.t 27)),none⟩,⟨0,(some 29),(.mv (.t 7)),(some (28,false))⟩,⟨0,(some 30),(.bin .lss (.t 29) (.c (.int .i64 2))),(some (28,false))⟩,⟨0,(some 31),(.pick (.t 28) (.c (.bool true)) (.t 30)),none⟩,⟨0,(some 23),(.mv (.t 31)),none⟩]) (.cond (.t 23) (.seq (.reg [] false [⟨0,(some 4),(.mv (.c .nilsl)),none⟩,⟨0,(some 5),(.mv (.c (.int .i64 0))),none⟩,⟨0,(some 6),(.mv (.c (.int .i64 20))),none⟩]) .ret) (.seq (.reg [] false [⟨0,(some 33),(.mv (.t 7)),none⟩,⟨0,(some 34),(.bin .gtr (.t 33) (.c (.int .i64 6))),none⟩,⟨0,(some 32),(.mv (.t 34)),none⟩]) (.cond (.t 32) (.seq (.reg [] false [⟨0,(some 4),(.mv (.c .nilsl)),none⟩,⟨0,(some 5),(.mv (.c (.int .i64 0))),none⟩,⟨0,(some 6),(.mv (.c (.int .i64 1))),none⟩]) .ret) .skip))))))) (.seq (.reg [] false [⟨0,(some 8),(.mv (.c .nilsl)),none⟩]) (.seq (.reg [] false [⟨0,(some 9),(.mv (.c (.int .i64 (-1)))),none⟩]) (.seq (.seq (.reg [] false [⟨0,(some 35),(.mv (.t 7)),none⟩,⟨0,(some 36),(.mv (.c (.int .i64 0))),none⟩]) (.block 1 aRP)) (.seq (.reg [] false [⟨0,(some 63),(.mv (.t 7)),none⟩,⟨0,(some 64),(.bin .sub (.t 63) (.c (.int .i64 1))),none⟩,⟨0,(some 13),(.mv (.t 64)),none⟩]) (.seq (.block 3 (.seq (.reg [] false [⟨0,(some 66),(.mv (.t 5)),none⟩,⟨0,(some 67),(.bin .gtr (.t 66) (.c (.int .i64 1))),none⟩,⟨0,(some 65),(.mv (.t 67)),none⟩]) (.cond (.t 65) (.seq (.reg [] false [⟨0,(some 4),(.mv (.c .nilsl)),none⟩,⟨0,(some 5),(.mv (.c (.int .i64 0))),none⟩,⟨0,(some 6),(.mv (.c (.int .i64 19))),none⟩]) .ret) (.seq (.reg [] true [⟨0,(some 69),(.mv (.t 5)),none⟩,⟨1,(some 70),(.bin .eql (.t 69) (.c (.int .i64 0))),none⟩,⟨2,(some 71),(.mv (.t 70)),none⟩,⟨3,(some 72),(.mv (.t 8)),(some (71,true))⟩,⟨4,(some 73),(.mv (.t 13)),(some (71,true))⟩,⟨5,(some 74),(.slsl 40 (.t 72) none (some (.t 73))),(some (71,true))⟩,⟨7,(some 76),(.mv (.t 8)),(some (71,true))⟩,⟨8,(some 77),(.mv (.t 13)),(some (71,true))⟩,⟨9,(some 78),(.idx 40 (.t 76) (.t 77)),(some (71,true))⟩,⟨10,(some 79),(.load true 40 (.t 78)),(some (71,true))⟩,⟨6,(some 75),(.callf false (.c (.fn (.func 43) [] [])) [(.t 74)] [10]),(some (71,true))⟩,⟨11,(some 80),(.eqag true (List.replicate 40 0) (.t 75) (.t 79)),(some (71,true))⟩,⟨12,(some 81),(.pick (.t 71) (.t 80) (.c (.bool false))),none⟩,⟨13,(some 68),(.mv (.t 81)),none⟩]) (.cond (.t 68) (.seq (.reg [] false [⟨0,(some 4),(.mv (.c .nilsl)),none⟩,⟨0,(some 5),(.mv (.c (.int .i64 0))),none⟩,⟨0,(some 6),(.mv (.c (.int .i64 22))),none⟩]) .ret) (.seq (.reg [] false [⟨0,(some 83),(.mv (.t 9)),none⟩,⟨0,(some 84),(.mv (.t 13)),none⟩,⟨0,(some 85),(.bin .sub (.t 84) (.c (.int .i64 1))),none⟩,⟨0,(some 86),(.callf false (.c (.fn (.func 35) [] [])) [(.c (.int .i64 0)),(.t 83),(.t 85)] []),none⟩,⟨0,(some 82),(.mv (.t 86)),none⟩]) (.cond (.t 82) (.seq (.reg [] false [⟨0,(some 87),(.mv (.t 8)),none⟩,⟨0,(some 88),(.mv (.t 9)),none⟩,⟨0,(some 89),(.callf false (.c (.fn (.func 44) [] [])) [(.c (.str ⟨#[]⟩))] []),none⟩,⟨0,(some 90),(.idx 40 (.t 87) (.t 88)),none⟩,⟨0,none,(.store 40 (.t 90) (.t 89) []),none⟩]) (.reg [] true [⟨0,(some 91),(.mv (.t 8)),none⟩,⟨1,(some 92),(.mv (.t 9)),none⟩,⟨2,(some 93),(.mv (.t 8)),none⟩,⟨3,(some 94),(.mv (.t 13)),none⟩,⟨4,(some 95),(.idx 40 (.t 93) (.t 94)),none⟩,⟨5,(some 96),(.load true 40 (.t 95)),none⟩,⟨6,(some 97),(.mv (.t 8)),none⟩,⟨7,(some 98),(.mv (.t 13)),none⟩,⟨8,(some 99),(.slsl 40 (.t 97) none (some (.t 98))),none⟩,⟨9,(some 100),(.callf false (.c (.fn (.func 43) [] [])) [(.t 99)] [5]),none⟩,⟨10,(some 101),(.callf false (.c (.fn (.func 45) [] [])) [(.t 96),(.t 100),(.c (.int .i64 94))] []),none⟩,⟨11,(some 102),(.idx 40 (.t 91) (.t 92)),none⟩,⟨12,none,(.store 40 (.t 102) (.t 101) []),none⟩])) .skip))))))) aSH))))))))
theorem aSI:x16=⟨121,[(4,none),(5,none),(6,none)],false,false,aUU,none,none⟩:=rfl
theorem aMd(a b:Nat):wP (a:Int) (b:Int)=((a/b:Nat):Int):=by
 rw[wP,aC5 AM];exact(Int.natCast_ediv a b).symm
def rwS(s:ByteArray)(i:Nat):ByteArray:=mC s (i*45) ((i+1)*45)
def gdS(s:ByteArray)(row i:Nat):Bool:=aDZ (rwS s i) (row+i)
def FnS(s:ByteArray):Nat→List Nat
 | 0=>[]
 | i+1=>FnS s i++rdF (rwS s i)
def bdS(s:ByteArray)(row:Nat):Nat→Int
 | 0 => -1
 | i+1=>if gdS s row i then bdS s row i else (i:Int)
def yU(s:ByteArray)(row:Nat):Nat→Nat
 | 0=>0
 | i+1=>if gdS s row i then yU s row i else yU s row i+1
theorem aFc(s:ByteArray):(rdF s).length=40:=iI _
theorem qI(s:ByteArray):∀ i,(FnS s i).length=i*40
 | 0=>rfl
 | i+1=>by rw[FnS,B6,qI s i,aFc];omega
theorem aKh(s:ByteArray):∀ i,Byt (FnS s i)
 | 0=>by intro k x h;simp[FnS]at h
 | i+1=>by
   intro k x h;rw[FnS,D9]at h;split at h;·exact aKh s i k x h
   ·exact oW (wM _) _ x h
theorem aHY(s:ByteArray)(row:Nat):∀ i,yU s row i≤i
 | 0=>A8 _
 | i+1=>by
   have:=aHY s row i;rw[yU];split<;>omega
theorem aOS(s:ByteArray)(row:Nat):∀ i,-1≤bdS s row i∧bdS s row i<i
 | 0=>by simp[bdS]
 | i+1=>by
   have:=aOS s row i;rw[bdS];split<;>omega
theorem aBA{s:ByteArray}{i:Nat}(h:(i+1)*45≤s.size):(rwS s i).size=45:=by
 unfold rwS;rw[←aFA,ByteArray.size_extract];omega

def setC(C:List Nat)(k:Nat)(f:List Nat):List Nat:=C.take (k*40)++(f++C.drop (k*40+40))
def aIq(C:List Nat)(n k:Nat):List Nat:=setC (setC C k (dH [])) k (eG 94 (eN (setC C k (dH [])) n) (eK (setC C k (dH [])) n))
def lns(C:List Nat)(n:Nat):List ByteArray:=(List.range n).map fun i=>lnB (eN C i)
def erV(e:Int):AV:=.tup [.fs [],I 0,I e]
def aBZ(C:List Nat)(n md:Nat):AV:=if Lib.containsS (lns C n) emB then erV 13 else .tup [.fs (rS (lns C n)),I (md:Nat),I 0]
def rA(C:List Nat)(n:Nat)(bad:Int)(md:Nat):AV:=if 1<md then erV 19 else if md=0∧eK C n≠eN C n then erV 22 else
 if 0≤bad∧bad<n then aBZ (aIq C n bad.toNat) n md else aBZ C n md
def mnV(s:ByteArray)(row:Int):AV:=if (decide (0≤row)&&decide (row≤1000))=true then
 (if s.size%45≠0∨s.size/45<2 then erV 20 else if 6<s.size/45 then erV 1 else rA (FnS s (s.size/45)) (s.size/45-1) (bdS s row.toNat (s.size/45)) (yU s row.toNat (s.size/45))) else erV 2
def mS(i:Nat):AV:=if i=0 then .nilsl else .sl 0 0 40 i
def mG(s:ByteArray)(i:Nat):XH:=if i=0 then [] else [some (.blk true (.cells true (bT (FnS s i))))]

theorem q47{xs:List AV}{h:XH}:runW aB 47 xs h=aGu xs h:=eL rfl rfl xs h
theorem aIW:∀ l:List ByteArray,rI (rS l)=some l
 | []=>rfl
 | s::l=>by
   have ih:=aIW l;show (rI (rS l)).map (s :: ·)=_;rw[ih];rfl
theorem w47{l:List ByteArray}{x:ByteArray}(h:l.length≤1000000):runW aB 47 [.fs (rS l),.str x] []=some (.bool (Lib.containsS l x),[]):=by
 rw[q47];unfold aGu;dsimp only;rw[aIW];dsimp only;rw[if_pos h]
def fI(l:List ByteArray):List AV:=l.map AV.str
theorem gI(l:List ByteArray):(fI l).length=l.length:=by simp[fI]
theorem bX(l:List ByteArray):lF (fI l)=[]:=aNE (fun _=>rfl) _
theorem bV(l:List ByteArray):slL (fI l)=[]:=aNC (fun _=>rfl) _
theorem bW(f:Nat→Option Nat)(l:List ByteArray):lR f (fI l)=fI l:=aND (fun _=>rfl) _
theorem eJ(l:List ByteArray):lJ (fI l)=true:=eW fun v hv=>by
 obtain⟨n,_,rfl⟩:=D6.1 hv;rfl
theorem aBh(l:List ByteArray):bU (fI l) 0 1 l.length=rS l:=yL (f:=AV.str) l []
theorem aJB(C:List Nat)(n:Nat):(lns C n).length=n:=by simp[lns]
theorem aWO(C:List Nat)(i:Nat):fI (lns C i)++[.str (lnB (eN C i))]=fI (lns C (i+1)):=by
 simp[fI,lns,aI5]
def tS(i:Nat):AV:=if i=0 then .nilsl else .sl 0 0 1 i
def tB(p i:Nat):AV:=if i=0 then .sl 0 0 40 p else .sl 1 0 40 p
def tG(C:List Nat)(i:Nat):XH:=if i=0 then [some (.blk true (.cells true (bT C)))] else [some (.blk true (.cells true (fI (lns C i)))),some (.blk true (.cells true (bT C)))]
theorem t16{C:List Nat}{n p md:Nat}{e:aH}(hn:n=p+1)(hC:C.length=n*40)(hb:Byt C)(h0:1≤p)(h1:p≤1000)(e4:e 4 = .nilsl)(e5:e 5=I (md:Nat))(e8:e 8 = .sl 0 0 40 n)(e13:e 13=I (p:Nat)) :
 gV none [(4,none),(5,none),(6,none)] false 0 (execW aB 16 0 none aSH e [some (.blk true (.cells true (bT C)))])=some (aBZ C p md,[]):=by
 unfold aSH;have z1:((p:Int)≤(n:Int))=True:=AAa;have z2:(0<p)=True:=AAa;sym =>
  simp[fW,fX,lS,Za,Zb,Zf,Zh,Zl,Zm,Zn,Zv,ZM,ZR,Yw,YM,YN,T0,TP,TQ,TR,S9,SD,SE,SM,SN,SY,Ra,Rd,Re,Rt,e4,e5,e8,e13,z1,z2]
  tactic =>
   unfold aRO;rw[aS p (fun i=>[tS i,I (md:Nat),tB p i,I (p:Nat),I (i:Nat)]) (fun i=>tG C i)]
   ·have s0:tS p = .sl 0 0 1 p:=if_neg AM
    have b0:tB p p = .sl 1 0 40 p:=if_neg AM;have g0:tG C p=[some (.blk true (.cells true (fI (lns C p)))),some (.blk true (.cells true (bT C)))]:=if_neg AM;have x0:((p:Int)<(p:Int))=False:=AAb;have ll:=aJB C p;have lc:=gI (lns C p);rw[ll]at lc;have ch:=aBh (lns C p);rw[ll]at ch;have c1:=w47 (l:=lns C p) (x:=⟨#[]⟩) AM;unfold aBZ;have hE:Lib.containsS (lns C p) emB=Lib.containsS (lns C p) ⟨#[]⟩:=rfl;rw[hE];have p1:(p*1≤p)=True:=AAa;have p2:(p≤p)=True:=AAa;generalize lns C p=L at *;cases hc:Lib.containsS L ⟨#[]⟩with
    | true =>
      rw[hc]at c1;unfold erV;(exact RT9 s0 b0 g0 x0 lc ch c1 p1 p2)
    | false =>
      rw[hc]at c1;(exact RT9 s0 b0 g0 x0 lc ch c1 p1 p2)
   ·have s0:tS 0 = .nilsl:=rfl
    have b0:tB p 0 = .sl 0 0 40 p:=rfl;have g0:tG C 0=[some (.blk true (.cells true (bT C)))]:=rfl;(exact RT9 s0 b0 g0 e4 e5 cN cH cG cO)
   ·intro i hi
    have i1:((i:Int)<(p:Int))=True:=AAa;have a2:=kT hi AM;have hC2:p*40≤C.length:=AM
    have lC:=aN C;have i3:(i*40+40≤(bT C).length)=True:=AAp (by
     rw[lC];have h1:(i+1)*40≤p*40:=C4 _ hi;omega)
    have fu:=aEf (C:=C) (k:=i);have l5:=qB hC2 hi;have c1:=w46 l5;rw[bM]at c1;have m5:=aN (eN C i);rw[l5]at m5;have l0:(bT (nf 0)).length=40:=by rw[aN];exact eD AM
    have gz:=bL (nf 0);have c8:=jH (a:=nf 0) (b:=eN C i) (by rw[l5];exact eD AM);have k5:=gO l5;have k6:=jY l5;have g5:=bL (eN C i);have gC:=bL C;have ls:=aWO C i;have n1:=gI (lns C i);rw[aJB]at n1;have n2:=eJ (lns C i);have n3:=eJ (lns C (i+1));have s1:tS (i+1) = .sl 0 0 1 (i+1):=if_neg AM;have b1:tB p (i+1) = .sl 1 0 40 p:=if_neg AM;have g1:tG C (i+1)=[some (.blk true (.cells true (fI (lns C (i+1))))),some (.blk true (.cells true (bT C)))]:=if_neg AM;have z3:(i+1≤1099511627776)=True:=AAa;have z4:((i+1)*16≤1099511627776)=True:=AAa;by_cases hi0:i=0
    ·subst hi0
     have s0:tS 0 = .nilsl:=rfl;have b0:tB p 0 = .sl 0 0 40 p:=rfl;have g0:tG C 0=[some (.blk true (.cells true (bT C)))]:=rfl;have L0:fI (lns C 0)=[]:=rfl;rw[L0,G7]at ls;have j1:((0:Int)<(p:Int))=True:=AAa;rw[s1,b1,g1];rw[←ls];have fu:List.take 40 (bT C)=bT (eN C 0):=fu;have fv:List.take 40 (List.drop 0 (bT C))=bT (eN C 0):=fu;have i3:(40≤(bT C).length)=True:=AAp (by rw[lC];omega);generalize lnB (eN C 0)=B at *;generalize eN C 0=f at *;(exact aPb j1 i3 fu fv m5 c1 l0 gz c8 k5 k6 g5 gC s0 b0 g0 cN cH cG cO)
    ·have s0:tS i = .sl 0 0 1 i:=if_neg hi0
     have b0:tB p i = .sl 1 0 40 p:=if_neg hi0;have g0:tG C i=[some (.blk true (.cells true (fI (lns C i)))),some (.blk true (.cells true (bT C)))]:=if_neg hi0;rw[s1,b1,g1];generalize lns C (i+1)=L1 at *;generalize lns C i=L0 at *;generalize lnB (eN C i)=B at *;generalize eN C i=f at *;(sym=>(simp[fW,fX,lS,Za,Zb,Zc,Zd,Ze,Zf,Zh,Zl,Zm,Zo,Zv,Zw,Z8,ZA,ZH,ZV,ZZ,Ya,Ye,Yh,Yl,Ym,Yn,Yz,Y7,YG,YM,YN,Xz,XL,XO,Wi,Wu,Ww,Wx,W3,Vp,Vq,V1,V2,V3,V4,V5,V6,V7,V8,VB,VC,VF,VG,VI,VK,VL,VM,VN,VO,VP,VQ,VR,VS,VT,VU,VX,VY,Ud,Ug,Uh,Ui,UU,UV,UW,UX,UY,Td,Te,Tf,Tg,Th,Tj,Tl,Tm,Tq,Tt,T0,T3,T4,T6,T7,T8,T9,TA,TB,TC,TD,TE,TL,TM,TN,TO,TW,TX,TY,TZ,Sf,Sg,Si,Sk,Sl,Sn,Sp,Ss,Sv,Sw,Sz,S2,S3,S4,S7,S9,SB,SD,SE,SI,SL,SM,SN,Rp,Rq,Rr,Ry,QX,QY,QZ,Pa,i1,a2,i3,fu,m5,c1,l0,gz,c8,k5,k6,g5,gC,ls,n1,n2,n3,s0,b0,g0,z3,z4,cN,cH,cG,cO,bX,bV,bW];all_goals tactic=>exact rfl))
   ·have x0:((p:Int)<(p:Int))=False:=AAb
    (exact RT1 x0)

theorem aEp:∀{a b:List Nat}{n:Nat},a.length=n→b.length=n→dQ (List.replicate n 0) (bT a) (bT b)=some (decide (a=b))
 | [],[],0,_,_=>rfl
 | x::a,y::b,n+1,ha,hb=>by
   have ih:=aEp (a:=a) (b:=b) (n:=n) (by simpa using ha) (by simpa using hb);rw[M0];show (match tL 0 (.int .u8 (x:Int)) (.int .u8 (y:Int)),dQ (List.replicate n 0) (bT a) (bT b)with
    | some x,some y=>some (x&&y)
    | _,_=>none)=_
   rw[ih];show some (decide ((x:Int)=(y:Int))&&decide (a=b))=_;congr 1;rw[←Bool.decide_and];exact decide_eq_decide.2 (by rw[aA3];constructor<;>(rintro ⟨h1,h2⟩;exact⟨by omega,h2⟩))
theorem aJd{C:List Nat}{k:Nat}{f:List Nat}(hf:f.length=40):bO (bT C) (k*40) (bT f)=bT (setC C k f):=by
 unfold bO setC bT;simp[hf]
theorem rK{C:List Nat}{k n:Nat}{f:List Nat}(hC:C.length=n*40)(hk:k<n)(hf:f.length=40):(setC C k f).length=n*40:=by
 have:(k+1)*40≤n*40:=C4 _ hk;simp[setC,hf,hC];omega
theorem wW{C:List Nat}{k:Nat}{f:List Nat}(hC:Byt C)(hf:Byt f):Byt (setC C k f):=by
 intro i x h;unfold setC at h;rw[D9]at h;split at h
 ·rw[G9]at h
  split at h;·exact hC _ _ h
  ·cases h
 ·rw[D9]at h
  split at h;·exact hf _ _ h
  ·rw[G8]at h
   exact hC _ _ h
theorem aCy{C:List Nat}{n p:Nat}(hC:C.length=n*40)(hp:n=p+1):(eN C p).length=40:=qB (n:=n) AM AM
theorem aOT(b:Bool):b=false∨b=true:=by cases b;exact .inl rfl;exact .inr rfl
theorem aEK:∀ l:List Nat,iE (bT l) (bT l)=true
 | []=>rfl
 | x::l=>by
   show (cT (.int .u8 (x:Int)) (.int .u8 (x:Int))&&iE (bT l) (bT l))=true;rw[aEK l];simp[cT]
theorem aJR:runW aB 44 [.str ⟨#[]⟩] []=some (.agg (bT (dH [])),[]):=w44 ⟨#[]⟩
theorem w16{s:ByteArray}{row:Int}(hz:s.size≤1000000):runW aB 16 [.str s,I row] []=some (mnV s row,[]):=by
 rw[q16 (by simp),aSI];unfold aUU;dsimp only;have c1:=w35 0 row 1000;have d1:wP (s.size:Int) 45=((s.size/45:Nat):Int):=aMd s.size 45;have d2:qL (s.size:Int) 45=((s.size%45:Nat):Int):=kB s.size 45;have d3:IntKind.i64.wrap ((s.size/45:Nat):Int)=((s.size/45:Nat):Int):=aI AM AM;cases hb:decide (0≤row)&&decide (row≤1000)with
 | false =>
   rw[hb]at c1;have hv:mnV s row=erV 2:=by unfold mnV;rw[hb,if_neg (by decide)]
   rw[hv];unfold erV;(exact RT4 c1 d1 d2 d3)
 | true =>
   rw[hb]at c1;rcases ptf (s.size%45=0)with h0|h0
   ·have h0':=AAn h0
    have z0:(((s.size%45:Nat):Int)=0)=True:=AAa;rcases ptf (s.size/45<2)with h2|h2
    ·have h2':=AAn h2
     have z2:(((s.size/45:Nat):Int)<2)=True:=AAa;have hv:mnV s row=erV 20:=by unfold mnV;rw[hb,if_pos rfl,if_pos (Or.inr h2')]
     rw[hv];unfold erV;generalize s.size%45=rm at *;generalize s.size/45=n at *;(exact RT7 c1 d1 d2 d3 z0 z2 aE)
    ·have h2':=AAo h2
     have z2:(((s.size/45:Nat):Int)<2)=False:=AAb;rcases ptf (6<s.size/45)with h6|h6
     ·have h6':=AAn h6
      have z6:((6:Int)<((s.size/45:Nat):Int))=True:=AAa;have hv:mnV s row=erV 1:=by unfold mnV;rw[hb,if_pos rfl,if_neg AM,if_pos h6']
      rw[hv];unfold erV;generalize s.size%45=rm at *;generalize s.size/45=n at *;(exact RT7 c1 d1 d2 d3 z0 z2 z6)
     ·have h6':=AAo h6
      have z6:((6:Int)<((s.size/45:Nat):Int))=False:=AAb;have hv:mnV s row=rA (FnS s (s.size/45)) (s.size/45-1) (bdS s row.toNat (s.size/45)) (yU s row.toNat (s.size/45)):=by unfold mnV;rw[hb,if_pos rfl,if_neg AM,if_neg h6']
      rw[hv];have hsz:s.size/45*45=s.size:=AM
      simp only[A3,AAg]at hb;obtain⟨R,hR⟩:∃ R:Nat,row=(R:Int):=⟨row.toNat,by omega⟩;have hR1:row.toNat=R:=AM
      rw[hR1];subst hR;generalize s.size%45=rm at *;generalize s.size/45=n at *;sym =>
       simp[fW,fX,lS,Za,Zb,Zf,Zh,Zl,Zm,Zp,Zr,Zv,Zy,ZA,ZD,ZR,Ye,Yh,Ym,Yn,Yp,Yr,Yy,YF,YG,YJ,Xz,Wu,Wv,WY,Va,V8,V9,VI,VM,VO,VT,VU,Ug,Uh,Ui,UT,UX,UZ,Tc,Td,Te,Tg,Th,Tm,Tw,T4,T5,T8,T9,TA,TB,TC,TJ,TK,S7,S9,SB,SD,SE,SI,SM,SN,QX,QY,QZ,Pa,c1,d1,d2,d3,z0,z2,z6]
       tactic =>
        unfold aRP;rw[aS n (fun i=>[.str s,I (R:Int),.nilsl,I (yU s R i:Nat),I (n:Nat),mS i,I (bdS s R i),I (n:Nat),I (i:Nat)]) (fun i=>mG s i)]
        ·obtain⟨p,hp⟩:∃ p,n=p+1:=⟨n-1,by omega⟩
         have hnp:n-1=p:=AM
         have s0:mS n = .sl 0 0 40 n:=if_neg AM;have g0:mG s n=[some (.blk true (.cells true (bT (FnS s n))))]:=if_neg AM;have x0:((n:Int)<(n:Int))=False:=AAb;have wr:IntKind.i64.wrap ((n:Int)-1)=(p:Int):=by rw[aI AM AM];omega
         have wq:IntKind.i64.wrap ((p:Int)-1)=(p:Int)-1:=aI AM AM;have hC:=qI s n;have hB:=aKh s n;have hmd:=aHY s R n;have hbd:=aOS s R n;rw[hnp];generalize FnS s n=C at *;generalize yU s R n=md at *;generalize bdS s R n=bad at *;have lC:=aN C;rw[hC]at lC;have gC:=bL C;have sC:=aEK C;rcases ptf ((1:Int)<(md:Int))with k1|k1
         ·have hv:rA C p bad md=erV 19:=by unfold rA;rw[if_pos (by have:=AAn k1;omega)]
          rw[hv];unfold erV;(exact aAb s0 g0 x0 wr k1 lC gC cN cH cG cO aE aE)
         ·have k1':¬1<md:=by have:=AAo k1;omega
          rcases ptf ((md:Int)=0)with k0|k0
          ·have k0':md=0:=by have:=AAn k0;omega
           have f9:=aEf (C:=C) (k:=p);have l9:=aCy hC hp;have l8:=fD (C:=C) (n:=p) AM p (A8 _);have cs9:=w43 (C:=C) (n:=p) AM hB AM;rw[bM]at cs9;have ce:=aEp l8 l9;have y1:((p:Int)<(n:Int))=True:=AAa;have y2:(p*40+40≤n*40)=True:=AAa;have y3:((p:Int)≤(n:Int))=True:=AAa;have y4:(0<p)=True:=AAa;have g9:=bL (eN C p);have g8:=bL (eK C p);have m9:=aN (eN C p);rw[l9]at m9;have m8:=aN (eK C p);rw[l8]at m8;rcases aOT (decide (eK C p=eN C p))with hq|hq
           ·skip
            rw[hq]at ce;have hv:rA C p bad md=erV 22:=by unfold rA;rw[if_neg k1',if_pos ⟨k0',of_decide_eq_false hq⟩]
            rw[hv];unfold erV;(exact lV s0 g0 x0 wr wq k1 k0 lC gC sC f9 cs9 ce y1 y2 y3 y4 g9 g8 m9 m8 cN cH cG cO aE)
           ·skip
            rw[hq]at ce;have hz9:¬(md=0∧eK C p≠eN C p):=fun hh=>hh.2 (of_decide_eq_true hq);have c35:=w35 0 bad ((p:Int)-1);rcases aOT (decide (0≤bad)&&decide (bad≤(p:Int)-1))with hbt|hbt
            ·skip
             rw[hbt]at c35;have hfx:¬(0≤bad∧bad<p):=fun hh=>by
              rw[O1,AAf,AAf]at hbt;omega
             have hv:rA C p bad md=aBZ C p md:=by unfold rA;rw[if_neg k1',if_neg hz9,if_neg hfx]
             rw[hv];sym =>
              simp[fW,fX,lS,Za,Zb,Zd,Ze,Zf,Zh,Zi,Zl,Zm,Zn,Zp,Zq,Zv,Zy,ZA,ZB,ZH,ZM,ZW,ZY,Yb,Ye,Yh,Yi,Yj,Ym,Yn,Yo,Yz,Y8,YE,YG,YJ,YM,YN,Xm,Xn,Xz,XO,Wu,Wv,Wx,W3,V1,V2,V3,V4,V7,V8,VB,VD,VF,VI,VK,VL,VM,VO,VP,VT,VU,VV,VX,VY,Ud,Ug,Uh,Ui,Uj,Ul,Um,Un,Uo,UU,UX,UZ,Td,Te,Tg,Th,Tl,Tm,Tt,Tw,Tz,T0,T3,T4,T5,T6,T7,T8,T9,TA,TB,TC,TP,TQ,TR,Sm,Sn,Sp,Ss,S7,S9,SB,SC,SD,SE,SF,SI,SK,SM,SN,SY,Ra,Rd,Re,Rq,Rt,Qm,QX,QY,QZ,Pa,Pb,s0,g0,x0,wr,wq,k1,lC,gC,sC,c35,cN,cH,cG,cO,k0,f9,cs9,ce,y1,y2,y3,y4,g9,g8,m9,m8]
              tactic =>
               exact t16 hp hC hB AM AM rfl rfl rfl rfl
            ·skip
             rw[hbt]at c35;have hfx:0≤bad∧bad<p:=by
              rw[A3,AAg,AAg]at hbt;omega
             have hv:rA C p bad md=aBZ (aIq C p bad.toNat) p md:=by unfold rA;rw[if_neg k1',if_neg hz9,if_pos hfx]
             rw[hv];obtain⟨k,hk⟩:∃ k:Nat,bad=(k:Int):=⟨bad.toNat,by omega⟩;subst hk;have ht:((k:Int)).toNat=k:=rfl;rw[ht];unfold aIq;have j1:((k:Int)<(n:Int))=True:=AAa;have f0:=aJR;have le0:=iI [];have su:=aJd (C:=C) (k:=k) le0;have hC1:=rK (k:=k) hC AM le0;have hB1:=wW (k:=k) hB (oW (l:=[]) (fun i x h=>by simp at h));have m0:=aN (dH []);rw[le0]at m0;have t0:=gO le0;have gf0:=bL (dH []);generalize setC C k (dH [])=C1 at *;have lC1:=aN C1;rw[hC1]at lC1;have gC1:=bL C1;have sC1:=aEK C1;have f1:=aEf (C:=C1) (k:=p);have lf1:=aCy hC1 hp;have cs:=w43 (C:=C1) (n:=p) AM hB1 AM;rw[bM]at cs;have ls1:=fD (C:=C1) (n:=p) AM p (A8 _);have w9:=w45 (t:=94) lf1 ls1 (aAS hB1 p) (tR p) AM;rw[bM,bM,bM]at w9;have w9:runW aB 45 [.agg (bT (eN C1 p)),.agg (bT (eK C1 p)),I 94] []=some (.agg (bT (eG 94 (eN C1 p) (eK C1 p))),[]):=w9;have lp:=mH (t:=94) (l:=eN C1 p) (m:=eK C1 p) (by rw[lf1,ls1]);rw[lf1]at lp;have bp:=tX (t:=94) (l:=eN C1 p) (m:=eK C1 p);have su2:=aJd (C:=C1) (k:=k) lp;have hC2:=rK (k:=k) hC1 AM lp;have hB2:=wW (k:=k) hB1 bp;have q1:=aN (eN C1 p);rw[lf1]at q1;have q2:=aN (eK C1 p);rw[ls1]at q2;have q3:=aN (eG 94 (eN C1 p) (eK C1 p));rw[lp]at q3;have g1:=bL (eN C1 p);have g2:=bL (eK C1 p);have g3:=bL (eG 94 (eN C1 p) (eK C1 p));have tk1:=gO lp;generalize eG 94 (eN C1 p) (eK C1 p)=fp at *;generalize eK C1 p=fs at *;generalize eN C1 p=fa at *;generalize setC C1 k fp=C2 at *;have kl:(k*40+40≤n*40)=True:=AAp (by have:(k+1)*40≤n*40:=C4 _ AM;omega);sym =>
              simp[fW,fX,lS,Za,Zb,Zc,Zd,Ze,Zf,Zh,Zi,Zl,Zm,Zn,Zp,Zq,Zv,Zy,ZA,ZB,ZH,ZM,ZW,ZY,ZZ,Ya,Yb,Yc,Ye,Yh,Yi,Yj,Ym,Yn,Yo,Yz,Y8,YE,YG,YJ,YM,YN,Xm,Xn,Xz,XJ,XL,XO,Wu,Wv,Ww,Wx,W3,Vq,Vz,V1,V2,V3,V4,V7,V8,VB,VD,VF,VI,VK,VL,VM,VO,VP,VT,VU,VV,VX,VY,Ud,Ug,Uh,Ui,Uj,Uk,Ul,Um,Un,Uo,UU,UX,UY,UZ,Td,Te,Tg,Th,Tl,Tm,Tt,Tw,Tx,Ty,Tz,T0,T3,T4,T5,T6,T7,T8,T9,TA,TB,TC,TP,TQ,TR,Sm,Sn,Sp,Ss,Sv,Sw,S7,S9,SC,SD,SE,SF,SI,SK,SM,SN,SY,Ra,Rd,Re,Rq,Rt,Qg,Qm,QX,QY,QZ,Pa,Pb,s0,g0,x0,wr,wq,k1,lC,gC,sC,c35,cN,cH,cG,cO,k0,f9,cs9,ce,y1,y2,y3,y4,g9,g8,m9,m8,j1,f0,su,m0,t0,gf0,lC1,gC1,sC1,f1,cs,w9,su2,q1,q2,q3,g1,g2,g3,tk1,kl]
              tactic =>
               exact t16 hp hC2 hB2 AM AM rfl rfl rfl rfl
          ·have k0':¬md=0:=by have:=AAo k0;omega
           have hz9:¬(md=0∧eK C p≠eN C p):=fun hh=>k0' hh.1;have y1:((p:Int)<(n:Int))=True:=AAa;have y2:(p*40+40≤n*40)=True:=AAa;have y3:((p:Int)≤(n:Int))=True:=AAa;have y4:(0<p)=True:=AAa;have c35:=w35 0 bad ((p:Int)-1);rcases aOT (decide (0≤bad)&&decide (bad≤(p:Int)-1))with hbt|hbt
           ·skip
            rw[hbt]at c35;have hfx:¬(0≤bad∧bad<p):=fun hh=>by
             rw[O1,AAf,AAf]at hbt;omega
            have hv:rA C p bad md=aBZ C p md:=by unfold rA;rw[if_neg k1',if_neg hz9,if_neg hfx]
            rw[hv];sym =>
             simp[fW,fX,lS,Za,Zb,Zf,Zh,Zi,Zl,Zm,Zp,Zs,Zv,Zy,ZA,Ye,Yh,Ym,Yn,Yp,Y8,YE,YG,YJ,Xz,Wu,Wv,V8,VI,VM,VO,VT,VU,Ug,Uh,Ui,UU,UX,UZ,Td,Te,Tg,Th,Tl,Tm,T5,T8,T9,TA,TB,TC,Sm,S7,S9,SB,SC,SD,SE,SF,SI,SK,SM,SN,QX,QY,QZ,Pa,s0,g0,x0,wr,wq,k1,lC,gC,sC,c35,cN,cH,cG,cO,k0,y1,y2,y3,y4]
             tactic =>
              exact t16 hp hC hB AM AM rfl rfl rfl rfl
           ·skip
            rw[hbt]at c35;have hfx:0≤bad∧bad<p:=by
             rw[A3,AAg,AAg]at hbt;omega
            have hv:rA C p bad md=aBZ (aIq C p bad.toNat) p md:=by unfold rA;rw[if_neg k1',if_neg hz9,if_pos hfx]
            rw[hv];obtain⟨k,hk⟩:∃ k:Nat,bad=(k:Int):=⟨bad.toNat,by omega⟩;subst hk;have ht:((k:Int)).toNat=k:=rfl;rw[ht];unfold aIq;have j1:((k:Int)<(n:Int))=True:=AAa;have f0:=aJR;have le0:=iI [];have su:=aJd (C:=C) (k:=k) le0;have hC1:=rK (k:=k) hC AM le0;have hB1:=wW (k:=k) hB (oW (l:=[]) (fun i x h=>by simp at h));have m0:=aN (dH []);rw[le0]at m0;have t0:=gO le0;have gf0:=bL (dH []);generalize setC C k (dH [])=C1 at *;have lC1:=aN C1;rw[hC1]at lC1;have gC1:=bL C1;have sC1:=aEK C1;have f1:=aEf (C:=C1) (k:=p);have lf1:=aCy hC1 hp;have cs:=w43 (C:=C1) (n:=p) AM hB1 AM;rw[bM]at cs;have ls1:=fD (C:=C1) (n:=p) AM p (A8 _);have w9:=w45 (t:=94) lf1 ls1 (aAS hB1 p) (tR p) AM;rw[bM,bM,bM]at w9;have w9:runW aB 45 [.agg (bT (eN C1 p)),.agg (bT (eK C1 p)),I 94] []=some (.agg (bT (eG 94 (eN C1 p) (eK C1 p))),[]):=w9;have lp:=mH (t:=94) (l:=eN C1 p) (m:=eK C1 p) (by rw[lf1,ls1]);rw[lf1]at lp;have bp:=tX (t:=94) (l:=eN C1 p) (m:=eK C1 p);have su2:=aJd (C:=C1) (k:=k) lp;have hC2:=rK (k:=k) hC1 AM lp;have hB2:=wW (k:=k) hB1 bp;have q1:=aN (eN C1 p);rw[lf1]at q1;have q2:=aN (eK C1 p);rw[ls1]at q2;have q3:=aN (eG 94 (eN C1 p) (eK C1 p));rw[lp]at q3;have g1:=bL (eN C1 p);have g2:=bL (eK C1 p);have g3:=bL (eG 94 (eN C1 p) (eK C1 p));have tk1:=gO lp;generalize eG 94 (eN C1 p) (eK C1 p)=fp at *;generalize eK C1 p=fs at *;generalize eN C1 p=fa at *;generalize setC C1 k fp=C2 at *;have kl:(k*40+40≤n*40)=True:=AAp (by have:(k+1)*40≤n*40:=C4 _ AM;omega);sym =>
             simp[fW,fX,lS,Za,Zb,Zc,Zd,Ze,Zf,Zh,Zi,Zl,Zm,Zn,Zp,Zs,Zv,Zy,ZA,ZH,ZM,ZW,ZY,ZZ,Ya,Yb,Yc,Ye,Yh,Yi,Yj,Ym,Yn,Yp,Yz,Y8,YE,YG,YJ,YM,YN,Xz,XJ,XL,XO,Wu,Wv,Ww,Wx,W3,Vq,Vz,V1,V2,V3,V4,V7,V8,VB,VD,VF,VI,VK,VL,VM,VO,VP,VT,VU,VV,VX,VY,Ud,Ug,Uh,Ui,Uj,Uk,Ul,Um,Un,Uo,UU,UX,UY,UZ,Td,Te,Tg,Th,Tl,Tm,Tt,Tw,Tx,Ty,Tz,T0,T3,T5,T6,T7,T8,T9,TA,TB,TC,TP,TQ,TR,Sm,Sn,Sp,Ss,Sv,Sw,S7,S9,SC,SD,SE,SF,SI,SK,SM,SN,SY,Ra,Rd,Re,Rq,Rt,Qg,Qm,QX,QY,QZ,Pa,Pb,s0,g0,x0,wr,wq,k1,lC,gC,sC,c35,cN,cH,cG,cO,k0,y1,y2,y3,y4,j1,f0,su,m0,t0,gf0,lC1,gC1,sC1,f1,cs,w9,su2,q1,q2,q3,g1,g2,g3,tk1,kl]
             tactic =>
              exact t16 hp hC2 hB2 AM AM rfl rfl rfl rfl
        ·have s0:mS 0 = .nilsl:=rfl
         have g0:mG s 0=[]:=rfl;have b0:bdS s R 0 = -1:=rfl;have m0:yU s R 0=0:=rfl;(exact RT4 s0 g0 b0 m0)
        ·intro i hi
         have i1:((i:Int)<(n:Int))=True:=AAa;have a2:=kT hi AM;have a3:IntKind.i64.wrap ((i:Int)*45)=((i*45:Nat):Int):=by rw[aI AM AM];omega
         have a4:IntKind.i64.wrap (((i:Int)+1)*45)=(((i+1)*45:Nat):Int):=by rw[aI AM AM];omega
         have a5:IntKind.i64.wrap ((R:Int)+(i:Int))=((R+i:Nat):Int):=by rw[aI AM AM];omega
         have hle:(i+1)*45≤s.size:=by rw[←hsz];exact C4 _ hi
         have a6:(((i+1)*45:Nat):Int)≤(s.size:Int):=AM
         have a6b:(((i*45:Nat):Int)≤(((i+1)*45:Nat):Int))=True:=AAa;have hx:mC s (i*45) ((i+1)*45)=rwS s i:=rfl;have c2:=w42 (s:=rwS s i) (n:=R+i) (aBA hle) AM;have hg:aDZ (rwS s i) (R+i)=gdS s R i:=rfl;rw[hg]at c2;rw[bM]at c2;have lf:=aFc (rwS s i);have m1:=aN (rdF (rwS s i));rw[lf]at m1;have k5:=gO lf;have k6:=jY lf;have g5:=bL (rdF (rwS s i));have l0:(bT (nf 0)).length=40:=by rw[aN];exact eD AM
         have gz:=bL (nf 0);have c8:=jH (a:=nf 0) (b:=rdF (rwS s i)) (by rw[lf];exact eD AM);have ap:=aLY (FnS s i) (rdF (rwS s i));have hF:FnS s i++rdF (rwS s i)=FnS s (i+1):=rfl;rw[hF]at ap;have lc:=aN (FnS s i);rw[qI]at lc;have lc1:=aN (FnS s (i+1));rw[qI]at lc1;have gc:=bL (FnS s i);have gc1:=bL (FnS s (i+1));have ml:=aHY s R i;have a7:IntKind.i64.wrap (((yU s R i:Nat):Int)+1)=((yU s R i+1:Nat):Int):=by rw[aI AM AM];omega
         have s1:mS (i+1) = .sl 0 0 40 (i+1):=if_neg AM;have g1:mG s (i+1)=[some (.blk true (.cells true (bT (FnS s (i+1)))))]:=if_neg AM;have z2':((i+1)*40≤1099511627776)=True:=AAa;have z3:(i+1≤1099511627776)=True:=AAa;by_cases hi0:i=0
         ·subst hi0
          have s0:mS 0 = .nilsl:=rfl;have g0:mG s 0=[]:=rfl;have b0:bdS s R 0 = -1:=rfl;have m0:yU s R 0=0:=rfl;have F1:FnS s (0+1)=rdF (rwS s 0):=rfl;rw[s1,g1,F1];have j1:((0:Int)<(n:Int))=True:=AAa;have hx':mC s 0 45=rwS s 0:=rfl;have a8:IntKind.i64.wrap ((R:Int)+0)=(R:Int):=aI AM AM;have a9:((45:Int)≤(s.size:Int))=True:=AAa;have wz:IntKind.i64.wrap 45=45:=rfl;have tz:Int.toNat 45=45:=rfl;have j4:(0<n)=True:=AAa;rw[J1]at c2;cases hg:gdS s R 0 with
          | true =>
            rw[hg]at c2;have bb:bdS s R (0+1) = -1:=by rw[bdS,hg];rfl
            have mm:yU s R (0+1)=0:=by rw[yU,hg];rfl
            rw[bb,mm];generalize rdF (rwS s 0)=f at *;(exact lV s0 g0 b0 m0 wz tz j1 j4 hx' c2 a8 a9 m1 k5 k6 g5 l0 gz c8 cN cH cG cO aE aE aE)
          | false =>
            rw[hg]at c2;have bb:bdS s R (0+1)=0:=by rw[bdS,hg];rfl
            have mm:yU s R (0+1)=1:=by rw[yU,hg];rfl
            rw[bb,mm];generalize rdF (rwS s 0)=f at *;(exact lV s0 g0 b0 m0 wz tz j1 j4 hx' c2 a8 a9 m1 k5 k6 g5 l0 gz c8 cN cH cG cO aE aE aE)
         ·have s0:mS i = .sl 0 0 40 i:=if_neg hi0
          have g0:mG s i=[some (.blk true (.cells true (bT (FnS s i))))]:=if_neg hi0;have e45:(i+1)*45=i*45+45:=AM
          have a3':((i*45:Nat):Int).toNat=i*45:=rfl;rw[s1,g1];cases hg:gdS s R i with
          | true =>
            rw[hg]at c2;have bb:bdS s R (i+1)=bdS s R i:=by rw[bdS,hg];rfl
            have mm:yU s R (i+1)=yU s R i:=by rw[yU,hg];rfl
            rw[bb,mm];generalize FnS s (i+1)=C1 at *;generalize FnS s i=C0 at *;generalize rdF (rwS s i)=f at *;(sym=>(simp[fW,fX,lS,Za,Zb,Zc,Zd,Ze,Zf,Zh,Zl,Zm,Zn,Zo,Zv,Zw,Z8,ZA,ZD,ZN,ZQ,ZV,ZZ,Ya,Ye,Yh,Yl,Ym,Yn,Yr,Y6,Y7,Y9,YG,YM,YN,Xz,XJ,XO,XY,Wj,Wu,Wv,Ww,Wx,Wy,W3,W6,Vq,V1,V2,V3,V4,V8,VA,VB,VF,VG,VI,VK,VL,VM,VN,VO,VP,VQ,VR,VS,VT,VU,VX,VY,Ud,Ug,Uh,Ui,UU,UV,UW,UX,UY,UZ,Td,Te,Tf,Tg,Th,Tj,Tl,Tm,Tq,Tt,Tw,T0,T3,T4,T6,T7,T8,T9,TA,TB,TC,TM,TN,TO,TQ,TR,TW,TX,TY,TZ,Sf,Sg,Si,Sk,Sl,Sn,Sp,Ss,Sv,Sw,Sz,S2,S3,S4,S7,S9,SB,SD,SE,SI,SL,SM,SN,Rf,Rg,Rh,Ri,Rr,Ry,QX,QY,QZ,Pa,s0,g0,i1,a2,a3,a4,a5,a6,a6b,hx,c2,m1,k5,k6,g5,l0,gz,c8,ap,lc,lc1,gc,gc1,z2',z3,cN,cH,cG,cO];all_goals tactic=>exact rfl))
          | false =>
            rw[hg]at c2;have bb:bdS s R (i+1)=(i:Int):=by rw[bdS,hg];rfl
            have mm:yU s R (i+1)=yU s R i+1:=by rw[yU,hg];rfl
            rw[bb,mm];generalize FnS s (i+1)=C1 at *;generalize FnS s i=C0 at *;generalize rdF (rwS s i)=f at *;generalize yU s R i=md at *;(sym=>(simp[fW,fX,lS,Za,Zb,Zc,Zd,Ze,Zf,Zh,Zl,Zm,Zn,Zo,Zv,Zw,Z8,ZA,ZD,ZN,ZQ,ZV,ZZ,Ya,Ye,Yh,Yl,Ym,Yn,Yr,Y6,Y7,Y9,YG,YM,YN,Xz,XJ,XO,XY,Wj,Wu,Wv,Ww,Wx,Wy,W3,W6,Vq,V1,V2,V3,V4,V8,VA,VB,VF,VG,VI,VK,VL,VM,VN,VO,VP,VQ,VR,VS,VT,VU,VX,VY,Ud,Ug,Uh,Ui,UU,UV,UW,UX,UY,Td,Te,Tf,Tg,Th,Tj,Tl,Tm,Tq,Tt,Tx,T0,T3,T4,T6,T7,T8,T9,TA,TB,TC,TM,TN,TO,TQ,TR,TW,TX,TY,TZ,Sf,Sg,Si,Sk,Sl,Sn,Sp,Ss,Sv,Sw,Sz,S2,S3,S4,S7,S9,SB,SD,SE,SI,SL,SM,SN,Rf,Rg,Rh,Ri,Rr,Ry,QX,QY,QZ,Pa,s0,g0,i1,a2,a3,a4,a5,a6,a6b,a7,hx,c2,m1,k5,k6,g5,l0,gz,c8,ap,lc,lc1,gc,gc1,z2',z3,cN,cH,cG,cO];all_goals tactic=>exact rfl))
        ·have e0:((n:Int)<(n:Int))=False:=AAb
         (exact RT1 e0)
   ·have h0':=AAo h0
    have z0:(((s.size%45:Nat):Int)=0)=False:=AAb;have hv:mnV s row=erV 20:=by unfold mnV;rw[hb,if_pos rfl,if_pos (Or.inl h0')]
    rw[hv];unfold erV;generalize s.size%45=rm at *;generalize s.size/45=n at *;(exact RT5 c1 d1 d2 d3 z0)
def aUL(a b:List ByteArray)(m n:Nat):Prop:=m≤n∧(∀ i,i<m→a[i]?=b[i]?)∧(m=n∨a[m]?≠b[m]?)
theorem aEt(a b:List ByteArray):∀ n,∃ m,aUL a b m n
 | 0=>⟨0,A8 _,fun i hi=>by omega,.inl rfl⟩
 | n+1=>by
   obtain⟨m,h1,h2,h3⟩:=aEt a b n;rcases h3 with rfl|h3
   ·by_cases h:a[m]?=b[m]?
    ·exact⟨m+1,A8 _,fun i hi=>by
      by_cases hi2:i=m;·rw[hi2];exact h
      ·exact h2 i AM,.inl rfl⟩
    ·exact⟨m,by omega,h2,.inr h⟩
   ·exact⟨m,by omega,h2,.inr h3⟩
theorem jJ(a b:ByteArray):aQ BinOp.neq a b=some (.bool (!decide (a=b))):=by
 show some (AV.bool (!(a.toList==b.toList)))=_;rw[aIV,aIV];congr 3;cases a with
 | mk x =>
   cases b with
   | mk y =>
     cases x with
     | mk x =>
       cases y with
       | mk y =>
         show (x==y)=decide ((⟨⟨x⟩⟩:ByteArray)=⟨⟨y⟩⟩);by_cases h:x=y;·subst h;simp
         ·have:¬((⟨⟨x⟩⟩:ByteArray)=⟨⟨y⟩⟩):=fun hh=>h (by injection hh with h1;injection h1)
          simp[h]
theorem aIY(l:List ByteArray)(b:ByteArray):fI l++[.str b]=fI (l++[b]):=by simp[fI]
theorem aJx(a b:List Nat):rE a++rE b=rE (a++b):=by
 unfold rE;rw[aOU];simp
theorem lU(s:ByteArray):(bN s).length=s.size:=by
 unfold bN;rw[A7,D4];rfl
theorem aUI(s:ByteArray):s.data.toList.map (fun b=>AV.int .u8 (b.toNat:Int))=bT (bN s):=by
 unfold bT bN;rw[aB4];rfl
end
section
open Go Go.DL
theorem aFL(a b:ByteArray):bN (a++b)=bN a++bN b:=by
 unfold bN;rw[M3,aD5,F6]
theorem aFK{l:List Nat}(h:Byt l):bN (rE l)=l:=by
 unfold bN rE;rw[aB4];apply J5;intro i;rw[A6];cases hx:l[i]? with
 | none=>rfl
 | some x =>
   have:=h i x hx;simp only[C3,Function.comp];rw[aE3,M5 this]
theorem aCf(s:ByteArray):rE (bN s)=s:=by
 unfold bN rE;rw[aB4];cases s with
 | mk d =>
   cases d with
   | mk l =>
     congr 2
     conv=>rhs;rw[←List.map_id l]
     apply N5;intro b _;simp
theorem aIJ(s:ByteArray)(a b:Nat):bN (mC s a b)=((bN s).drop a).take (b-a):=by
 unfold bN mC;simp only[aF2,aJ5]
def rwL(b:List Nat)(i:Nat):List Nat:=(b.drop (i*45)).take 45
def fdL(r:List Nat):List Nat:=(r.drop 4).take 40
def prL(f:List Nat):Bool:=f.all fun x=>decide (32≤x)&&decide (x≤126)
def okL(n:Nat)(r:List Nat):Bool:=prL (fdL r)&&decide (r=iS n (fdL r))
theorem aSh(s:ByteArray)(i:Nat):bN (rwS s i)=rwL (bN s) i:=by
 unfold rwS rwL;rw[aIJ];congr 1;omega
theorem aAH:∀ l:List UInt8,pL l = !prL (l.map UInt8.toNat)
 | []=>rfl
 | x::l=>by
   have ih:=aAH l;show (decide (x.toNat<32)||(decide (126<x.toNat)||pL l)) = !((decide (32≤x.toNat)&&decide (x.toNat≤126))&&prL (l.map UInt8.toNat));rw[ih,Bool.not_and,Bool.not_and,←decide_not,←decide_not];simp only[Nat.not_le,Bool.or_assoc]
theorem aQP{l:List Nat}(h:l.length=40):dH l=l:=by
 unfold dH;rw[B5 AM,h];simp
theorem aSi{s:ByteArray}(h:s.size=45):rdF s=fdL (bN s):=by
 unfold rdF txB fdL;rw[aIJ,aQP];simp[lU,h]
theorem aBF{n:Nat}{f:List Nat}(h:Byt f):Byt (iS n f):=by
 intro i x hx;unfold iS at hx;have hm:=A5 hx;have hc:vH n f<9973:=J4 _ (by decide);simp only[jW,A9,B3,G6,AAi]at hm;rcases hm with (h1|h1|h1|h1)|h1|h1;·omega
 ·omega
 ·omega
 ·omega
 ·obtain⟨j,hj⟩:=I0 h1
  exact h j x hj
 ·omega
theorem aRo{r:List Nat}(h:Byt r):Byt (fdL r):=by
 intro i x hx;unfold fdL at hx;rw[G9]at hx;split at hx;·rw[G8]at hx;exact h _ _ hx
 ·cases hx
theorem aHv(a b:ByteArray):(a.toList==b.toList)=decide (bN a=bN b):=by
 rw[aIV,aIV];by_cases h:bN a=bN b
 ·have:a=b:=by rw[←aCf a,←aCf b,h]
  subst this;simp
 ·have:¬a.data.toList=b.data.toList:=fun hh=>h (by unfold bN;rw[hh])
  rw[AAm h];exact beq_eq_false_iff_ne.2 this
theorem aRe{s:ByteArray}{n:Nat}(h:s.size=45):aDZ s n=okL n (bN s):=by
 unfold aDZ okL;have e1:bN (txB s)=fdL (bN s):=by unfold txB fdL;rw[aIJ]
 have e2:(txB s).data.toList.map UInt8.toNat=fdL (bN s):=e1;rw[aAH,e2,Bool.not_not,aHv,aSi h,aFK (aBF (aRo (wM s)))];congr 1;exact decide_eq_decide.2 ⟨fun h=>h.symm,fun h=>h.symm⟩
theorem aOf{s:ByteArray}{n i:Nat}(h:(i+1)*45≤s.size):gdS s n i=okL (n+i) (rwL (bN s) i):=by
 unfold gdS;rw[aRe (aBA h),aSh]
theorem aJO{C D:List Nat}{n k:Nat}(hC:C.length=n*40)(hk:k<n):eN (C++D) k=eN C k:=by
 have:(k+1)*40≤n*40:=C4 _ hk;unfold eN;rw[I9 AM,G1 (by simp;omega)]
theorem aGW{C f:List Nat}{n:Nat}(hC:C.length=n*40)(hf:f.length=40):eN (C++f) n=f:=by
 unfold eN;rw[aD2,H9 AM,hC,J8,G7,aC2,B5 AM]
theorem aPd{s:ByteArray}:∀{n k:Nat},k<n→n*45≤s.size→eN (FnS s n) k=fdL (rwL (bN s) k)
 | 0,_,h,_=>absurd h AM
 | n+1,k,h,hs=>by
   rw[FnS];by_cases hk:k<n
   ·rw[aJO (qI s n) hk]
    exact aPd hk AM
   ·have:k=n:=AM
    subst this;rw[aGW (qI s k) (aFc _),aSi (aBA hs),aSh]
theorem aHj{s:ByteArray}{n:Nat}:∀{k:Nat},(∀ i,i<k→gdS s n i=true)→yU s n k=0∧bdS s n k = -1
 | 0,_=>⟨rfl,rfl⟩
 | k+1,h=>by
   obtain⟨h1,h2⟩:=aHj (k:=k) fun i hi=>h i AM;have hk:=h k AM;rw[yU,bdS,hk];exact⟨h1,h2⟩
theorem aKb{s:ByteArray}{n r:Nat}(hr:gdS s n r=false):∀{k:Nat},(∀ i,i<k→i≠r→gdS s n i=true)→yU s n k=(if r<k then 1 else 0)∧bdS s n k=(if r<k then (r:Int) else -1)
 | 0,_=>⟨rfl,rfl⟩
 | k+1,h=>by
   obtain⟨h1,h2⟩:=aKb hr (k:=k) fun i hi=>h i AM;rw[yU,bdS];by_cases hk:k=r
   ·subst hk
    rw[hr,h1];simp
   ·rw[h k AM hk]
    have e1:(r<k+1)=(r<k):=by apply propext;omega
    simp only[e1,AAe];exact⟨h1,h2⟩
def aDu(C:List Nat)(j:Nat):Nat→Nat
 | 0=>0
 | k+1=>aDu C j k+iK ((eN C k).getD j 0)
theorem aIB{y:Nat}(h:y<95):iK (32+y)=y:=by unfold iK;omega
theorem aBV{t:Nat}:∀{f o:List Nat}{j x y:Nat},f[j]?=some x→o[j]?=some y→(eG t f o)[j]?=some (pv t x y)
 | [],_,_,_,_,h,_=>by simp at h
 | _::_,[],_,_,_,_,h=>by simp at h
 | a::f,b::o,0,x,y,h1,h2=>by
   simp only[D0,oSI]at h1 h2;subst h1 h2;rfl
 | a::f,b::o,j+1,x,y,h1,h2=>by
   simp only[E6]at h1 h2;rw[eG,E6];exact aBV h1 h2
theorem aJH{l:List Nat}{j:Nat}(h:j<l.length):l[j]?=some (l.getD j 0):=by
 rw[A1,A4 h];rfl
theorem aEG{C:List Nat}{n j:Nat}(hC:n*40≤C.length)(hj:j<40):∀{k},k≤n→(eK C k)[j]?=some (32+aDu C j k%95)
 | 0,_=>by
   have:eK C 0=List.replicate 40 32:=rfl;rw[this,M6,if_pos hj];rfl
 | k+1,hk=>by
   have ih:=aEG hC hj (k:=k) AM;have hf:=aJH (l:=eN C k) (j:=j) (by rw[qB hC AM];exact hj);rw[eK,aBV ih hf];unfold pv;rw[aDu,aIB (J4 _ (by decide))];congr 2;omega
theorem aEl{C D:List Nat}{j r:Nat}(hj:j<40)(hr:eN D r=dH []):∀{k},(∀ i,i<k→i≠r→eN C i=eN D i)→aDu C j k=aDu D j k+(if r<k then iK ((eN C r).getD j 0) else 0)
 | 0,_=>rfl
 | k+1,h=>by
   rw[aDu,aDu,aEl hj hr fun i hi=>h i AM];by_cases hk:k=r
   ·subst hk
    rw[if_neg AM,if_pos AM,hr];have:(dH []).getD j 0=32:=by
     have e:dH []=List.replicate 40 32:=rfl;rw[e,A1,M6,if_pos hj];rfl
    rw[this];have c0:iK 32=0:=rfl;omega
   ·rw[h k AM hk]
    by_cases hrk:r<k;·rw[if_pos hrk,if_pos AM];omega
    ·rw[if_neg hrk,if_neg AM];omega
theorem aHb{v x:Nat}:∀{f:List Nat}{i:Nat}(k:Nat),f[i]?=some x→rC k (f.set i v)+(k+i+1)*iK x=rC k f+(k+i+1)*iK v
 | [],_,_,h=>by simp at h
 | a::f,0,k,h=>by
   simp only[D0,oSI]at h;subst h;simp only[aG6,rC,J1];omega
 | a::f,i+1,k,h=>by
   simp only[E6]at h;have ih:=aHb (v:=v) (k+1) h;simp only[aG5,rC];rw[show k+1+i+1=k+(i+1)+1 by omega]at ih;omega
theorem aUz{n p q:Nat}{f g:List Nat}(h:rC 0 g+p=rC 0 f+q)(hne:p≠q)(hp:p≤9000)(hq:q≤9000):vH n g≠vH n f:=by
 unfold vH;omega
theorem aOx{a b:Nat}(ha:a<10000)(hb:b<10000)(h:jW a=jW b):a=b:=by
 unfold jW at h;simp only[aA3,AAj]at h;omega
theorem aOB(n:Nat)(f:List Nat):vH n f<9973:=J4 _ (by decide)
theorem aFd{f:List Nat}(h:prL f=true){i x:Nat}(hx:f[i]?=some x):32≤x∧x≤126:=by
 have:=C7.1 h x (A5 hx);simpa using this
theorem aIA{x:Nat}(h:32≤x∧x≤126):iK x=x-32:=by unfold iK;omega
theorem aBE{n:Nat}{f:List Nat}(h:f.length=40):(iS n f).length=45:=by simp[iS,jW,h]
theorem xN{n:Nat}{f:List Nat}(h:f.length=40):fdL (iS n f)=f:=by
 unfold fdL iS;rw[I9 (by simp[jW])];have:List.drop 4 (jW (vH n f))=[]:=rfl;rw[this,G7,G1 AM,B5 AM]
theorem aJg{n:Nat}{f:List Nat}:(iS n f).take 4=jW (vH n f):=rfl
theorem aJh{n:Nat}{f:List Nat}(h:f.length=40):(iS n f)[44]?=some 10:=by
 unfold iS;rw[B9 (by simp[jW]),B9 (by simp[jW,h])];simp[jW,h]
theorem aQn{n j:Nat}{f:List Nat}(h:f.length=40)(hj:j<40):(iS n f)[4+j]?=f[j]?:=by
 unfold iS;rw[B9 (by simp[jW]),F9 (by simp[jW];omega)];simp[jW]
theorem zI{n:Nat}{r:List Nat}(h:prL (fdL r)=true→r≠iS n (fdL r)):okL n r=false:=by
 unfold okL;cases hp:prL (fdL r)with
 | false=>rfl
 | true=>rw[AAm (h hp)];rfl
theorem aNw{n:Nat}{f:List Nat}(h:f.length=40)(hp:prL f=true):okL n (iS n f)=true:=by
 unfold okL;rw[xN h,hp,AAl rfl];rfl
theorem aUl{r:List Nat}{j v:Nat}:fdL (r.set (4+j) v)=(fdL r).set j v:=by
 unfold fdL;rw[aH4,if_neg AM,aF3,aH6]
theorem aKZ{r:List Nat}{j v:Nat}(hj:j<4):fdL (r.set j v)=fdL r:=by
 unfold fdL;rw[aH4,if_pos hj]
theorem aLa{r:List Nat}{j v:Nat}(hj:44≤j):fdL (r.set j v)=fdL r:=by
 unfold fdL;rw[aH4,if_neg AM,aF3,aD9 (by simp;omega)]
theorem aSX{r:List Nat}{j v:Nat}:(r.set (4+j) v).take 4=r.take 4:=by
 rw[aF3,aD9 (by simp;omega)]
theorem aQM{n:Nat}{f g:List Nat}{r:List Nat}(ht:r.take 4=jW (vH n f))(hf:fdL r=g)(hc:prL g=true→vH n g≠vH n f):okL n r=false:=by
 refine zI fun hp hr=>?_;rw[hf]at hp hr;have h1:(iS n g).take 4=jW (vH n g):=aJg;rw[←hr,ht]at h1;have l1:=aOB n f;have l2:=aOB n g;exact hc hp (aOx AM AM h1.symm)
theorem aQe{n j v x:Nat}{f:List Nat}(hf:f.length=40)(hp:prL f=true)(hj:j<45)(hx:(iS n f)[j]?=some x)(hv:v≠x):okL n ((iS n f).set j v)=false:=by
 by_cases h1:j<4
 ·refine zI fun _ hr=>?_
  rw[aKZ h1,xN hf]at hr;have:=AAt (fun l=>l[j]?) hr;simp only[aH7 ,hx]at this;simp at this;exact hv this
 ·by_cases h2:j<44
  ·obtain⟨i,rfl⟩:∃ i,j=4+i:=⟨j-4,by omega⟩
   rw[aQn hf AM]at hx;refine aQM (f:=f) (g:=f.set i v) (by rw[aSX];exact aJg) (by rw[aUl,xN hf]) fun hg=>?_;have px:=aIA (aFd hp hx);have hi:i<f.length:=(A2.1 hx).1;have hvp:=aFd hg (show (f.set i v)[i]?=some v by rw[O7 hi]);have pv:=aIA hvp;have rx:=aFd hp hx;have hs:=aHb (v:=v) 0 hx;have m1:(0+i+1)*iK x≤40*94:=P9 AM AM;have m2:(0+i+1)*iK v≤40*94:=P9 AM AM;refine aUz hs (fun hh=>?_) AM AM;have:=Nat.eq_of_mul_eq_mul_left AM hh;omega
  ·have h3:j=44:=AM
   subst h3;rw[aJh hf]at hx;refine zI fun _ hr=>?_;rw[aLa AM,xN hf]at hr;have:=AAt (fun l=>l[44]?) hr;simp only[aH7,aJh hf]at this;simp at this;simp only[oSI]at hx;omega
theorem aTo{b:List Nat}{r j:Nat}(hj:j<45):(rwL b r)[j]?=b[r*45+j]?:=by
 unfold rwL;rw[G9,if_pos hj,G8]
theorem aJf{b:List Nat}{r j v:Nat}(hj:j<45)(i:Nat):rwL (b.set (r*45+j) v) i=if i=r then (rwL b r).set j v else rwL b i:=by
 unfold rwL;rw[aH4];by_cases h1:i=r
 ·subst h1
  rw[if_neg AM,if_pos rfl,aF3,aH6]
 ·rw[if_neg h1]
  by_cases h2:r<i
  ·have:(r+1)*45≤i*45:=C4 _ h2
   rw[if_pos AM]
  ·have:(i+1)*45≤r*45:=C4 _ AM
   rw[if_neg AM,aF3,aD9 (by rw[G5];omega)]
theorem aQd{b:List Nat}{i v:Nat}(hb:Byt b)(hv:v<256):Byt (b.set i v):=by
 intro j x hx;rw[aH0]at hx;split at hx
 ·split at hx
  ·simp only[oSI]at hx;omega
  ·cases hx
 ·exact hb j x hx
def pgL:Nat→List (List Nat)→List Nat
 | _,[]=>[]
 | n,f::F=>iS n f++pgL (n+1) F
theorem aQI{F:List (List Nat)}(h:∀ f∈F,f.length=40)(n:Nat):(pgL n F).length=F.length*45:=by
 induction F generalizing n with
 | nil=>rfl
 | cons f F ih =>
   rw[pgL,B6,aBE (h f (by simp)),ih (fun g hg=>h g (by simp[hg])),C8];omega
theorem aTF{F:List (List Nat)}(h:∀ f∈F,f.length=40){n i:Nat}{f:List Nat}(hi:F[i]?=some f):rwL (pgL n F) i=iS (n+i) f:=by
 induction F generalizing n i with
 | nil=>simp at hi
 | cons g F ih =>
   have lg:=aBE (n:=n) (h g (by simp));cases i with
   | zero =>
     simp only[D0,oSI]at hi;subst hi;unfold rwL;rw[pgL,aI1,aC2,G1 AM,B5 AM,J1]
   | succ i =>
     simp only[E6]at hi;have:=ih (fun g hg=>h g (by simp[hg])) (n:=n+1) hi;unfold rwL at this ⊢;rw[pgL,aD2,H9 AM,G7,lg,show (i+1)*45-45=i*45 by omega,this];congr 1;omega
theorem aBX{f:List Nat}:∀{F:List (List Nat)}{n:Nat},pgL n (F++[f])=pgL n F++iS (n+F.length) f
 | [],n=>by simp[pgL]
 | g::F,n=>by
   rw[J9,pgL,aBX,pgL,M7,C8];congr 3;omega
theorem aSD{ls:List ByteArray}{row:Nat}:∀{i},i≤ls.length→bN (Bn ls row i)=pgL row ((ls.take i).map vW)
 | 0,_=>rfl
 | i+1,h=>by
   obtain⟨s,hs⟩:=gF (l:=ls) (i:=i) AM;rw[aUT hs,aFL,aSD AM,I7,hs,F6];show _=pgL row ((ls.take i).map vW++[vW s]);rw[aBX,A7,G5,aA5 AM];unfold rwB;rw[aFK (aBF (aFq s))]
def kJ(ls:List ByteArray):List (List Nat):=ls.map vW++[eK (Cn ls ls.length) ls.length]
theorem aSC{ls:List ByteArray}{row:Nat}:bN (pgB ls row)=pgL row (kJ ls):=by
 unfold pgB kJ;rw[aFL,aSD (A8 _),B5 (A8 _),aBX,A7];unfold rwB;rw[aFK (aBF (tR _))]
theorem aNI{s:ByteArray}(h:zO s=0):s.size≤40∧s.size≠0∧pL s.data.toList=false∧Lib.hasSuffix s.data.toList [32]=false:=by
 unfold zO at h;split at h;·exact absurd h (by decide)
 ·rename_i h1
  split at h;·exact absurd h (by decide)
  ·rename_i h2
   simp only[M4,not_or,Bool.not_eq_true,AAf]at h2;exact⟨by omega,h2.1,h2.2.1,h2.2.2⟩
theorem aQY{s:ByteArray}(h:zO s=0):prL (bN s)=true:=by
 have h1:=(aNI h).2.2.1;rw[aAH]at h1;have:prL (s.data.toList.map UInt8.toNat)=true:=by
  cases hx:prL (s.data.toList.map UInt8.toNat)with
  | true=>rfl
  | false=>rw[hx]at h1;cases h1
 exact this
theorem aQO{l:List Nat}(h:prL l=true):prL (dH l)=true:=by
 unfold dH prL at *;rw[aB8,A3];refine⟨C7.2 fun x hx=>C7.1 h x (I1 hx),C7.2 fun x hx=>?_⟩;rw[List.eq_of_mem_replicate hx];rfl
theorem aTS{s:ByteArray}(h:zO s=0):prL (vW s)=true:=aQO (aQY h)
theorem aUJ(s:ByteArray):(bN s).map UInt8.ofNat=s.data.toList:=by
 have:=aCf s;unfold rE at this;have h:=AAt (fun x=>x.data.toList) this;exact h
theorem aQX{s:ByteArray}(h:zO s=0):lnB (vW s)=s:=by
 obtain⟨h1,h2,_,h3⟩:=aNI h;have hl:s.data.toList.length=s.size:=by rw[D4];rfl
 unfold lnB vW dH;have e:(List.take 40 (bN s)++List.replicate (40-(bN s).length) 32).map UInt8.ofNat=s.data.toList++List.replicate (40-s.size) 32:=by
  rw[B5 (by rw[lU];omega),F6,aUJ,lU,List.map_replicate];rfl
 rw[e,Lib.trimRightB_take _ _ s.size (by rw[B6,hl];omega)];·rw[G1 AM,B5 AM]
 ·intro j b hj hb
  rw[B9 AM]at hb;rw[M6]at hb;split at hb;·simp only[oSI]at hb;exact hb.symm
  ·cases hb
 ·intro b hk hb hb32
  subst hb32;rw[F9 AM]at hb;have:Lib.hasSuffix s.data.toList [32]=true:=by
   unfold Lib.hasSuffix;rw[aG8];refine⟨s.data.toList.take (s.size-1),?_⟩;obtain⟨k1,k2⟩:=A2.1 hb;have hd:=aD3 k1;have hd2:s.data.toList.drop (s.size-1+1)=[]:=H9 AM;rw[k2,hd2]at hd;rw[←hd,List.take_append_drop]
  rw[this]at h3;cases h3
theorem aTj{C:List Nat}{n k:Nat}(hC:n*40≤C.length)(hk:k≤n):prL (eK C k)=true:=by
 refine C7.2 fun x hx=>?_;obtain⟨j,hj⟩:=I0 hx;have lj:j<(eK C k).length:=(A2.1 hj).1;rw[fD hC k hk]at lj;rw[aEG hC lj hk]at hj;simp only[oSI]at hj;have:=J4 (aDu C j k) (show 0<95 by decide);simp;omega
theorem aMl{C D:List Nat}:∀{k},(∀ i,i<k→eN C i=eN D i)→eK C k=eK D k
 | 0,_=>rfl
 | k+1,h=>by rw[eK,eK,aMl fun i hi=>h i AM,h k AM]
theorem aIr{ls:List ByteArray}:∀{n i:Nat}{s:ByteArray},n≤ls.length→i<n→ls[i]?=some s→eN (Cn ls n) i=vW s
 | 0,_,_,_,h,_=>absurd h AM
 | n+1,i,s,hn,h,hs=>by
   obtain⟨u,hu⟩:=gF (l:=ls) (i:=n) AM;rw[aRL hu];by_cases hi:i<n
   ·rw[aJO (nL AM) hi]
    exact aIr AM hi hs
   ·have:i=n:=AM
    subst this;rw[hs]at hu;cases hu;exact aGW (nL AM) (uC s)
theorem aJN{C f:List Nat}{n k:Nat}(hC:C.length=n*40)(hk:k<n)(hf:f.length=40){i:Nat}(hi:i<n):eN (setC C k f) i=if i=k then f else eN C i:=by
 have h1:(k+1)*40≤n*40:=C4 _ hk;have h2:(i+1)*40≤n*40:=C4 _ hi;unfold eN setC;by_cases h:i=k
 ·subst h
  rw[if_pos rfl,aD2,H9 (by simp;omega),G7,G5,aA5 AM,J8,aC2,G1 AM,B5 AM]
 ·rw[if_neg h]
  by_cases hlt:i<k
  ·have h3:(i+1)*40≤k*40:=C4 _ hlt
   rw[I9 (by simp;omega),G1 (by simp;omega),List.drop_take,List.take_take,aA5 AM]
  ·have h3:(k+1)*40≤i*40:=C4 _ AM
   rw[aD2,H9 (by simp;omega),G7,G5,aA5 AM,aD2,H9 AM,G7,hf,List.drop_drop];congr 2;omega
section
variable{ls:List ByteArray}{n:Nat}{s:ByteArray}
def lst(ls:List ByteArray):List Nat:=eK (Cn ls ls.length) ls.length
theorem aRm{i:Nat}{l:ByteArray}(h:ls[i]?=some l):(kJ ls)[i]?=some (vW l):=by
 have hi:i<ls.length:=(A2.1 h).1;unfold kJ;rw[F9 (by simpa using hi),A6,h];rfl
theorem aKY:(kJ ls)[ls.length]?=some (lst ls):=by
 unfold kJ;rw[B9 (by simp)];simp[lst]
theorem aQT:(lst ls).length=40:=fD (n:=ls.length) (by rw[nL (A8 _)];exact A8 _) _ (A8 _)
theorem aTO:prL (lst ls)=true:=aTj (n:=ls.length) (by rw[nL (A8 _)];exact A8 _) (A8 _)
theorem sT:∀ f∈kJ ls,f.length=40:=by
 intro f hf;unfold kJ at hf;rcases A9.1 hf with h|h
 ·obtain⟨x,_,rfl⟩:=D6.1 h
  exact uC x
 ·simp only[B2]at h
  rw[h];exact aQT
theorem aFy(gl:∀ l∈ls,zO l=0):∀ f∈kJ ls,prL f=true:=by
 intro f hf;unfold kJ at hf;rcases A9.1 hf with h|h
 ·obtain⟨x,hx,rfl⟩:=D6.1 h
  exact aTS (gl x hx)
 ·simp only[B2]at h
  rw[h];exact aTO
theorem aIo:(kJ ls).length=ls.length+1:=by simp[kJ]
def rwO(ls:List ByteArray)(n i:Nat):List Nat:=iS (n+i) ((kJ ls).getD i [])
theorem zV{i:Nat}(hi:i≤ls.length):(kJ ls).getD i []∈kJ ls:=by
 rw[A1,A4 (by rw[aIo];omega)];exact aC8 _
theorem aIp{i:Nat}{l:ByteArray}(h:ls[i]?=some l):(kJ ls).getD i []=vW l:=by rw[A1,aRm h];rfl
theorem aOj:(kJ ls).getD ls.length []=lst ls:=by rw[A1,aKY];rfl
theorem aTn{i:Nat}(hi:i≤ls.length):fdL (rwO ls n i)=(kJ ls).getD i []:=xN (sT _ (zV hi))
theorem aMF(gl:∀ l∈ls,zO l=0){i:Nat}(hi:i≤ls.length):okL (n+i) (rwO ls n i)=true:=aNw (sT _ (zV hi)) (aFy gl _ (zV hi))
theorem aES{i:Nat}(hi:i≤ls.length):rwL (bN (pgB ls n)) i=rwO ls n i:=by
 rw[aSC];unfold rwO;have:(kJ ls)[i]?=some ((kJ ls).getD i []):=by
  rw[A1,A4 (by rw[aIo];omega)];rfl
 exact aTF sT this
theorem aJt:(pgB ls n).size=(ls.length+1)*45:=by
 rw[←lU,aSC,aQI sT,aIo]

theorem aNA(h1:1≤ls.length)(h5:ls.length≤5)(hn:n≤1000)(hz:s.size=(ls.length+1)*45) :
 mnV s (n:Int)=rA (FnS s (ls.length+1)) ls.length (bdS s n (ls.length+1)) (yU s n (ls.length+1)):=by
 have e1:s.size%45=0:=AM
 have e2:s.size/45=ls.length+1:=AM
 have hb:(decide ((0:Int)≤(n:Int))&&decide ((n:Int)≤1000))=true:=by simp;omega
 unfold mnV;rw[if_pos hb,e1,e2,if_neg AM,if_neg AM];rfl
theorem aSy(hz:s.size=(ls.length+1)*45){i:Nat}(hi:i≤ls.length)(hr:rwL (bN s) i=rwO ls n i):eN (FnS s (ls.length+1)) i=(kJ ls).getD i []:=by
 rw[aPd AM AM,hr,aTn hi]
theorem aTR(gl:∀ l∈ls,zO l=0){C:List Nat}(h:∀ i,i<ls.length→eN C i=(kJ ls).getD i []):lns C ls.length=ls:=by
 unfold lns;apply J5;intro i;rw[A6];by_cases hi:i<ls.length
 ·obtain⟨l,hl⟩:=gF hi
  rw[O6 hi,C3,h i hi,aIp hl,aQX (gl l (A5 hl)),hl]
 ·rw[D5 (by simpa using hi),D5 AM];rfl
theorem aHS(gl:∀ l∈ls,zO l=0){C:List Nat}{md:Nat}(h:∀ i,i<ls.length→eN C i=(kJ ls).getD i []):aBZ C ls.length md = .tup [.fs (rS ls),I (md:Nat),I 0]:=by
 unfold aBZ;rw[aTR gl h];have hc:Lib.containsS ls emB=false:=by
  cases hx:Lib.containsS ls emB with
  | false=>rfl
  | true =>
    have:=(Lib.containsS_iff ls emB).1 hx;exact absurd rfl (aNI (gl _ this)).2.1
 rw[hc];rfl
theorem aMk{C:List Nat}(h:∀ i,i<ls.length→eN C i=(kJ ls).getD i []):eK C ls.length=lst ls:=by
 unfold lst;refine aMl fun i hi=>?_;obtain⟨l,hl⟩:=gF hi;rw[h i hi,aIp hl,aIr (A8 _) hi hl]
theorem aQR(gl:∀ l∈ls,zO l=0)(h1:1≤ls.length)(h5:ls.length≤5)(hn:n≤1000)(hz:s.size=(ls.length+1)*45)(h:∀ i,i≤ls.length→rwL (bN s) i=rwO ls n i) :
 mnV s (n:Int) = .tup [.fs (rS ls),I 0,I 0]:=by
 rw[aNA h1 h5 hn hz];obtain⟨e1,e2⟩:=aHj (s:=s) (n:=n) (k:=ls.length+1) fun i hi=>by
  have:(i+1)*45≤(ls.length+1)*45:=C4 _ hi;rw[aOf AM,h i AM,aMF gl AM]
 have hf:∀ i,i≤ls.length→eN (FnS s (ls.length+1)) i=(kJ ls).getD i []:=fun i hi=>aSy hz hi (h i hi);unfold rA;rw[e1,e2,if_neg AM,if_neg,if_neg AM,aHS gl fun i hi=>hf i AM];·rfl
 ·rw[aMk fun i hi=>hf i AM,hf _ (A8 _),aOj]
  exact fun hh=>hh.2 rfl
theorem aUj{C:List Nat}{m r:Nat}{D:List Nat}(hC:C.length=(m+1)*40)(hr:r<m)(hD:D.length=m*40)(hpr:prL (eN D r)=true)(hsum:eN C m=eK D m)
 (he:∀ i,i<m→i≠r→eN C i=eN D i):∀ i,i<m→eN (aIq C m r) i=eN D i:=by
 intro i hi;have n40:=iI [];have l1:=rK (k:=r) hC AM n40;have hfix:∀ i,i<m+1→eN (setC C r (dH [])) i=if i=r then dH [] else eN C i:=fun i hi=>aJN hC AM n40 hi
 unfold aIq;have e1:eN (setC C r (dH [])) m=eK D m:=by rw[hfix m AM,if_neg AM,hsum]
 rw[e1];have s1:=fD (C:=D) (n:=m) AM m (A8 _);have s2:=fD (C:=setC C r (dH [])) (n:=m) AM m (A8 _);have lp:=mH (t:=94) (l:=eK D m) (m:=eK (setC C r (dH [])) m) (by rw[s1,s2]);rw[s1]at lp;rw[aJN l1 AM lp AM];by_cases hir:i=r
 ·subst hir
  rw[if_pos rfl];have lf:=qB (C:=D) (n:=m) (k:=i) AM hi;apply J5;intro j;by_cases hj:j<40
  ·have a1:=aEG (C:=D) (n:=m) (j:=j) AM hj (A8 m)
   have a2:=aEG (C:=setC C i (dH [])) (n:=m) (j:=j) AM hj (A8 m);rw[aBV a1 a2];have hx:=aJH (l:=eN D i) (j:=j) AM;rw[hx];have hcol:=aEl (C:=D) (D:=setC C i (dH [])) (j:=j) (r:=i) hj (by rw[hfix i AM,if_pos rfl]) (k:=m) fun q hq hqi=>by rw[hfix q AM,if_neg hqi,he q hq hqi]
   rw[if_pos hi]at hcol;generalize (eN D i).getD j 0=x at *;have px:=aFd hpr hx;have cx:=aIA px;have m1:=J4 (aDu D j m) (show 0<95 by decide);have m2:=J4 (aDu (setC C i (dH [])) j m) (show 0<95 by decide);congr 1;unfold pv;rw[aIB m1,aIB m2];omega
  ·rw[D5 AM,D5 AM]
 ·rw[if_neg hir,hfix i AM,if_neg hir,he i hi hir]
theorem aTM(gl:∀ l∈ls,zO l=0)(h1:1≤ls.length)(h5:ls.length≤5)(hn:n≤1000)(hz:s.size=(ls.length+1)*45){r:Nat}(hr:r≤ls.length)
 (h:∀ i,i≤ls.length→i≠r→rwL (bN s) i=rwO ls n i) (hbad:okL (n+r) (rwL (bN s) r)=false):mnV s (n:Int) = .tup [.fs (rS ls),I 1,I 0]:=by
 rw[aNA h1 h5 hn hz];have l1:(r+1)*45≤(ls.length+1)*45:=C4 _ AM;obtain⟨e1,e2⟩:=aKb (s:=s) (n:=n) (r:=r) (by rw[aOf AM,hbad]) (k:=ls.length+1) fun i hi hne=>by
  have:(i+1)*45≤(ls.length+1)*45:=C4 _ hi;rw[aOf AM,h i AM hne,aMF gl AM]
 rw[if_pos AM]at e1 e2;have hf:∀ i,i≤ls.length→i≠r→eN (FnS s (ls.length+1)) i=(kJ ls).getD i []:=fun i hi hne=>aSy hz hi (h i hi hne);have hC:=qI s (ls.length+1);generalize FnS s (ls.length+1)=C at *;unfold rA;rw[e1,e2,if_neg AM,if_neg AM];by_cases hrl:r=ls.length
 ·subst hrl
  rw[if_neg AM,aHS gl fun i hi=>hf i AM AM];rfl
 ·have hlt:r<ls.length:=AM
  rw[if_pos AM];have ht:((r:Int)).toNat=r:=rfl;rw[ht];have hD:(Cn ls ls.length).length=ls.length*40:=nL (A8 _);have hCn:∀ i,i<ls.length→eN (Cn ls ls.length) i=(kJ ls).getD i []:=fun i hi=>by
   obtain⟨l,hl⟩:=gF hi;rw[aIr (A8 _) hi hl,aIp hl]
  have key:=aUj (C:=C) (m:=ls.length) (r:=r) (D:=Cn ls ls.length) hC hlt hD (by rw[hCn r hlt];exact aFy gl _ (zV hr)) (by rw[hf _ (A8 _) AM,aOj];rfl)
   fun i hi hne=>by rw[hf i AM hne,hCn i hi]
  rw[aHS gl fun i hi=>by rw[key i hi,hCn i hi]];rfl
end
theorem aTT{s:ByteArray}{f:List Nat}{x:Nat}(hs:bN s=f++[x])(hl:f.length≤39)(hp:prL f=true)(hx:33≤x∧x≤126):zO s=0:=by
 have hz:s.size=f.length+1:=by rw[←lU,hs];simp
 have hpr:prL (bN s)=true:=by
  rw[hs];unfold prL at *;rw[aB8,hp];simp;omega
 have hu:pL s.data.toList=false:=by
  rw[aAH];have:prL (s.data.toList.map UInt8.toNat)=true:=hpr;rw[this];rfl
 have hh:Lib.hasSuffix s.data.toList [32]=false:=by
  cases h:Lib.hasSuffix s.data.toList [32]with
  | false=>rfl
  | true =>
    unfold Lib.hasSuffix at h;rw[aG8]at h;obtain⟨t,ht⟩:=h;have:bN s=t.map UInt8.toNat++[32]:=by unfold bN;rw[←ht];simp
    rw[hs]at this;have h2:=List.append_inj_right' this rfl;simp only[aA3,AAj]at h2;omega
 unfold zO;rw[if_neg AM,hu,hh,AAm AM];rfl
section
variable{ls:List ByteArray}{n:Nat}
theorem aQQ(gl:∀ l∈ls,zO l=0)(h1:1≤ls.length)(h5:ls.length≤5)(hn:n≤1000):mnV (pgB ls n) (n:Int) = .tup [.fs (rS ls),I 0,I 0] :=
 aQR gl h1 h5 hn aJt fun i hi=>aES hi
end
end
section
open Go Go.DL
theorem tQ(a b:ByteArray):aQ BinOp.eql a b=some (.bool (decide (a=b))):=by
 have:=jJ a b;rw[show aQ BinOp.neq a b=some (AV.bool (!(a.toList==b.toList))) from rfl]at this;rw[aGa];simp only[oSI,AV.bool.injEq,Bool.not_inj_iff]at this;rw[this]
end
section
open Go Go.DL Go.ChangeShapes Go.WideShapes Go.ChangeAt Go.RowKit
theorem aBL{H:Type}{enc:TypeId×Value→H}{a:Assume}{C:Checked}{os:Os}{f:FuncId}{fn:Func}{s:ChangeSpec}{X:World→Array Value→Prop}
 (hX:∀(w w':World)(args:Array Value),w.heap=w'.heap→X w args→X w' args)
 (own:ownKnob C.prog.godebug=none) (started:os.Started) (noInit:C.prog.inits.idxOf? f=none) (hfn:C.prog.funcs[f]?=some fn)
 (witness:∃(w:World)(tape:Tape)(i:Input),w.os=os∧(w.forCall tape i).Shaped C.prog∧i.vars=[]∧Input.okWide C.prog (w.forCall tape i) .any w.heap.size f i ∧
  ((s.pre enc C.prog fn [] false (w.forCall tape i).memory i.args∧X (w.forCall tape i).memory i.args)∧sizedMet enc C.prog fn (OpenSpec.ofChange s) false (w.forCall tape i).memory i.args)∧a.holds C.prog (lone (Frame.enter C.prog f i.args .normal) [] (w.forCall tape i)))
 (contract:∀(W:World)(base:Nat)(args:Array Value)(ds gs:List (DataW H))(before:List MemPlace),
  (∀(j:Nat) t v,fn.params[j]?=some t→args[j]?=some v→Value.okWide C.prog W .any base t v) →
  DataW.Whole enc C.prog fn.params.toList s.vars false W args.toList ds gs before→X W args→W.ShapedOpen C.prog →
  Calls C.prog f args W fun e W'=>∃ v,e = .returned v∧s.post enc C.prog fn false true false false W args v W') :
 ReturnsInHanded a C os f .any (fun w args=>(s.pre enc C.prog fn [] false w args∧X w args)∧sizedMet enc C.prog fn (OpenSpec.ofChange s) false w args) (s.post enc C.prog fn false true false false):=by
 refine returnsInHanded_of_calls own started noInit witness ?_;rintro w tape i _ hsh _ ⟨_,_,_,fn',hfn',_,_,_,_,hval⟩ ⟨⟨⟨ds,gs,before,hw,_⟩,hx⟩,_⟩ _;cases hfn'.symm.trans hfn;exact(contract _ _ _ ds gs before hval (DataW.Whole.of_heap (by rfl) hw) (hX _ _ _ (by rfl) hx) hsh).mono fun e W' ⟨v,he,hp⟩=>by
  subst he;exact ChangeSpec.post_blind hp
theorem aXX:Flat Tryz.prog 5 [.int .u8]:=.int Tryz.underlying5
theorem aTX{k:IntKind}{a:AV}(h:Sh (.int k) a):∃ n,a = .int k n∧(Lit.int k n).wf=true:=by cases h;exact⟨_,rfl,by assumption⟩
theorem aFX{n:Int}(h:(Lit.int .u8 n).wf=true):∃ m:Nat,n=(m:Int)∧m<256:=by
 simp[Lit.wf,IntKind.bits,IntKind.signed,IntKind.min,IntKind.max]at h;exact⟨n.toNat,by omega,by omega⟩
theorem aSV{n:Int}(h:(Lit.int .u16 n).wf=true):∃ m:Nat,n=(m:Int)∧m<65536:=by
 simp[Lit.wf,IntKind.bits,IntKind.signed,IntKind.min,IntKind.max]at h;exact⟨n.toNat,by omega,by omega⟩
theorem aGk{α:Type}{f:α→List AV}{r:List CT}(key:∀ row:List AV,row.length=r.length→(∀(i:Nat)(c:CT)(a:AV),r[i]?=some c→row[i]?=some a→Sh c a)→∃ x,row=f x):∀{rows:List (List AV)},(∀ row∈rows,row.length=r.length) →
 (∀ row∈rows,∀(i:Nat)(c:CT)(a:AV),r[i]?=some c→row[i]?=some a→Sh c a)→∃ l:List α,rows=l.map f
 | [],_,_=>⟨[],rfl⟩
 | a::rows,h1,h2=>by
   obtain⟨l,rfl⟩:=aGk key (rows:=rows) (fun row hr=>h1 row (by simp[hr])) (fun row hr=>h2 row (by simp[hr]));obtain⟨x,rfl⟩:=key a (h1 a (by simp)) (h2 a (by simp));exact⟨x::l,rfl⟩
theorem aSg{α:Type}{f:α→List AV}{r:List CT}(key:∀ row:List AV,row.length=r.length→(∀(i:Nat)(c:CT)(a:AV),r[i]?=some c→row[i]?=some a→Sh c a)→∃ x,row=f x){a:AV}(h:Sh (.sl r) a):∃ l:List α,a = .fs (l.map f)∧l.length≤maxLen:=by
 cases h with
 | sl _ rows h1 hn h2 =>
   obtain⟨l,rfl⟩:=aGk key h1 h2;exact⟨l,rfl,by simpa using hn⟩
theorem aOV{F:Nat→Prop}{w:World}:Args F w [] #[]:=⟨rfl,fun i a' v' h1 h2=>by simp at h1⟩
theorem uM{F:Nat→Prop}{w:World}{a:AV}{v:Value}{xs:List AV}{vs:List Value}(h:Rv F w a v)(hs:Args F w xs vs.toArray):Args F w (a::xs) (v::vs).toArray:=by
 refine⟨by have:=hs.1;simp at this ⊢;exact this,fun i a' v' h1 h2=>?_⟩;match i with
 | 0=>simp at h1 h2;rw[←h1,←h2];exact h
 | i+1 =>
   simp at h1 h2;exact hs.2 i a' v' h1 (by simpa using h2)
end
section
open Go Go.DL
abbrev uS(B:List ByteArray):Option XB:=some (.blk true (.cells false (fI B)))
def lSs(i:Nat):AV:=if i=0 then .nilsl else .sl 3 0 40 i
def lGs(B ls:List ByteArray)(row i:Nat):XH:=if i=0 then [uS B,some (.blk true (.cells true [.nilpt,.nilsl]))] else
 [uS B,some (.blk false (.cells true [.pt 1 0,.sb 2 (Bn ls row i).size])),some (.blk true (.cells true (dU (Bn ls row i)))),some (.blk true (.cells true (bT (Cn ls i))))]
theorem aYE{B ls:List ByteArray}{row o:Nat}(hB:∀ i s,ls[i]?=some s→(fI B)[o+i]?=some (.str s))(h0:1≤ls.length)(h1:ls.length≤1000)(hr:row≤10000):runW aB 38 [.sl 0 o 1 ls.length,I (row:Int)] [uS B]=some (.str (Bn ls row ls.length++rwB (row+ls.length) (eK (Cn ls ls.length) ls.length)),[uS B]):=by
 rw[qX 38 x38 rfl];unfold x38;dsimp only;have gB:=eJ B;have l0:(bT (nf 0)).length=40:=by rw[aN];exact eD AM
 have gz:=bL (nf 0);sym =>
  simp[Za,Zb,Zf,Zh,Zl,Zm,Zv,ZR,Yw,WY,Ve,V9,UT,Tc,Tf,Tg,Tl,Tm,TJ,TK,S9,SD,SE,SM,SN,QD]
  tactic =>
   rw[aSG];unfold aRN;rw[aS ls.length (fun i=>[I (row:Int),.bp 1,lSs i,.sl 0 o 1 ls.length,I (ls.length:Nat),I (i:Nat)]) (fun i=>lGs B ls row i)]
   ·have hn0:¬ls.length=0:=AM
    have e0:((ls.length:Int)<(ls.length:Int))=False:=AAb;have s0:lSs ls.length = .sl 3 0 40 ls.length:=if_neg hn0;have g0:lGs B ls row ls.length=[uS B,some (.blk false (.cells true [.pt 1 0,.sb 2 (Bn ls row ls.length).size])),some (.blk true (.cells true (dU (Bn ls row ls.length)))),some (.blk true (.cells true (bT (Cn ls ls.length))))]:=if_neg hn0;have bz:=aAW ls row ls.length;have lc:=nL (ls:=ls) (A8 _);have c1:=aYD (C:=Cn ls ls.length) (n:=ls.length) AM (aUS ls _) h1;have l3:=fD (C:=Cn ls ls.length) (n:=ls.length) AM ls.length (A8 _);have b3:=tR (C:=Cn ls ls.length) ls.length;have c2:=w77 (row:=row+ls.length) l3 b3 AM;have zs:=xH (row:=row+ls.length) l3;have nr:rE (iS (row+ls.length) (eK (Cn ls ls.length) ls.length))=rwB (row+ls.length) (eK (Cn ls ls.length) ls.length):=rfl;rw[nr]at c2;rw[bM]at c1 c2;have c3:=aSQ (s:=rwB (row+ls.length) (eK (Cn ls ls.length) ls.length)) (a:=Bn ls row ls.length) AM AM AM;rw[zs]at c3;have sz:(Bn ls row ls.length++rwB (row+ls.length) (eK (Cn ls ls.length) ls.length)).size=(Bn ls row ls.length).size+45:=by rw[E8,zs]
    have c4:=w71 (a:=Bn ls row ls.length++rwB (row+ls.length) (eK (Cn ls ls.length) ls.length)) AM AM;rw[sz]at c4;have r1:IntKind.i64.wrap ((row:Int)+(ls.length:Int))=((row+ls.length:Nat):Int):=by rw[aI AM AM];omega
    have m1:=aN (eK (Cn ls ls.length) ls.length);rw[l3]at m1;have k5:=gO l3;have k6:=jY l3;have g5:=bL (eK (Cn ls ls.length) ls.length);have gc:=bL (Cn ls ls.length);have fz:(ls.length*40≤(bT (Cn ls ls.length)).length)=True:=AAp (by rw[aN,lc];exact A8 _);have fl:=(aYe (C:=Cn ls ls.length) (n:=ls.length) AM).1;generalize Bn ls row ls.length++rwB (row+ls.length) (eK (Cn ls ls.length) ls.length)=T at *;generalize rwB (row+ls.length) (eK (Cn ls ls.length) ls.length)=R at *;generalize eK (Cn ls ls.length) ls.length=f at *;generalize (Bn ls row ls.length).size=sz at *;generalize Bn ls row ls.length=B0 at *;generalize Cn ls ls.length=C0 at *;(sym=>(simp[Za,Zb,Zf,Zg,Zh,Zj,Zl,Zm,Zv,ZA,ZR,Ye,Yh,Ym,Yn,Yv,Y7,YG,Xz,XJ,XL,XN,XW,Wm,Wu,Ww,Wx,Wy,Wz,W4,WB,WG,WK,WR,WV,WW,Va,Vd,V1,V4,V7,V8,VA,VB,VC,VD,VF,VH,VI,VK,VL,VM,VN,VO,VP,VQ,VR,VT,VU,VV,VW,VX,VY,VZ,Uc,Ud,Ue,Ug,Uh,Ui,Uj,Ur,Us,Ut,Uu,Uv,Uw,Ux,Uy,U9,UA,UB,UE,UF,UH,UI,UJ,UK,UL,UO,UP,UQ,UR,UU,UX,UZ,Td,Te,Tf,Tg,Th,Ti,Tj,Tl,Tm,Tq,Tt,Tv,T0,T2,T3,T5,T8,T9,TA,TB,TC,TD,TE,TH,TI,Sm,S7,S9,SA,SC,SE,SF,SK,SM,SN,Rq,Qh,Qj,Ql,Qt,Qw,Qx,Qz,Q0,QA,QB,QI,QJ,QK,QL,QN,QO,QQ,QR,QS,QX,QY,QZ,Pa,s0,g0,e0,fz,fl,c1,c2,c3,c4,r1,m1,k5,k6,g5,gc,zs,cN,cH,cG,cO,dO,eA,eC,bX,bV,bW,gB];all_goals tactic=>exact rfl))
   ·have s0:lSs 0 = .nilsl:=rfl
    have g0:lGs B ls row 0=[uS B,some (.blk true (.cells true [.nilpt,.nilsl]))]:=rfl;(exact RS2 s0 g0)
   ·intro i hi
    have i1:((i:Int)<(ls.length:Int))=True:=AAa;have a2:=kT hi AM;obtain⟨s,hs⟩:=gF hi;have hx:=hB i s hs;have c1:=w44 s;rw[bM]at c1;have lf:=uC s;have c2:=w77 (row:=row+i) lf (aFq s) AM;rw[bM]at c2;have r1:IntKind.i64.wrap ((row:Int)+(i:Int))=((row+i:Nat):Int):=by rw[aI AM AM];omega
    have m1:=aN (vW s);rw[lf]at m1;have k5:=gO lf;have k6:=jY lf;have g5:=bL (vW s);have c8:=jH (a:=nf 0) (b:=vW s) (by rw[lf];exact eD AM);have zs:=xH (row:=row+i) lf;have nl:dH (bN s)=vW s:=rfl;have nr:rE (iS (row+i) (vW s))=rwB (row+i) (vW s):=rfl;rw[nl]at c1;rw[nr]at c2;by_cases hi0:i=0
    ·subst hi0
     have s0:lSs 0 = .nilsl:=rfl;have g0:lGs B ls row 0=[uS B,some (.blk true (.cells true [.nilpt,.nilsl]))]:=rfl;have cn:=aRL hs;have cn0:Cn ls 0=[]:=rfl;rw[cn0,G7]at cn;have bn:=aUT (row:=row) hs;have bn0:Bn ls row 0=⟨⟨[]⟩⟩:=rfl;rw[bn0,aRq]at bn;rw[J1]at c2 zs;have bn:Bn ls row (0+1)=rwB row (vW s):=bn;have c3:=aSR (s:=rwB row (vW s)) AM AM;rw[zs]at c3;have s1:lSs (0+1) = .sl 3 0 40 1:=rfl;have g1:lGs B ls row (0+1)=[uS B,some (.blk false (.cells true [.pt 1 0,.sb 2 (Bn ls row (0+1)).size])),some (.blk true (.cells true (dU (Bn ls row (0+1))))),some (.blk true (.cells true (bT (Cn ls (0+1)))))]:=rfl;rw[s1,g1,cn,bn,zs];have j1:((0:Int)<(ls.length:Int))=True:=AAa;rw[J1]at hx;have j3:IntKind.i64.wrap ((row:Int)+0)=(row:Int):=by rw[aI2];exact aI AM AM
     have j4:(0<ls.length)=True:=AAa;generalize hR:rwB row (vW s)=R at *;generalize vW s=f at *;(sym=>(simp[Za,Zb,Zd,Ze,Zf,Zg,Zh,Zj,Zl,Zm,Zo,Zv,Z8,ZA,ZH,ZV,Ye,Yh,Yl,Ym,Yn,Yz,Y7,YG,YP,YT,YU,YX,Xz,XJ,XL,XO,XW,Wj,Wu,Ww,Wx,Wy,W3,W4,WB,WG,Va,Vq,V1,V2,V3,V4,V7,V8,VA,VB,VC,VD,VF,VG,VH,VI,VK,VL,VM,VN,VO,VP,VQ,VR,VS,VT,VU,VV,VX,VY,VZ,Uc,Ud,Ue,Ug,Uh,Ui,Uj,Uu,Uw,Ux,Uy,UU,UV,UW,UX,UY,Td,Te,Tf,Tg,Th,Ti,Tj,Tl,Tm,Tq,Tt,T0,T2,T3,T4,T6,T7,T8,T9,TA,TB,TC,TM,TN,TO,TW,TX,TY,TZ,Sf,Sg,Si,Sj,Sn,Sp,Ss,Su,Sz,S3,S4,S6,S7,S9,SB,SD,SE,SI,SL,SM,SN,Rr,Ry,Qh,Qt,Qw,Qx,Qz,Q0,QA,QB,QI,QK,QN,QO,QQ,QS,QX,QY,QZ,Pa,s0,g0,j1,j3,j4,hx,c1,c2,c3,m1,k5,k6,g5,c8,zs,l0,gz,cN,cH,cG,cO,dO,eA,eC,bX,bV,bW,gB];all_goals tactic=>exact rfl))
    ·have s0:lSs i = .sl 3 0 40 i:=if_neg hi0
     have g0:lGs B ls row i=[uS B,some (.blk false (.cells true [.pt 1 0,.sb 2 (Bn ls row i).size])),some (.blk true (.cells true (dU (Bn ls row i)))),some (.blk true (.cells true (bT (Cn ls i))))]:=if_neg hi0;have s1:lSs (i+1) = .sl 3 0 40 (i+1):=if_neg AM;have g1:lGs B ls row (i+1)=[uS B,some (.blk false (.cells true [.pt 1 0,.sb 2 (Bn ls row (i+1)).size])),some (.blk true (.cells true (dU (Bn ls row (i+1))))),some (.blk true (.cells true (bT (Cn ls (i+1)))))]:=if_neg AM;have bn:=aUT (row:=row) hs;have bz:=aAW ls row i;have bs1:(Bn ls row (i+1)).size=(Bn ls row i).size+45:=by rw[bn,E8,zs]
     have ap:=aLY (Cn ls i) (vW s);rw[←aRL hs]at ap;have ca:=aYr hs;have lc:=aN (Cn ls i);rw[nL AM]at lc;have lc1:=aN (Cn ls (i+1));rw[nL AM]at lc1;have gc:=bL (Cn ls i);have gc1:=bL (Cn ls (i+1));have c3:=aSQ (s:=rwB (row+i) (vW s)) (a:=Bn ls row i) AM AM AM;rw[zs,←bn]at c3;rw[s1,g1,bs1];have z2:((i+1)*40≤1099511627776)=True:=AAa;have z3:(i+1≤1099511627776)=True:=AAa;have z4:((i:Int)<((i+1:Nat):Int))=True:=AAa;have z5:(i*40+40≤(i+1)*40)=True:=AAa;generalize (Bn ls row i).size=sz at *;generalize Bn ls row (i+1)=B1 at *;generalize Bn ls row i=B0 at *;generalize Cn ls (i+1)=C1 at *;generalize Cn ls i=C0 at *;generalize rwB (row+i) (vW s)=R at *;generalize vW s=f at *;(sym=>(simp[Za,Zb,Zd,Ze,Zf,Zg,Zh,Zj,Zl,Zm,Zo,Zv,Z8,ZA,ZH,ZV,Ye,Yh,Yl,Ym,Yn,Yz,Y7,YG,YM,YN,Xz,XJ,XL,XO,XW,Wj,Wu,Ww,Wx,Wy,W3,W4,WB,WG,Va,Vq,V1,V2,V3,V4,V7,V8,VA,VB,VC,VD,VF,VG,VH,VI,VK,VL,VM,VN,VO,VP,VQ,VR,VS,VT,VU,VV,VW,VX,VY,VZ,Uc,Ud,Ue,Ug,Uh,Ui,Uj,Uu,Uw,Ux,Uy,UU,UV,UW,UX,UY,Td,Te,Tf,Tg,Th,Ti,Tj,Tl,Tm,Tq,Tt,T0,T2,T3,T4,T6,T7,T8,T9,TA,TB,TC,TM,TN,TO,TW,TX,TY,TZ,Sf,Sg,Si,Sk,Sl,Sn,Sp,Ss,Su,Sz,S2,S3,S4,S7,S9,SB,SD,SE,SI,SL,SM,SN,Rp,Rq,Ry,Qh,Qt,Qw,Qx,Qz,Q0,QA,QB,QI,QK,QN,QO,QQ,QS,QX,QY,QZ,Pa,s0,g0,i1,a2,hx,c1,c2,c3,r1,m1,k5,k6,g5,c8,zs,l0,gz,ap,ca,lc,lc1,gc,gc1,z2,z3,z4,z5,cN,cH,cG,cO,dO,eA,eC,bX,bV,bW,gB];all_goals tactic=>exact rfl))
   ·have e0:((ls.length:Int)<(ls.length:Int))=False:=AAb
    (exact dM e0)
end
section
open Go Go.DL
section
variable{ls:List ByteArray}{n:Nat}
end
end
section
open Go Go.DL
theorem aEd(p:Nat→Bool):∀ n,∃ m,m≤n∧(∀ i,i<m→p i=true)∧(m=n∨(m<n∧p m=false))
 | 0=>⟨0,A8 _,fun i hi=>absurd hi AM,.inl rfl⟩
 | n+1=>by
   obtain⟨m,h1,h2,h3⟩:=aEd p n;rcases h3 with rfl|⟨h3,h4⟩
   ·cases hp:p m with
    | true=>exact⟨m+1,A8 _,fun i hi=>by
     by_cases him:i=m;·subst him;exact hp
     ·exact h2 i AM,.inl rfl⟩
    | false=>exact⟨m,by omega,h2,.inr ⟨by omega,hp⟩⟩
   ·exact⟨m,by omega,h2,.inr ⟨by omega,h4⟩⟩
theorem aYj{s:ByteArray}{i:Nat}(h:i<s.size):∃ x,(bN s)[i]?=some x∧x<256∧((s.data.toList.getD i 0).toNat:Int)=(x:Int):=by
 have hl:i<s.data.toList.length:=by rw[D4];exact h
 have h0:s.data.toList[i]?=some (s.data.toList[i]'hl):=A4 hl;refine⟨(s.data.toList[i]'hl).toNat,?_,UInt8.toNat_lt _,?_⟩;·unfold bN;rw[A6,h0];rfl
 ·rw[A1,h0];rfl
end
end Go.Proofs.YtmapgnepfgnphaaGreatDoor
