/- Parts of a proof, joined. No statement of the seed is proved here. -/
import Derived.Shelf.Strings.OnBuilder
import Derived.Shelf.Strings.Trim
import Derived.Shelf.Small.Wraps
import Derived.Shelf.Strings.BuilderK
import Derived.Shelf.Strconv.Itoa3
import Derived.Shelf.Strconv.AtoiAll
import Derived.Shelf.Strings.Shaped
import Derived.Shelf.GgClosure.StringsRunes
import Derived.Shelf.Strings.SplitShaped
import Derived.Shelf.Strings.Runes
import Derived.Shelf.Strings.AsciiSet
import Derived.Shelf.Strings.Explode
import Derived.Shelf.Strings.Repeat
import Derived.Shelf.Strings.FuncGrows
import Derived.Shelf.Slices.Turned
import Derived.Test.YtmapgnepfgnphaaGreatDoorH5
set_option linter.unusedSimpArgs false
set_option linter.unusedVariables false
set_option linter.unusedSectionVars false
set_option maxRecDepth 100000
set_option maxHeartbeats 4000000
namespace Go.Proofs.YtmapgnepfgnphaaGreatDoor
open Go Go.DL Go.Proofs.Tryz
def aYG:List (Nat×XFn):=[(4,x4),(12,x12),(13,x13),(14,x14),(16,x16),(18,x18),(19,x19),(20,x20),(22,x22),(23,x23),(24,x24),(25,x25),(31,x31),(34,x34),(35,x35),(36,x36),(38,x38),(39,x39),(41,x41),(42,x42),(43,x43),(44,x44),(45,x45),(46,x46),(49,x49),(52,x52),(53,x53),(54,x54),(55,x55),(58,x58),(59,x59),(60,x60),(61,oL),(62,yG),(63,x63),(64,x64),(65,x65),(66,vC),(67,x67),(68,x68),(69,x69),(70,x70),(73,x73),(75,x75),(77,x77),(78,x78),(79,x79),(84,x84),(85,x85),(87,x87),(88,x88),(89,x89),(90,x90),(91,x91),(92,x92),(93,x93),(94,x94),(95,x95),(96,x96),(97,x97),(98,x98),(100,aLR),(101,aSt),(102,aSs),(103,aSr),(104,aHA),(105,aLQ),(106,aSq),(107,aLP),(108,aHz),(109,aSp),(110,aCe),(111,aLO),(112,aSo),(113,aHy),(114,aEF),(116,aLN),(119,x119),(128,aEE),(129,aHx),(130,aSn),(131,aHw),(132,aLM),(133,aHv),(134,aHu),(135,aLL),(136,aHt),(137,aSm),(139,aSl),(159,aSk),(160,aSj),(162,aSi),(163,aSh),(164,aSg),(175,aYg),(182,aSf),(183,aSe),(184,aNx),(185,aSd),(186,aSc),(188,aSb),(189,aSa),(197,aYf),(198,aYe),(203,aRZ),(204,aRY),(205,aRX),(206,aRW),(207,aRV),(208,aRU),(211,aRT),(212,aRS),(213,aRR),(214,aRQ),(215,aRP),(234,aNr),(235,aRO),(236,aRN),(237,aRM),(242,aRL),(243,aRK),(244,aRJ),(245,aRI)]
def aPu:Nat→Option XFn:=aIB aYG
theorem aCq:∀ p∈aYG,aP prog p :=
 aS (cT call4 func4) (aS (cT call12 func12) (aS (cT call13 func13) (aS (cT call14 func14) (aS (cT call16 func16) (aS (cT call18 func18) (aS (cT call19 func19) (aS (cT call20 func20) (aS (cT call22 func22) (aS bEK (aS (cT call24 func24) (aS (cT call25 func25) (aS (cT call31 func31) (aS (cT call34 func34) (aS (cT call35 func35) (aS (cT call36 func36) (aS (cT call38 func38) (aS (cT call39 func39) (aS (cT call41 func41) (aS (cT call42 func42) (aS (cT call43 func43) (aS (cT call44 func44) (aS (cT call45 func45) (aS (cT call46 func46) (aS (cT call49 func49) (aS (cT call52 func52) (aS (cT call53 func53) (aS (cT call54 func54) (aS (cT call55 func55) (aS (cT call58 func58) (aS (cT call59 func59) (aS (cT call60 func60) (aS (cT call61 func61) (aS (cT call62 func62) (aS (cT call63 func63) (aS (cT call64 func64) (aS (cT call65 func65) (aS (cT call66 func66) (aS (cT call67 func67) (aS (cT call68 func68) (aS (cT call69 func69) (aS (cT call70 func70) (aS (cT call73 func73) (aS (cT call75 func75) (aS (cT call77 func77) (aS (cT call78 func78) (aS (cT call79 func79) (aS (cT call84 func84) (aS (cT call85 func85) (aS (cT call87 func87) (aS (cT call88 func88) (aS (cT call89 func89) (aS (cT call90 func90) (aS (cT call91 func91) (aS (cT call92 func92) (aS (cT call93 func93) (aS (cT call94 func94) (aS (cT call95 func95) (aS (cT call96 func96) (aS (cT call97 func97) (aS (cT call98 func98) (aS (cT call100 func100) (aS (cT call101 func101) (aS (cT call102 func102) (aS (cT call103 func103) (aS (cT call104 func104) (aS (cT call105 func105) (aS (cT call106 func106) (aS (cT call107 func107) (aS (cT call108 func108) (aS (cT call109 func109) (aS (cT call110 func110) (aS (cT call111 func111) (aS (cT call112 func112) (aS (cT call113 func113) (aS (cT call114 func114) (aS (cT call116 func116) (aS (cT call119 func119) (aS (cT call128 func128) (aS (cT call129 func129) (aS (cT call130 func130) (aS (cT call131 func131) (aS (cT call132 func132) (aS (cT call133 func133) (aS (cT call134 func134) (aS (cT call135 func135) (aS (cT call136 func136) (aS (cT call137 func137) (aS (cT call139 func139) (aS (cT call159 func159) (aS (cT call160 func160) (aS (cT call162 func162) (aS (cT call163 func163) (aS (cT call164 func164) (aS (cT call175 func175) (aS (cT call182 func182) (aS (cT call183 func183) (aS bAC (aS (cT call185 func185) (aS (cT call186 func186) (aS (cT call188 func188) (aS (cT call189 func189) (aS (cT call197 func197) (aS (cT call198 func198) (aS (cT call203 func203) (aS (cT call204 func204) (aS (cT call205 func205) (aS (cT call206 func206) (aS (cT call207 func207) (aS (cT call208 func208) (aS (cT call211 func211) (aS (cT call212 func212) (aS (cT call213 func213) (aS (cT call214 func214) (aS (cT call215 func215) (aS bAk (aS (cT call235 func235) (aS (cT call236 func236) (aS (cT call237 func237) (aS (cT call242 func242) (aS (cT call243 func243) (aS (cT call244 func244) (aS (cT call245 func245) (bFo)))))))))))))))))))))))))))))))))))))))))))))))))))))))))))))))))))))))))))))))))))))))))))))))))))))))))))))))))))))))))))
theorem aWD{k:Nat}{d:XFn}(h:aPu k=some d):d.prm=none:=(aCq _ (sE h)).2.2.2
theorem progX_ok:XOk prog aPu:=⟨rfl,fun k d h _=>(aCq _ (sE h)).1,fun k d f h hp=>(by rw[aWD h]at hp;cases hp),fun k d h=>(aCq _ (sE h)).2.1,fun k d h=>(aCq _ (sE h)).2.2.1⟩
end Go.Proofs.YtmapgnepfgnphaaGreatDoor
namespace Go.Proofs
open Go.Shelf
def Tryz.lays156_ren:Go.Shelf.Ren:=⟨fun|156=>99|165=>138|166=>69|169=>71|240=>115|241=>161|276=>140|277=>187|n=>n,fun|31=>22|9=>9|3=>3|4=>4|0=>0|20=>20|72=>126|76=>129|70=>124|37=>59|75=>128|127=>183|164=>215|5=>5|80=>37|n=>n,fun|n=>n⟩
theorem Tryz.lays156:Go.Proofs.Lays.n156 Tryz.prog Tryz.lays156_ren:=by constructor<;>(intros;kernel_rfl)
theorem Tryz.Builder_Extra_156:Builder.Extra Tryz.prog Tryz.lays156_ren:={
 sizeBuilder:=by kernel_rfl
 liesBuilder:=by kernel_rfl
 t5:=Tryz.underlying5
 a5:=Tryz.isAgg5
 z5:=Tryz.sizeOf5
 v5:=Tryz.zeroValue5
 infoByte:=by kernel_rfl
 cellsByte:=by kernel_rfl
 sizeByte:=by kernel_rfl
 neB5:=by decide }
open Go.RowKit in
theorem Tryz.strings_Join_none(a:Option Addr)(c:Nat)(sep:ByteArray)(w:World) :
 Calls Tryz.prog 99 #[.slice a 0 c,.string sep] w fun e w'=>e = .returned (.string ⟨#[]⟩)∧w'=w:=Any.strings_Join_none Tryz.lays156 Tryz.Builder_Extra_156 a c sep w
open Go.RowKit in
theorem Tryz.strings_Join(bk o c:Nat)(xs:List ByteArray)(sep:ByteArray)(w:World)(hcells:∀(j:Nat) x,xs[j]?=some x→w.cell? ⟨bk,o+j,none⟩=some (.string x))(hbk:bk<w.heap.size)(hN:xs.length≤140737488355328)(hcap:xs.length≤c)(hlen:(Lib.join (xs.map (·.data.toList)) sep.data.toList).length≤140737488355328) :
 Calls Tryz.prog 99 #[.slice (some ⟨bk,o,none⟩) xs.length c,.string sep] w fun e w'=>e = .returned (.string ⟨(Lib.join (xs.map (·.data.toList)) sep.data.toList).toArray⟩)∧Below w.heap.size w w':=Any.strings_Join Tryz.lays156 Tryz.Builder_Extra_156 bk o c xs sep w hcells hbk hN hcap hlen
def Tryz.lays162_ren:Go.Shelf.Ren:=⟨fun|162=>80|232=>120|227=>121|234=>122|236=>123|228=>144|271=>145|151=>146|120=>168|197=>169|152=>170|260=>192|137=>193|119=>194|224=>195|225=>196|217=>199|266=>209|n=>n,fun|9=>9|4=>4|3=>3|5=>5|117=>188|116=>187|0=>0|124=>191|21=>21|105=>218|46=>238|119=>286|139=>289|138=>288|n=>n,fun|3=>4|4=>5|n=>n⟩
theorem Tryz.lays162:Go.Proofs.Lays.n162 Tryz.prog Tryz.lays162_ren:=by constructor<;>(intros;kernel_rfl)
open Go.RowKit in
theorem Tryz.strings_TrimRight_one(s:ByteArray)(c:UInt8)(hc:c.toNat<128)(w:World)(hs:s.size≤9223372036854775807) :
 Calls Tryz.prog 80 #[.string s,.string ⟨#[c]⟩] w fun e w'=>e = .returned (.string ⟨(Lib.trimRightB s.data.toList c).toArray⟩)∧w'=w:=Any.strings_TrimRight_one Tryz.lays162 s c hc w hs
def Tryz.lays103_ren:Go.Shelf.Ren:=⟨fun|103=>72|210=>117|206=>141|n=>n,fun|9=>9|4=>4|24=>55|3=>3|n=>n,fun|n=>n⟩
theorem Tryz.lays103:Go.Proofs.Lays.n103 Tryz.prog Tryz.lays103_ren:=by constructor<;>(intros;kernel_rfl)
open Go.RowKit in
theorem Tryz.strings_CutPrefix(s p:ByteArray)(w:World) :
 Calls Tryz.prog 72 #[.string s,.string p] w fun e w'=>e = .returned (.tuple #[.string ⟨(Lib.trimPrefix s.data.toList p.data.toList).toArray⟩,.bool (Lib.hasPrefix s.data.toList p.data.toList)])∧w'=w:=Any.strings_CutPrefix Tryz.lays103 s p w
def Tryz.laysM171_ren:Go.Shelf.Ren:=⟨fun|171=>57|243=>82|246=>124|283=>147|284=>148|285=>149|286=>150|129=>172|317=>171|318=>173|319=>174|320=>175|337=>197|338=>198|n=>n,fun|3=>3|9=>9|2=>2|4=>4|171=>221|0=>0|53=>222|37=>59|5=>5|173=>225|212=>251|51=>252|20=>20|213=>253|46=>238|232=>290|233=>291|n=>n,fun|17=>0|18=>6|19=>7|n=>n⟩
theorem Tryz.laysM171:Go.Proofs.LaysM.n171 Tryz.prog Tryz.laysM171_ren:=by constructor<;>(intros;first|kernel_rfl|(constructor<;>(intros;first|kernel_rfl|(constructor<;>(intros;kernel_rfl)))))
open Go.RowKit Go.Sort Go.Lib in
theorem Tryz.strconv_Itoa (n:Int) (h0 : -9223372036854775808≤n) (h1:n≤9223372036854775807) (w:World) (htab:Lib.TabIs Tryz.prog w "internal/strconv.uint64pow10" .u64 Lib.pow10Tab) :
 Calls Tryz.prog 57 #[.int .i64 n] w fun e w'=>e = .returned (.string ⟨(Lib.itoa n).toArray⟩)∧∃ k os,w'=grow (w.drewN k) os:=Any.strconv_Itoa Tryz.laysM171 n h0 h1 w htab
def Tryz.laysC172_ren:Go.Shelf.Ren:=⟨fun|172=>86|244=>126|245=>127|247=>154|279=>155|280=>156|281=>157|282=>158|287=>179|316=>180|171=>57|205=>181|321=>201|322=>202|243=>82|246=>124|283=>147|284=>148|285=>149|286=>150|129=>172|317=>171|318=>173|319=>174|320=>175|337=>197|338=>198|n=>n,fun|9=>9|3=>3|75=>128|76=>129|4=>4|5=>5|167=>229|37=>59|0=>0|85=>230|2=>2|168=>232|53=>222|175=>257|46=>238|210=>260|127=>183|145=>280|143=>278|21=>21|171=>221|173=>225|212=>251|51=>252|20=>20|213=>253|232=>290|233=>291|80=>37|n=>n,fun|15=>1|16=>2|17=>0|18=>6|19=>7|n=>n⟩
theorem Tryz.laysC172:Go.Proofs.LaysC.n172 Tryz.prog Tryz.laysC172_ren:=by constructor<;>(intros;first|kernel_rfl|(constructor<;>(intros;first|kernel_rfl|(constructor<;>(intros;kernel_rfl)))))
open Go.RowKit in
theorem Tryz.strconv_Atoi_ok(s:ByteArray)(hmax:s.size≤9223372036854775806)(v:Int)(h:Lib.atoiAll s.data.toList = .ok v)(w:World) :
 Calls Tryz.prog 86 #[.string s] w fun e w'=>e = .returned (.tuple #[.int .i64 v,.nilIface])∧(w'=w∨∃ t,w'=Lib.bytesWorld w 5 t):=Any.strconv_Atoi_ok Tryz.laysC172 s hmax v h w
open Go.RowKit in
theorem Tryz.strconv_Atoi_syntax(s:ByteArray)(hlim:s.size≤281474976710656)(h:Lib.atoiAll s.data.toList=Lib.NumEnd.syntax)(ev:Value)(w:World)(hv:w.cell? ⟨1,0,none⟩=some ev)(hev:ev = .nilIface∨∃ te pe,ev = .iface te pe) :
 Calls Tryz.prog 86 #[.string s] w fun e w'=>∃ N,e = .returned (.tuple #[.int .i64 (0),.iface 232 (.pointer (some ⟨N,0,none⟩))])∧w.heap.size≤N∧w'.heap[N]?=some (.cells #[.string ⟨#[65,116,111,105]⟩,.string s,ev] 260 (0,0))∧Below w.heap.size w w':=Any.strconv_Atoi_syntax Tryz.laysC172 s hlim h ev w hv hev
open Go.RowKit in
theorem Tryz.strconv_Atoi_range(s:ByteArray)(hlim:s.size≤281474976710656)(h:Lib.atoiAll s.data.toList = .range)(ev:Value)(w:World)(hv:w.cell? ⟨2,0,none⟩=some ev)(hev:ev = .nilIface∨∃ te pe,ev = .iface te pe) :
 Calls Tryz.prog 86 #[.string s] w fun e w'=>∃ N,e = .returned (.tuple #[.int .i64 (Lib.atoiSat s.data.toList),.iface 232 (.pointer (some ⟨N,0,none⟩))])∧w.heap.size≤N∧w'.heap[N]?=some (.cells #[.string ⟨#[65,116,111,105]⟩,.string s,ev] 260 (0,0))∧Below w.heap.size w w':=Any.strconv_Atoi_range Tryz.laysC172 s hlim h ev w hv hev
def Tryz.laysGw17_ren:Go.Shelf.Ren:=⟨fun|17=>74|15=>118|20=>142|n=>n,fun|9=>9|23=>137|4=>4|3=>3|0=>0|21=>21|n=>n,fun|n=>n⟩
theorem Tryz.laysGw17:Go.Proofs.LaysGw.n17 Tryz.prog Tryz.laysGw17_ren:=by constructor<;>(intros;kernel_rfl)
open Go.RowKit Go.Lib in
theorem Tryz.strings_ContainsFunc_runes(g:Nat)(lb:Array Value)(eg:∀ args w,(callFunc g args).run Tryz.prog w = .ok (.enter g args) w)(p:Nat→Bool)(s:ByteArray)(w:World)(hp:PredAtRunes Tryz.prog g lb p w) :
 Calls Tryz.prog 74 #[.string s,.func (.func g) #[] lb] w fun e w'=>e = .returned (.bool (decide (0≤Lib.idxFunc p true s)))∧Below w.heap.size w w':=Any.strings_ContainsFunc_runes Tryz.laysGw17 g lb eg p s w hp
def Tryz.lays100_ren:Go.Shelf.Ren:=⟨fun|100=>37|207=>76|n=>n,fun|9=>9|4=>4|3=>3|n=>n,fun|n=>n⟩
theorem Tryz.lays100:Go.Proofs.Lays.n100 Tryz.prog Tryz.lays100_ren:=by constructor<;>(intros;kernel_rfl)
open Go.RowKit Go.Lib in
theorem Tryz.strings_HasSuffix(s p:ByteArray)(w:World)(hs:s.size≤9223372036854775807) :
 Calls Tryz.prog 37 #[.string s,.string p] w fun e w'=>e = .returned (.bool (Lib.hasSuffix s.data.toList p.data.toList))∧w'=w:=Any.strings_HasSuffix Tryz.lays100 s p w hs
def Tryz.lays146_ren:Go.Shelf.Ren:=⟨fun|146=>83|221=>125|268=>151|138=>152|143=>153|195=>176|197=>169|218=>177|219=>178|260=>192|217=>199|225=>196|224=>195|267=>200|266=>209|314=>210|n=>n,fun|9=>9|31=>22|3=>3|4=>4|0=>0|105=>218|21=>21|5=>5|46=>238|119=>286|139=>289|138=>288|146=>272|51=>252|n=>n,fun|1=>3|3=>4|4=>5|n=>n⟩
theorem Tryz.lays146:Go.Proofs.Lays.n146 Tryz.prog Tryz.lays146_ren:=by constructor<;>(intros;kernel_rfl)
open Go.RowKit Go.Lib in
theorem Tryz.strings_Split(s sep:ByteArray)(m:Int)(w:World)(hs:s.size<4294967281)(hm:w.cell? ⟨3,0,none⟩=some (.int .i64 m))(h1:1≤sep.size) :
 Calls Tryz.prog 83 #[.string s,.string sep] w fun e w' =>
  e = .returned (.slice (some ⟨w.heap.size,0,none⟩) (Lib.countB s sep+1) (Lib.countB s sep+1))∧w'=w.alloc (.cells ((Lib.splitB sep 0 (Lib.countB s sep) s).map Value.string).toArray 9):=Any.strings_Split Tryz.lays146 (by kernel_rfl) s sep m w hs hm h1
def Tryz.lays105_ren:Go.Shelf.Ren:=⟨fun|105=>143|212=>165|99=>166|165=>138|166=>69|170=>167|169=>71|263=>190|264=>191|206=>141|240=>115|241=>161|276=>140|277=>187|n=>n,fun|9=>9|3=>3|4=>4|20=>20|0=>0|46=>238|109=>246|5=>5|72=>126|76=>129|51=>252|146=>272|53=>222|148=>274|70=>124|37=>59|75=>128|127=>183|164=>215|80=>37|n=>n,fun|n=>n⟩
theorem Tryz.lays105:Go.Proofs.Lays.n105 Tryz.prog Tryz.lays105_ren:=by constructor<;>(intros;kernel_rfl)
theorem Tryz.Builder_Extra_105:Builder.Extra Tryz.prog Tryz.lays105_ren:={
 sizeBuilder:=by kernel_rfl
 liesBuilder:=by kernel_rfl
 t5:=Tryz.underlying5
 a5:=Tryz.isAgg5
 z5:=Tryz.sizeOf5
 v5:=Tryz.zeroValue5
 infoByte:=by kernel_rfl
 cellsByte:=by kernel_rfl
 sizeByte:=by kernel_rfl
 neB5:=by decide }
open Go.RowKit Go.Lib in
theorem Tryz.strings_Repeat(s:ByteArray)(c:Nat)(w:World)(hc:c≤9223372036854775807)(hlen:s.size*c≤140737488355328) :
 Calls Tryz.prog 143 #[.string s,.int .i64 c] w fun e w'=>e = .returned (.string ⟨(Lib.repeatL s.data.toList c).toArray⟩)∧Below w.heap.size w w':=Any.strings_Repeat Tryz.lays105 Tryz.Builder_Extra_105 s c w hc hlen
def Tryz.lays110_ren:Go.Shelf.Ren:=⟨fun|110=>47|109=>81|n=>n,fun|31=>22|9=>9|4=>4|3=>3|0=>0|n=>n,fun|n=>n⟩
theorem Tryz.lays110:Go.Proofs.Lays.n110 Tryz.prog Tryz.lays110_ren:=by constructor<;>(intros;kernel_rfl)
open Go.Lib in
theorem Tryz.slices_Contains_string(b off n c:Nat)(zs:List ByteArray)(x:ByteArray)(w:World)(hz:n≤zs.length)(hbig:n≤9223372036854775807)(hc:∀ j,j<zs.length→w.cell? ⟨b,off+j,none⟩=some (.string (zs.getD j ByteArray.empty))) :
 Calls Tryz.prog 47 #[.slice (some ⟨b,off,none⟩) n c,.string x] w fun e w'=>e = .returned (.bool (Lib.containsS (zs.take n) x))∧w'=w:=Any.slices_Contains_string Tryz.lays110 b off n c zs x w hz hbig hc
open Go.Lib in
theorem Tryz.slices_Contains_string_empty(a:Option Addr)(c:Nat)(x:ByteArray)(w:World) :
 Calls Tryz.prog 47 #[.slice a 0 c,.string x] w fun e w'=>e = .returned (.bool false)∧w'=w:=Any.slices_Contains_string_empty Tryz.lays110 a c x w
end Go.Proofs
namespace Go.Proofs.YtmapgnepfgnphaaGreatDoor
section
open Go Go.DL Go.RowKit Go.Proofs.Tryz
variable{D:Nat→Option XFn}{Y:Nat→Option YI}{r:Nat→Option Nat}{h:XH}{H:Hp}{B:Base}
def iB(D:Nat→Option XFn)(K:Nat)(f:List AV→XH→Option (AV×XH)):Prop :=
 ∀(B:Base)(Y:Nat→Option YI)(r:Nat→Option Nat)(h:XH)(H:Hp)(xs ys:List AV)(v:AV)(h':XH),SH D Y r h H→RnL D Y r xs ys→f xs h=some (v,h')→FnW B Tryz.prog K ys H (eO D Y r v h')
def vZ:List AV→XH→Option (AV×XH):=fun xs h=>match xs with
 | [.str s,.int .i64 n]=>if 0≤n∧n≤1000000∧s.size≤1000 then some (.str ⟨⟨Go.Lib.repeatL s.data.toList n.toNat⟩⟩,h) else none
 | _=>none
theorem aJu{s:ByteArray}{k:IntKind}{n:Int}{as':List AV}(hr:RnL D Y r [.str s,.int k n] as'):as'=[.str s,.int k n]:=by
 obtain⟨a,as1,rfl,h1,h2⟩:=hr.inv;obtain⟨b,as2,rfl,h3,h4⟩:=h2.inv
 grind [dH,eK,RnL]
theorem aPx:iB D 143 vZ:=by
 intro B Y r h H xs ys v h' sh hr hx;unfold vZ at hx;split at hx
 ·rename_i s n
  split at hx
  ·rename_i hn
   cases hx;rw[aJu hr];have hc:Calls Tryz.prog 143 #[.string s,.int .i64 (n.toNat:Int)]=Calls Tryz.prog 143 #[.string s,.int .i64 n]:=by grind
   refine FnW.shelf (r:=fun _=>.string ⟨(Go.Lib.repeatL s.data.toList n.toNat).toArray⟩) (fun vs w=>call143 vs w) (fun F w vs=>.str _) (fun F w vs hl ha=>?_) ⟨r,Sub.refl r,sh,.str _⟩;rw[ha.strInt,←hc];exact Tryz.strings_Repeat s n.toNat w AT (by
    have h1:n.toNat≤1000000:=AT
    have:=O6 hn.2.2 h1;omega)
  ·cases hx
 ·cases hx
def vM:List (List AV)→Option (List ByteArray)
 | []=>some []
 | [.str x]::l=>(vM l).map (x :: ·)
 | _=>none
theorem aBg:∀{rows:List (List AV)}{xs:List ByteArray},vM rows=some xs→xs.length=rows.length∧∀(j:Nat)(x:ByteArray),xs[j]?=some x→rows[j]?=some [.str x]
 | [],xs,h=>by grind [vM]
 | row::l,xs,h=>by
   unfold vM at h;split at h;·rename_i h0;cases h0
   ·rename_i x l' h0
    cases h0;cases hl:vM l with
    | none=>rw[hl]at h;cases h
    | some ys =>
      rw[hl]at h;simp only[D2,oSI]at h;subst h;obtain⟨h1,h2⟩:=aBg hl;refine⟨by simp[h1],fun j y hj=>?_⟩;cases j with
      | zero=>simp at hj;subst hj;rfl
      | succ j=>exact h2 j y (by simpa using hj)
   ·cases h
def aDA:List AV→XH→Option (AV×XH):=fun xs h=>match xs with
 | [.fs rows,.str sep]=>match vM rows with
   | some l=>if l.length≤1000∧(Go.Lib.join (l.map (·.data.toList)) sep.data.toList).length≤100000 then some (.str ⟨⟨Go.Lib.join (l.map (·.data.toList)) sep.data.toList⟩⟩,h) else none
   | none=>none
 | _=>none
theorem aVo:iB D 99 aDA:=by
 intro B Y r h H xs ys v h' sh hr hx;unfold aDA at hx;split at hx
 ·rename_i rows sep
  split at hx
  ·rename_i l hl
   split at hx
   ·rename_i hn
    cases hx;obtain⟨a,as1,rfl,h1,h2⟩:=hr.inv;obtain⟨b,as2,rfl,h3,h4⟩:=h2.inv;rw[(aAy h1).1,dH h3,h4.nil_inv];obtain⟨hlen,hget⟩:=aBg hl;refine FnW.shelf (r:=fun _=>.string ⟨(Go.Lib.join (l.map (·.data.toList)) sep.data.toList).toArray⟩) (fun vs w=>call99 vs w) (fun F w vs=>.str _) (fun F w vs hlt ha=>?_) ⟨r,Sub.refl r,sh,.str _⟩;obtain⟨v1,vs1,rfl,k1,k2⟩:=ha.cons1;obtain⟨v2,vs2,rfl,k3,k4⟩:=k2.cons1;rw[k4.nil1];cases k3;have none:∀(a:Option Addr)(c:Nat),rows=[]→Calls Tryz.prog 99 #[.slice a 0 c,.string sep] w fun e w'=>e = .returned (.string ⟨(Go.Lib.join (l.map (·.data.toList)) sep.data.toList).toArray⟩)∧Below w.heap.size w w':=fun a c h0=>by
     subst h0;have:l=[]:=D0 AT;subst this;exact(Tryz.strings_Join_none a c sep w).mono fun e w' ⟨he,hw⟩=>⟨by rw[he];rfl,hw▸Below.refl _ _⟩
    cases k1 with
    | fs0 a cap=>grind
    | fs rows blk off s cap g hcap hF hs hc ho hv =>
      by_cases h0:rows=[];·grind
      ·have hs1:s=1:=by
        obtain⟨row,rest,rfl⟩:=aD8 h0;have hl0:l.length=rest.length+1:=AT
        obtain⟨x,hx0⟩:∃ x,l[0]?=some x:=⟨_,B6 AT⟩
        grind [List.getElem?_cons_zero]
       subst hs1;rw[←hlen];refine Tryz.strings_Join blk off cap l sep w (fun j x hj=>?_) (hlt _ hF) AT AT AT;have h5:=hget j x hj;have h6:=hc j _ 0 _ h5 rfl;have h7:=hv j _ 0 _ h5 rfl;generalize g j 0=y at h6 h7;cases h7
       grind
   ·cases hx
  ·cases hx
 ·cases hx
def dS(c:UInt8):List UInt8→List (List UInt8)
 | []=>[[]]
 | b::r=>if b=c then []::dS c r else match dS c r with
   | x::l=>(b::x)::l
   | []=>[[b]]
theorem aCS(c:UInt8):∀ s:List UInt8,Lib.splitK [c] 0 (Lib.count s [c]) s=dS c s
 | []=>by rfl
 | b::l=>by
   have ih:=aCS c l;by_cases h:b=c
   ·subst h
    have hix:Lib.index (b::l) [b]=0:=by rw[Lib.index];grind
    rw[Lib.count_cons_eq,Nat.add_comm,Lib.splitK,hix]
    grind [dS]
   ·have hp:([c]:List UInt8).isPrefixOf (b::l)=false:=by grind
    have hix:Lib.index (b::l) [c]=if Lib.index l [c] == -1 then -1 else Lib.index l [c]+1:=by rw[Lib.index,hp];simp
    rw[Lib.count_cons_ne b c l h];simp only[dS,if_neg h,←ih];cases hk:Lib.count l [c]with
    | zero=>rfl
    | succ k =>
      simp only[Lib.splitK];by_cases hm:Lib.index l [c] = -1;·grind
      ·have hge:=Lib.index_ge l [c]
       obtain⟨j,hj⟩:∃ j:Nat,Lib.index l [c]=j:=⟨(Lib.index l [c]).toNat,by omega⟩;rw[hix,if_neg (fun e=>hm (beq_iff_eq.1 e)),hj];rfl
def aAB:List AV→XH→Option (AV×XH):=fun xs h=>match xs with
 | [.str s,.str ⟨⟨[c]⟩⟩]=>if s.size≤100000 then some (.fs ((dS c s.data.toList).map fun l=>[.str ⟨⟨l⟩⟩]),h) else none
 | _=>none
theorem aVq:iB D 83 aAB:=by
 intro B Y r h H xs ys v h' sh hr hx;unfold aAB at hx;split at hx
 ·rename_i s c
  split at hx
  ·rename_i hn
   cases hx;obtain⟨a,as1,rfl,h1,h2⟩:=hr.inv;obtain⟨b,as2,rfl,h3,h4⟩:=h2.inv;rw[dH h1,dH h3,h4.nil_inv];have hv:∀ x∈(dS c s.data.toList).map (fun l=>[AV.str ⟨⟨l⟩⟩]),∀ z∈x,Gd z:=fun x hx z hz=>by
    obtain⟨l,_,rfl⟩:=F7.1 hx;simp only[D1]at hz;subst hz;exact .str _
   refine FnW.shelfG (fun vs w=>call83 vs w) (fun F w vs gi hl ha=>?_) ⟨r,DL.Sub.refl r,sh,(Gd.fs _ hv).rn⟩;obtain⟨hF3,m,hm⟩:=gi.2.1 3 (by simp[aEa]);rw[ha.strStr];refine(Tryz.strings_Split s ⟨#[c]⟩ m w AT hm (by simp[ByteArray.size])).mono ?_;rintro e w' ⟨rfl,rfl⟩;have hsp:((Lib.splitB ⟨#[c]⟩ 0 (Lib.countB s ⟨#[c]⟩) s).map (·.data.toList))=dS c s.data.toList:=by
    grind [Lib.splitB_data,aCS]
   have hlen:(Lib.splitB ⟨#[c]⟩ 0 (Lib.countB s ⟨#[c]⟩) s).length=Lib.countB s ⟨#[c]⟩+1:=Lib.splitB_all _ (by simp[ByteArray.size]) 0 _ _ rfl;obtain⟨L,hL⟩:∃ L,L=Lib.splitB ⟨#[c]⟩ 0 (Lib.countB s ⟨#[c]⟩) s:=⟨_,rfl⟩;rw[←hL]at hsp hlen ⊢;have hrows:(dS c s.data.toList).map (fun l=>[AV.str ⟨⟨l⟩⟩])=L.map fun x=>[AV.str x]:=by
    rw[←hsp,aB6];rfl
   rw[hrows];refine⟨_,fun b=>F b∨b=w.heap.size,rfl,(Below.refl _ w).alloc (B5 _) _,fun b hb=>.inl hb,fun b hb=>hb.elim .inl fun e=>.inr AT,fun b hb=>?_,?_⟩
   ·rcases hb with hb|rfl
    ·have:=hl b hb;simp;omega
    ·simp
   ·have hcell:∀(j:Nat)(x:ByteArray),L[j]?=some x→(w.alloc (.cells (L.map Value.string).toArray 9)).cell? ⟨w.heap.size,j,none⟩=some (.string x):=fun j x hj=>by
     simp_all
    have hlen':(L.map fun x=>[AV.str x]).length=Lib.countB s ⟨#[c]⟩+1:=by grind
    rw[←hlen'];refine .fs _ w.heap.size 0 1 _ (fun i _=>.string (L.getD i ByteArray.empty)) AT (.inr rfl) (fun x hx=>?_) (fun i x j z hi hj=>?_) (fun _ _=>rfl) (fun i x j z hi hj=>?_);·grind
    ·grind
    ·rw[C5,B2]at hi
     obtain⟨y,hy,rfl⟩:=hi;cases j with
     | zero =>
       simp only[E8,oSI]at hj;subst hj;rw[C9,hy];exact .str _
     | succ j=>simp at hj
  ·cases hx
 ·cases hx
theorem aSD {F:Nat→Prop} {w:World} (gi:GI F w):Lib.TabIs prog w "internal/strconv.uint64pow10" IntKind.u64 Lib.pow10Tab:=by
 obtain⟨_,e,fr,h2⟩:=gi.2.2.1 (0,(List.range 20).map fun i=>Value.int .u64 ((10^i:Nat):Int)) (by simp[aEb])
 have hg:prog.globalNamed "internal/strconv.uint64pow10" = some 0:=by kernel_rfl
 unfold Lib.TabIs World.var?;rw[hg];simp only[D8];dsimp only at h2;rw[h2];rfl
def aBo:List AV→XH→Option (AV×XH):=fun xs h=>match xs with
 | [.int .i64 n]=>if -9223372036854775808≤n∧n≤9223372036854775807 then some (.str ⟨⟨Lib.itoa n⟩⟩,h) else none
 | _=>none
theorem aTl{k:IntKind}{n:Int}{as':List AV}(hr:RnL D Y r [.int k n] as'):as'=[.int k n]:=by
 obtain⟨b,as2,rfl,h3,h4⟩:=hr.inv
 grind [eK,RnL]
theorem aVv:iB D 57 aBo:=by
 intro B Y r h H xs ys v h' sh hr hx;unfold aBo at hx;split at hx
 ·rename_i n
  split at hx
  ·rename_i hn
   cases hx;rw[aTl hr];refine FnW.shelfG (fun vs w=>call57 vs w) (fun F w vs gi hl ha=>?_) ⟨r,DL.Sub.refl r,sh,.str _⟩;obtain⟨b,bs,rfl,h3,h4⟩:=ha.cons1;cases h3;rw[h4.nil1];refine(Tryz.strconv_Itoa n hn.1 hn.2 w (aSD gi)).mono ?_;rintro e w' ⟨rfl,k,os,rfl⟩;have hbel:Below w.heap.size w («Sort».grow (w.drewN k) os):=by
    have h0:(w.drewN k).heap=w.heap:=rfl;refine⟨rfl,rfl,rfl,?_,fun j hj=>?_⟩;·simp_all
    ·simp only[«Sort».grow,h0]
     grind
   exact⟨_,F,rfl,hbel,fun _ h=>h,fun _ h=>.inl h,fun b hb=>D9 (hl b hb) hbel.size,.str _⟩
  ·cases hx
 ·cases hx
theorem aYL(b g cap:Nat)(p:Value)(cur:Array Value)(fr fz:Nat×Nat)(l:List UInt8)(w:World)(hbk:w.heap[b]?=some (.cells #[p,.slice (some ⟨g,0,none⟩) l.length cap] 126 fr))(hg:w.heap[g]?=some (.cells cur 5 fz))
 (h0:l≠[]) (hnc:l.length≤cap) (hcs:l.length≤cur.size) (h63:l.length≤9223372036854775807) (hcell:∀(j:Nat)(x:UInt8),l[j]?=some x→cur[j]?=some (.int .u8 x.toNat)) :
 Calls prog 71 #[.pointer (some ⟨b,0,none⟩)] w fun e w'=>e = .returned (.string ⟨l.toArray⟩)∧w'=w.drew.freeze ⟨g,0,none⟩ l.length:=by
 have hl0:l.length≠0:=by simpa using h0
 have c1:w.drew.cell? ⟨b,1,none⟩=some (.slice (some ⟨g,0,none⟩) l.length cap):=by
  have:w.drew.heap[b]?=some (.cells #[p,.slice (some ⟨g,0,none⟩) l.length cap] 126 fr):=hbk;rw[Lib.cell_of_heap this];rfl
 have hSD:(Builtin.unsafeSliceData_ #[59] 183 #[.slice (some ⟨g,0,none⟩) l.length cap]).run prog w.drew = .ok (.pointer (some ⟨g,0,none⟩)) w.drew :=
  Lib.run_unsafeSliceData_row _ _ _ _ _ _ AT
 have hUS:(Builtin.unsafeString_ #[183,3] 9 #[.pointer (some ⟨g,0,none⟩),.int .i64 l.length]).run prog w.drew = .ok (.string ⟨l.toArray⟩) (w.drew.freeze ⟨g,0,none⟩ l.length):=by
  refine Lib.run_unsafeString_row w.drew 183 3 9 5 underlying183 (by kernel_rfl) g cur.size (by have hg':w.drew.heap[g]?=some (.cells cur 5 fz):=hg;simp[World.shape?,hg']) l h0 hcs h63 ?_;intro j x hx;have hg':w.drew.heap[g]?=some (.cells cur 5 fz):=hg;have:=hcell j x hx;have e:(⟨g,0,none⟩:Addr).add j=⟨g,j,none⟩:=by
   by_cases hj:j=0;·subst hj;simp[Addr.add]
   ·simp[Addr.add,hj]
  rw[e];unfold World.cell?;dsimp only;rw[hg'];simpa using this
 have mixed:prog.follows .mixedOrders=true:=rfl;have u126:=run_underlying underlying126;have u124:=run_underlying underlying124;have u59:=run_underlying underlying59;have u183:=run_underlying underlying183;have u3:=run_underlying underlying3;have u9:=run_underlying underlying9;have u5:=run_underlying underlying5
 go_enter func71,ntmps71
 go_wp2
 go_region_o
 all_goals (go_wp2;go_ret;exact⟨rfl,rfl⟩)
theorem aKE:∃ j,prog.info? 126=some j∧j.size=2:=B2.1 (by kernel_rfl:(prog.info? 126).map (·.size)=some 2)
theorem aTL:liesAt prog prog.depth 126 (2/prog.cellsOf 126) 0 126 1=true:=by kernel_rfl
theorem aFb(b:Nat)(w:World)(h0:w.cell? ⟨b,0,none⟩=some (.pointer none))(hsh:w.shape? b=some (126,2))(hfz:w.frozen? ⟨b,0,none⟩=false) :
 Calls prog 115 #[.pointer (some ⟨b,0,none⟩)] w fun e w'=>e = .returned (.tuple #[])∧w'=w.setCell ⟨b,0,none⟩ (.pointer (some ⟨b,0,none⟩)):=by
 obtain⟨j,hj,hjs⟩:=aKE;have mixed:prog.follows .mixedOrders=true:=rfl;have u126:=run_underlying underlying126;have u124:=run_underlying underlying124;have u215:=run_underlying underlying215;have u9:=run_underlying underlying9;have u4:=run_underlying underlying4
 go_enter func115,ntmps115
 go_wp2
 rw[Lib.run_to_unsafe w ⟨b,0,none⟩ underlying124 underlying215 hj (by rw[hjs];decide) hsh (Nat.zero_lt_succ 1)];simp only[Result.andThen];rw[Oper.upon_value]
 go_wp2
 rw[run_callFunc_extern func140 (by kernel_rfl) (by kernel_rfl) (by kernel_rfl) (e:=Extern.AbiNoEscape.same) (by kernel_rfl)];rw[Lib.run_noEscape];simp only[Result.andThen];rw[Oper.upon_value]
 go_wp2
 rw[Lib.run_from_unsafe w ⟨b,0,none⟩ underlying215 underlying124 hj hsh aTL];simp only[Result.andThen];rw[Oper.upon_value]
 go_wp2
 go_end0
 exact⟨rfl,rfl⟩
theorem aHh(b:Nat)(w:World)(h0:w.cell? ⟨b,0,none⟩=some (.pointer (some ⟨b,0,none⟩))) :
 Calls prog 115 #[.pointer (some ⟨b,0,none⟩)] w fun e w'=>e = .returned (.tuple #[])∧w'=w:=by
 obtain⟨j,hj,hjs⟩:=aKE;have mixed:prog.follows .mixedOrders=true:=rfl;have u126:=run_underlying underlying126;have u124:=run_underlying underlying124;have u215:=run_underlying underlying215;have u9:=run_underlying underlying9;have u4:=run_underlying underlying4
 go_enter func115,ntmps115
 go_wp2
 rw[Lib.run_neq_ptr_same w _ underlying124 hj]
 go_wp2
 go_end0
 exact⟨rfl,rfl⟩
section
variable{D:Nat→Option XFn}{Y:Nat→Option YI}{r:Nat→Option Nat}{h:XH}{H:Hp}{B:Base}
def aGN:List AV→XH→Option (AV×XH):=fun xs h=>match xs with
 | [.bp b]=>match hat h b with
   | some (.blk _ (.cells true (.nilpt::l)))=>some (.tup [],h.set b (ab (.pt b 0::l)))
   | some (.blk _ (.cells true (.pt b' 0::_)))=>if b'=b then some (.tup [],h) else none
   | _=>none
 | _=>none
theorem aHd{b:Nat}{g:Bool}{x:ABlk}(h0:hat h b=some (.blk g x)):aG h b=some x:=by unfold aG;rw[h0]
theorem aIK{b:Nat}{w:World}{c:Array Value}{e:TypeId}{fr:Nat×Nat}{v:Value}(hb:w.heap[b]?=some (.cells c e fr))(j:Nat)(hv:c[j]?=some v):w.cell? ⟨b,j,none⟩=some v:=by
 unfold World.cell?
 grind
theorem aPy:iB D 115 aGN:=by
 intro B Y r h H xs ys v h' sh hr hx;unfold aGN at hx;split at hx
 ·rename_i b
  obtain⟨y,as1,rfl,h1,h2⟩:=hr.inv;obtain⟨c,rfl,hrb⟩:=aPe h1;rw[h2.nil_inv];split at hx
  ·rename_i g l hb
   cases hx;obtain⟨g',cs',_,k2,k3,_⟩:=sh.cells hrb (aHd hb);obtain⟨z,l',rfl,k4,k5⟩:=k3.inv;rw[aDq k4]at k2;refine⟨fun vs w=>call115 vs w,fun F w vs hB st ha=>?_⟩;obtain⟨v1,vs1,rfl,a1,a2⟩:=ha.cons1;rw[a2.nil1];cases a1 with
   | bp _ carr fr hcb hsz =>
   obtain⟨o,ho,hrb'⟩:=st.blk c _ k2;rw[hcb]at ho;simp only[oSI]at ho;subst ho;cases hrb' with
   | cells _ _ _ _ _ hfr hl hone hcells =>
   have hlt:c<w.heap.size:=(F8.1 hcb).1;obtain⟨v0,hv0⟩:∃ v0,carr[0]?=some v0:=⟨carr[0]'AT,E6 _⟩;have hn:=hcells 0 _ v0 rfl hv0;cases hn;refine callsIn_wide.2 ((aFb c w (aIK hcb 0 hv0) (by simp[World.shape?,hcb,hsz,aUq]) (by
    have:=hfr 0 AT;unfold World.frozen?
    grind)).mono ?_)
   rintro e w' ⟨rfl,rfl⟩;have hheap:(w.setCell ⟨c,0,none⟩ (.pointer (some ⟨c,0,none⟩))).heap=w.heap.setIfInBounds c (.cells (carr.setIfInBounds 0 (.pointer (some ⟨c,0,none⟩))) aUq fr):=by
    apply aD2;intro j;rw[H6];simp only[World.setCell,Array.getElem?_modify]
    grind
   obtain⟨e1,e2⟩:=mH (w':=w.setCell ⟨c,0,none⟩ (.pointer (some ⟨c,0,none⟩))) (y:=.cells true (.pt c 0::l')) st k2 rfl hcb hheap ⟨rfl,rfl,rfl⟩ (fun c1 e1 fr1 hh=>by grind) (fun F1 w1 hu=>by
    refine .cells true _ _ _ fr (fun i hi=>hfr i (by grind)) (by grind) (fun i v hv=>?_) (fun i a v ha hv=>?_)
    ·rw[H6]at hv
     split at hv
     ·split at hv
      ·cases hv;rfl
      ·cases hv
     grind
    ·rw[H6]at hv
     split at hv
     ·rename_i hi0
      subst hi0;split at hv
      ·cases hv
       simp only[E8,oSI]at ha;subst ha;exact .pt _ _
      ·cases hv
     ·rename_i hi0
      obtain⟨m,rfl⟩:∃ m,i=m+1:=⟨i-1,by omega⟩;exact(hcells (m+1) a v (by grind) hv).up hu)
   refine⟨.tuple #[],.tup [],F,_,rfl,e1,e2,.tup _ _ rfl (by simp),r,DL.Sub.refl r,sh.turn hb hrb (.cells c false true _ _ (RnL.cons (.pt _ _ _ hrb) k5) (by simp)),.tup _ _ rfl (by simp)⟩
  ·rename_i g b' l hb
   split at hx
   ·rename_i hbb
    cases hx;subst hbb;obtain⟨g',cs',_,k2,k3,_⟩:=sh.cells hrb (aHd hb);obtain⟨z,l',rfl,k4,k5⟩:=k3.inv;obtain⟨c',rfl,hr'⟩:=lW k4;rw[hrb]at hr';cases hr';refine⟨fun vs w=>call115 vs w,fun F w vs hB st ha=>?_⟩;obtain⟨v1,vs1,rfl,a1,a2⟩:=ha.cons1;rw[a2.nil1];cases a1 with
    | bp _ carr fr hcb hsz =>
    obtain⟨o,ho,hrb'⟩:=st.blk c _ k2;rw[hcb]at ho;simp only[oSI]at ho;subst ho;cases hrb' with
    | cells _ _ _ _ _ hfr hl hone hcells =>
    obtain⟨v0,hv0⟩:∃ v0,carr[0]?=some v0:=⟨carr[0]'AT,E6 _⟩;have hn:=hcells 0 _ v0 rfl hv0;cases hn;refine callsIn_wide.2 ((aHh c w (aIK hcb 0 hv0)).mono ?_);rintro e w' ⟨rfl,rfl⟩;exact⟨.tuple #[],.tup [],F,H,rfl,Ext.refl _ _ _,st,.tup _ _ rfl (by simp),r,DL.Sub.refl r,sh,.tup _ _ rfl (by simp)⟩
   ·cases hx
  ·cases hx
 ·cases hx
def aCa:List AV→Option (List UInt8)
 | []=>some []
 | .int .u8 n::r=>if 0≤n∧n<256 then (aCa r).map (UInt8.ofNat n.toNat :: ·) else none
 | _=>none
theorem aIO:∀{bs:List AV}{l:List UInt8},aCa bs=some l→l.length=bs.length∧∀(j:Nat)(x:UInt8),l[j]?=some x→bs[j]?=some (.int .u8 x.toNat)
 | [],l,h=>by grind [aCa]
 | v::bs,l,h=>by
   unfold aCa at h;split at h;·rename_i h0;cases h0
   ·rename_i n r h0
    cases h0;split at h
    ·rename_i hn
     cases hl:aCa bs with
     | none=>rw[hl]at h;cases h
     | some l' =>
       rw[hl]at h;simp only[D2,oSI]at h;subst h;obtain⟨h1,h2⟩:=aIO hl;refine⟨by simp[h1],fun j x hj=>?_⟩;cases j with
       | zero =>
         simp only[E8,oSI]at hj;subst hj;have:((UInt8.ofNat n.toNat).toNat:Int)=n:=by
          rw[aD9];have:n.toNat%2^8=n.toNat:=J7 AT;rw[this];omega
         rw[this];rfl
       | succ j=>exact h2 j x (by simpa using hj)
    ·cases h
   ·cases h
def aHX:List AV→XH→Option (AV×XH):=fun xs h=>match xs with
 | [.bp b]=>match hat h b with
   | some (.blk _ (.cells _ [_,.sb g n]))=>match hat h g with
     | some (.blk _ (.cells true bs))=>match aCa (bs.take n)with
       | some (x::l)=>if n≤bs.length∧g≠b∧n≤1000000 then some (.str ⟨⟨x::l⟩⟩,h.set g none) else none
       | _=>none
     | _=>none
   | _=>none
 | _=>none
theorem wK{w:World}{g n:Nat}{c:Array Value}{e:TypeId}{fr:Nat×Nat}(hg:w.heap[g]?=some (.cells c e fr)):∃ fr',(w.drew.freeze ⟨g,0,none⟩ n).heap[g]?=some (.cells c e fr')∧(∀ j,j≠g→(w.drew.freeze ⟨g,0,none⟩ n).heap[j]?=w.heap[j]?) ∧
 (w.drew.freeze ⟨g,0,none⟩ n).heap.size=w.heap.size∧SameIO w (w.drew.freeze ⟨g,0,none⟩ n):=by
 unfold World.freeze;split;·exact⟨fr,hg,fun _ _=>rfl,rfl,⟨rfl,rfl,rfl⟩⟩
 ·have h0:w.drew.heap=w.heap:=rfl
  refine⟨if fr.1==fr.2 then (0,0+n) else (min fr.1 0,max fr.2 (0+n)),?_,fun j hj=>?_,by simp[h0],⟨rfl,rfl,rfl⟩⟩;all_goals grind
theorem aVu:iB D 71 aHX:=by
 intro B Y r h H xs ys v h' sh hr hx;unfold aHX at hx;split at hx
 ·rename_i b
  obtain⟨y,as1,rfl,h1,h2⟩:=hr.inv;obtain⟨c,rfl,hrb⟩:=aPe h1;rw[h2.nil_inv];split at hx
  ·rename_i fl wr a0 g n hb
   split at hx
   ·rename_i fl2 bs hg
    split at hx
    ·rename_i x l hbl
     split at hx
     ·rename_i hc
      cases hx;obtain⟨_,cs',_,k2,k3,_⟩:=sh.cells hrb (aHd hb);obtain⟨z0,l0,rfl,k4,k5⟩:=k3.inv;obtain⟨z1,l1,rfl,k6,k7⟩:=k5.inv;rw[k7.nil_inv]at k2;obtain⟨gc,rfl,hrg⟩:=aPc k6;obtain⟨_,bs',_,m2,m3,_⟩:=sh.cells hrg (aHd hg);obtain⟨hbl1,hbl2⟩:=aIO hbl;have hlen:(x::l).length=n:=by grind
      have hne:gc≠c:=fun e=>hc.2.1 (sh.inj g b c _ _ hg hb (e▸hrg) hrb);refine⟨fun vs w=>call71 vs w,fun F w vs hB st ha=>?_⟩;obtain⟨v1,vs1,rfl,a1,a2⟩:=ha.cons1;rw[a2.nil1];cases a1 with
      | bp _ carr fr hcb hsz =>
      obtain⟨o,ho,hrb'⟩:=st.blk c _ k2;rw[hcb]at ho;simp only[oSI]at ho;subst ho;cases hrb' with
      | cells _ _ _ _ _ hfr hl hone hcells =>
      obtain⟨v0,hv0⟩:∃ v0,carr[0]?=some v0:=⟨carr[0]'AT,E6 _⟩;obtain⟨v1,hv1⟩:∃ v1,carr[1]?=some v1:=⟨carr[1]'AT,E6 _⟩;have hs:=hcells 1 _ v1 rfl hv1;cases hs with
      | sb _ _ cap gcur gfr hgb hcap hle =>
      have hcarr:carr = #[v0,.slice (some ⟨gc,0,none⟩) n cap]:=by
       grind
      rw[hcarr]at hcb;obtain⟨o2,ho2,hrg'⟩:=st.blk gc _ m2;rw[hgb]at ho2;simp only[oSI]at ho2;subst ho2;cases hrg' with
      | cells _ _ _ _ _ hfr2 hl2 hone2 hcells2 =>
      have hl2':bs.length=bs'.length:=m3.1;rw[←hlen]at hcb;refine callsIn_wide.2 ((aYL c gc cap v0 gcur fr gfr (x::l) w hcb hgb (by simp) AT AT AT (fun j u hj=>?_)).mono ?_)
      ·have hb1:=hbl2 j u hj
       rw[List.getElem?_take]at hb1;split at hb1
       ·obtain⟨u',hu1,hu2⟩:=m3.get hb1
        have hlt:j<bs'.length:=(B8.1 hu1).1;obtain⟨q,hq⟩:∃ q,gcur[j]?=some q:=⟨gcur[j]'AT,E6 _⟩;have h9:=hcells2 j u' q hu1 hq;rw[eK hu2]at h9;cases h9;exact hq
       ·cases hb1
      ·rintro e w' ⟨rfl,rfl⟩
       obtain⟨fr',f1,f2,f3,f4⟩:=wK (n:=(x::l).length) hgb;have hE:Ext F w H F (w.drew.freeze ⟨gc,0,none⟩ (x::l).length) (pF H gc):=by
        refine⟨fun _ h=>h,fun _ h=>.inl h,fun j hj=>?_,fun j hj=>?_,by omega,fun j hj hw=>?_,fun j c1 e1 fr1 hj=>?_,f4⟩
        ·unfold pF at hj
         grind
        ·left
         unfold vG at hj ⊢;unfold pF at hj
         grind
        ·refine f2 j fun e=>?_
         subst e;unfold vG at hw;rw[m2]at hw;simp[ABlk.wr]at hw
        grind
       have hU:=hE.up st;refine⟨.string ⟨(x::l).toArray⟩,.str ⟨⟨x::l⟩⟩,F,pF H gc,rfl,hE,⟨fun j hj=>by rw[f3];exact st.lt j hj,fun j y hj=>?_,fun j y hj=>?_⟩,.str _,r,DL.Sub.refl r,⟨fun b1 c1 hb1=>by simpa using sh.dom b1 c1 hb1,fun b1 b2 c1 x1 x2 q1 q2 q3 q4=>?_,fun b1 x1 q1=>?_,sh.gh.elim fun G hG=>⟨_,hG.drop hg hrg⟩⟩,.str _⟩
       ·unfold pF at hj
        split at hj;·cases hj
        ·exact st.dis j y hj
       ·unfold pF at hj
        split at hj;·cases hj
        ·rename_i hjg
         obtain⟨o,o1,o2⟩:=st.blk j y hj;exact⟨o,by grind,o2.up hU⟩
       ·have live:∀ b z,hat (h.set g none) b=some z→hat h b=some z:=fun b z hz=>by
         grind [gE]
        exact sh.inj b1 b2 c1 x1 x2 (live _ _ q1) (live _ _ q2) q3 q4
       ·rw[gE]at q1
        split at q1;·cases q1
        ·rename_i hcd
         obtain⟨c2,y2,w1,w2,w3⟩:=sh.blk b1 x1 q1;refine⟨c2,y2,w1,?_,w3⟩;unfold pF;rw[if_neg];·exact w2
         ·intro e
          subst e;exact hcd ⟨sh.inj b1 g _ x1 _ q1 hg w1 hrg,tV hg⟩
     ·cases hx
    ·cases hx
   ·cases hx
  ·cases hx
 ·cases hx
theorem zC{s t:ByteArray}{as':List AV}(hr:RnL D Y r [.str s,.str t] as'):as'=[.str s,.str t]:=by
 obtain⟨a,as1,rfl,h1,h2⟩:=hr.inv;obtain⟨b,as2,rfl,h3,h4⟩:=h2.inv
 grind [dH,RnL]
def aDz:List AV→XH→Option (AV×XH):=fun xs h=>match xs with
 | [.str s,.str p]=>if s.size≤1000000 then some (.bool (Lib.hasSuffix s.data.toList p.data.toList),h) else none
 | _=>none
theorem aVx:iB D 37 aDz:=by
 intro B Y r h H xs ys v h' sh hr hx;unfold aDz at hx;split at hx
 ·rename_i s p
  split at hx
  ·rename_i hn
   cases hx;rw[zC hr];refine FnW.shelf (r:=fun _=>.bool (Lib.hasSuffix s.data.toList p.data.toList)) (fun vs w=>call37 vs w) (fun F w vs=>.bool _) (fun F w vs hl ha=>?_) ⟨r,DL.Sub.refl r,sh,.bool _⟩;rw[ha.strStr];exact(Tryz.strings_HasSuffix s p w AT).mono fun e w' ⟨he,hw⟩=>⟨he,hw▸Below.refl _ _⟩
  ·cases hx
 ·cases hx
def aAC:List AV→XH→Option (AV×XH):=fun xs h=>match xs with
 | [.str s,.str p]=>some (.tup [.str ⟨⟨Lib.trimPrefix s.data.toList p.data.toList⟩⟩,.bool (Lib.hasPrefix s.data.toList p.data.toList)],h)
 | _=>none
theorem aVt:iB D 72 aAC:=by
 intro B Y r h H xs ys v h' sh hr hx;unfold aAC at hx;split at hx
 ·rename_i s p
  cases hx;rw[zC hr];have two:∀(F:Nat→Prop)(w:World),Rv F w (.tup [.str ⟨⟨Lib.trimPrefix s.data.toList p.data.toList⟩⟩,.bool (Lib.hasPrefix s.data.toList p.data.toList)]) (.tuple #[.string ⟨(Lib.trimPrefix s.data.toList p.data.toList).toArray⟩,.bool (Lib.hasPrefix s.data.toList p.data.toList)]):=fun F w =>
   .tup _ _ rfl fun i x y hx hy=>by
    match i with
    | 0=>simp at hx hy;subst hx hy;exact .str _
    | 1=>simp at hx hy;subst hx hy;exact .bool _
    | k+2=>simp at hx
  refine FnW.shelf (r:=fun _=>.tuple #[.string ⟨(Lib.trimPrefix s.data.toList p.data.toList).toArray⟩,.bool (Lib.hasPrefix s.data.toList p.data.toList)]) (fun vs w=>call72 vs w) (fun F w vs=>two F w) (fun F w vs hl ha=>?_) ⟨r,DL.Sub.refl r,sh,(Gd.tup _ (fun c hc=>by
   simp only[C3,G4,AAh]at hc;rcases hc with rfl|rfl;·exact .str _
   ·exact .bool _)).rn⟩
  rw[ha.strStr];exact(Tryz.strings_CutPrefix s p w).mono fun e w' ⟨he,hw⟩=>⟨he,hw▸Below.refl _ _⟩
 ·cases hx
def aDy:List AV→XH→Option (AV×XH):=fun xs h=>match xs with
 | [.str s,.str ⟨⟨[c]⟩⟩]=>if c.toNat<128∧s.size≤1000000 then some (.str ⟨⟨Lib.trimRightB s.data.toList c⟩⟩,h) else none
 | _=>none
theorem aVr:iB D 80 aDy:=by
 intro B Y r h H xs ys v h' sh hr hx;unfold aDy at hx;split at hx
 ·rename_i s c
  split at hx
  ·rename_i hn
   cases hx;rw[zC hr];refine FnW.shelf (r:=fun _=>.string ⟨(Lib.trimRightB s.data.toList c).toArray⟩) (fun vs w=>call80 vs w) (fun F w vs=>.str _) (fun F w vs hl ha=>?_) ⟨r,DL.Sub.refl r,sh,.str _⟩;rw[ha.strStr];exact(Tryz.strings_TrimRight_one s c hn.1 w AT).mono fun e w' ⟨he,hw⟩=>⟨he,hw▸Below.refl _ _⟩
  ·cases hx
 ·cases hx
def aHY:List AV→XH→Option (AV×XH):=fun xs h=>match xs with
 | [.fs rows,.str x]=>match vM rows with
   | some l=>if l.length≤1000000 then some (.bool (Lib.containsS l x),h) else none
   | none=>none
 | _=>none
theorem aVw:iB D 47 aHY:=by
 intro B Y r h H xs ys v h' sh hr hx;unfold aHY at hx;split at hx
 ·rename_i rows x
  split at hx
  ·rename_i l hl
   split at hx
   ·rename_i hn
    cases hx;obtain⟨a,as1,rfl,h1,h2⟩:=hr.inv;obtain⟨b,as2,rfl,h3,h4⟩:=h2.inv;rw[(aAy h1).1,dH h3,h4.nil_inv];obtain⟨hlen,hget⟩:=aBg hl;refine FnW.shelf (r:=fun _=>.bool (Lib.containsS l x)) (fun vs w=>call47 vs w) (fun F w vs=>.bool _) (fun F w vs hlt ha=>?_) ⟨r,DL.Sub.refl r,sh,.bool _⟩;obtain⟨v1,vs1,rfl,k1,k2⟩:=ha.cons1;obtain⟨v2,vs2,rfl,k3,k4⟩:=k2.cons1;rw[k4.nil1];cases k3;have none:∀(a:Option Addr)(c:Nat),rows=[]→Calls Tryz.prog 47 #[.slice a 0 c,.string x] w fun e w'=>e = .returned (.bool (Lib.containsS l x))∧Below w.heap.size w w':=fun a c h0=>by
     subst h0;have:l=[]:=D0 AT;subst this;exact(Tryz.slices_Contains_string_empty a c x w).mono fun e w' ⟨he,hw⟩=>⟨by rw[he];rfl,hw▸Below.refl _ _⟩
    cases k1 with
    | fs0 a cap=>grind
    | fs rows blk off s cap g hcap hF hs hc ho hv =>
      by_cases h0:rows=[];·grind
      ·have hs1:s=1:=by
        obtain⟨row,rest,rfl⟩:=aD8 h0;have hl0:l.length=rest.length+1:=AT
        obtain⟨y,hy0⟩:∃ y,l[0]?=some y:=⟨_,B6 AT⟩
        grind [List.getElem?_cons_zero]
       subst hs1;have hcl:=Tryz.slices_Contains_string blk off l.length cap l x w (B5 _) AT (fun j hj=>by
        obtain⟨y,hy⟩:∃ y,l[j]?=some y:=⟨_,B6 hj⟩;have h5:=hget j y hy;have h6:=hc j _ 0 _ h5 rfl;have h7:=hv j _ 0 _ h5 rfl;rw[C9,hy];generalize g j 0=z at h6 h7;cases h7
        grind)
       rw[List.take_length]at hcl;rw[←hlen];exact hcl.mono fun e w' ⟨he,hw⟩=>⟨he,hw▸Below.refl _ _⟩
   ·cases hx
  ·cases hx
 ·cases hx
end
def p75(r:Nat):Bool:=decide (r<32)||decide (126<r)
theorem bEY(x:Nat)(hx:x≤1114111)(W:World):FnGives prog 75 #[] #[encR x] (.bool (p75 x)) W:=by
 unfold FnGives;have u21:=run_underlying underlying21;have u4:=run_underlying underlying4;show Calls prog 75 (#[encR x] ++ #[]) W _;by_cases h1:x<32
 ·have e:p75 x=true:=by simp[p75,h1]
  rw[e];have h1':(x:Int)<32:=AT
  go_enter func75,ntmps75
  go_wp2
  all_goals (go_ret;exact⟨rfl,0,rfl⟩)
 ·by_cases h2:126<x
  ·have e:p75 x=true:=by simp[p75,h2]
   rw[e];have h1':¬(x:Int)<32:=AT
   have h2':(126:Int)<x:=AT
   go_enter func75,ntmps75
   go_wp2
   all_goals (go_ret;exact⟨rfl,0,rfl⟩)
  ·have e:p75 x=false:=by simp[p75];omega
   rw[e];have h1':¬(x:Int)<32:=AT
   have h2':¬(126:Int)<x:=AT
   go_enter func75,ntmps75
   go_wp2
   all_goals (go_ret;exact⟨rfl,0,rfl⟩)
def vI:List UInt8→Bool
 | []=>false
 | b::r=>decide (b.toNat<32)||(decide (126<b.toNat)||vI r)
theorem aML(s:ByteArray)(pos:Nat)(h:128≤(s.get! pos).toNat):126<(Utf8.decode s pos).1:=by
 have h0:¬(s.get! (pos+0)).toNat<128:=by
  grind
 unfold Utf8.decode;dsimp only;rw[if_neg h0];split
 ·split
  ·omega
  ·decide
 ·split
  ·split
   ·grind
   ·decide
  ·split
   ·split
    ·grind
    ·decide
   ·decide
theorem aMK(s:ByteArray)(pos:Nat)(h:(s.get! pos).toNat<128):Utf8.decode s pos=((s.get! pos).toNat,1):=by
 have h0:(s.get! (pos+0)).toNat<128:=h;unfold Utf8.decode
 grind
theorem aQn{s:ByteArray}{pos:Nat}{b:UInt8}{l:List UInt8}(h:s.data.toList.drop pos=b::l):s.get! pos=b∧pos<s.size∧s.data.toList.drop (pos+1)=l:=by
 have hlt:pos<s.data.toList.length:=by
  grind [List.drop_eq_nil_of_le]
 have hsz:s.size=s.data.toList.length:=by rfl
 rw[J6 hlt]at h;simp only[aF5]at h;refine⟨?_,by omega,h.2⟩;rw[←h.1];have:pos<s.data.size:=AT
 show s.data[pos]! = _
 grind
theorem aLg(s:ByteArray):∀(l:List UInt8)(f pos:Nat),s.data.toList.drop pos=l→l.length≤f→decide (0≤Lib.idxFuncFrom p75 true s f pos)=vI l
 | [],f,pos,h,hf=>by
   have hsz:s.size=s.data.toList.length:=by rfl
   grind [Lib.idxFuncFrom_end,vI]
 | b::l,0,pos,h,hf=>by simp at hf
 | b::l,f+1,pos,h,hf=>by
   obtain⟨h1,h2,h3⟩:=aQn h;unfold Lib.idxFuncFrom;rw[if_pos h2];by_cases hb:b.toNat<128
   ·rw[aMK s pos (by grind),h1]
    dsimp only;by_cases hp:p75 b.toNat=true;·grind [p75,vI]
    ·rw[if_neg hp,aLg s l f (pos+1) h3 (by grind)]
     grind [vI,p75]
   ·have hd:=aML s pos (by grind)
    grind [p75,vI]
section
variable{D:Nat→Option XFn}{Y:Nat→Option YI}{r:Nat→Option Nat}{h:XH}{H:Hp}{B:Base}
def aKQ:List AV→XH→Option (AV×XH):=fun xs h=>match xs with
 | [.str s,.fn (.func 75) [] []]=>some (.bool (vI s.data.toList),h)
 | _=>none
theorem aVs:iB D 74 aKQ:=by
 intro B Y r h H xs ys v h' sh hr hx;unfold aKQ at hx;split at hx
 ·rename_i s
  cases hx;obtain⟨a,as1,rfl,h1,h2⟩:=hr.inv;obtain⟨b,as2,rfl,h3,h4⟩:=h2.inv;rw[dH h1,h4.nil_inv];have hb:b = .fn (.func 75) [] []:=by
   cases h3 with
   | fn _ _ ys _ vs _ hl1 _ hl2 _ =>
     grind
  rw[hb];refine FnW.shelf (r:=fun _=>.bool (vI s.data.toList)) (fun vs w=>call74 vs w) (fun F w vs=>.bool _) (fun F w vs hl ha=>?_) ⟨r,DL.Sub.refl r,sh,.bool _⟩;obtain⟨v1,vs1,rfl,k1,k2⟩:=ha.cons1;obtain⟨v2,vs2,rfl,k3,k4⟩:=k2.cons1;rw[k4.nil1];cases k1;cases k3 with
  | fn _ _ _ fv cv hl1 hl2 _ _ =>
    have e1:fv = #[]:=by
     grind
    have e2:cv = #[]:=by
     grind
    rw[e1,e2];have hc:=Tryz.strings_ContainsFunc_runes 75 #[] (fun vs w=>call75 vs w) p75 s w (fun W x hx _=>bEY x hx W);have he:decide (0≤Lib.idxFunc p75 true s)=vI s.data.toList:=aLg s s.data.toList s.size 0 rfl (by simp_all)
    grind
 ·cases hx
end
end
section
open Go Go.DL Go.Proofs.Tryz
noncomputable def ops56:Array Oper:=match f56.body with
 | some (.seq (.region _ ops _) _)=>ops
 | _ => #[]
noncomputable def rest56:Code:=match f56.body with
 | some (.seq (.region _ _ _) c)=>c
 | _=>.skip
theorem aXO:f56.body=some (.seq (.region 0 ops56 false) rest56):=rfl
theorem aWP:∃ o,ops56[0]?=some o∧o.dst=some 4∧o.guard=none∧o.op = .call { callee:=.builtin .recover,args := #[],argTypes := #[] }:=⟨_,rfl,rfl,rfl,rfl⟩
theorem aWO:∃ o,ops56[1]?=some o∧o.dst=some 5∧o.guard=none∧o.op = .typeAssert (.tmp 4) 20 110 true:=⟨_,rfl,rfl,rfl,rfl⟩
def pD:List DOper:=[⟨0,some 3,.mv (.t 5),none⟩,⟨0,some 6,.ext (.t 3) 0,none⟩,⟨0,some 7,.ext (.t 3) 1,none⟩,⟨0,some 1,.alloc [.int .i64 0],none⟩,⟨0,none,.store 1 (.t 1) (.t 6) [],none⟩,⟨0,some 2,.mv (.t 7),none⟩]
def zL:List DOper:=[⟨0,some 8,.mv (.t 2),none⟩]
def xW:List DOper:=[⟨0,some 9,.fld 0 (.t 1),none⟩,⟨0,some 10,.load false 1 (.t 9),none⟩,⟨0,some 11,.callf false (.c (.fn (.func 57) [] [])) [.t 10] [],none⟩,
 ⟨0,some 12,.bin .add (.c (.str ⟨#[110,111,32]⟩)) (.t 11),none⟩,⟨0,none,.store 1 (.t 0) (.t 12) [],none⟩]
noncomputable def ops56m:Array Oper:=match f56.body with
 | some (.seq _ (.seq (.region _ ops _) _))=>ops
 | _ => #[]
noncomputable def ops56l:Array Oper:=match f56.body with
 | some (.seq _ (.seq _ (.cond _ (.region _ ops _) _)))=>ops
 | _ => #[]
theorem aMm:rest56 = .seq (.region 1 ops56m false) (.cond (.tmp 8) (.region 2 ops56l false) .skip):=rfl
theorem aTn:((ops56.toList.drop 2).mapM (aFU prog ops56))=some pD:=by kernel_rfl
theorem aXE:wX prog 13 ops56m false=some zL:=by kernel_rfl
theorem aUj:wX prog 13 ops56l false=some xW:=by kernel_rfl
theorem aWn:ops56.size=8:=rfl
theorem aYY:f56.results = #[]:=rfl
theorem aZw:f56.ntmps=13:=rfl
noncomputable def code21:Code:=match f21.body with
 | some (.seq _ (.seq _ c))=>c
 | _=>.skip
noncomputable def r21_0:Array Oper:=match f21.body with
 | some (.seq (.region _ ops _) _)=>ops
 | _ => #[]
noncomputable def r21_1:Array Oper:=match f21.body with
 | some (.seq _ (.seq (.region _ ops _) _))=>ops
 | _ => #[]
theorem aXP:f21.body=some (.seq (.region 0 r21_0 false) (.seq (.region 1 r21_1 false) code21)):=rfl
theorem aZl:wX prog 41 r21_0 false=some [⟨0,some 4,.alloc [.str ⟨#[]⟩],none⟩]:=by kernel_rfl
theorem aZA:∃ o,r21_1[0]?=some o∧aFU prog r21_1 o=some ⟨0,some 7,.mkf (.func 56) [] [.t 4],none⟩:=⟨_,rfl,by kernel_rfl⟩
theorem bFb:∃ o,r21_1[1]?=some o∧o.dst=none∧o.guard=none∧o.op = .defer { callee:=.value (.tmp 7),args := #[],argTypes := #[] }:=⟨_,rfl,rfl,rfl,rfl⟩
theorem bCQ:r21_1.size=2:=rfl
theorem aZx:f21.ntmps=41:=rfl
theorem aYZ:f21.results.toList.mapM (aCk prog)=some [(4,some (false,1))]:=by kernel_rfl
section
variable{D:Nat→Option XFn}{B:Base}{Y:Nat→Option YI}{r:Nat→Option Nat}{h:XH}{H:Hp}{F:Nat→Prop}{w:World}
theorem aHe:∀(j:Nat)(d:DOper),pD[j]?=some d→Reads prog ops56 (2+j) d:=by
 intro j d hj;obtain⟨h1,h2⟩:=aBs aTn
 grind [qC]
theorem aMy:∀ d∈pD,aFT 13 d:=by
 intro d hd;simp only[pD,C3,G4,AAh]at hd;rcases hd with rfl|rfl|rfl|rfl|rfl|rfl<;>exact⟨by grind,rfl⟩
theorem aWe{run:eC}{runY:eT}(hf:FnS prog B D Y run)(hy:YS prog B D Y runY)(hm:prog.follows .mixedOrders=true)(hB:B.Up F w)(st:St F w H)(sh:SH D Y r h H){c o b:Nat}(hrc:r c=some b)
 {i:aIS} (hi1:i.hops=pD++zL) (hi2:i.hlast=xW) (hi3:i.is=8) {v v':AV} {t:Bool} (hv:Rn D Y r v v') {h3:XH} (hx:uU i run runY (.pt c o) v t h=some h3)
 {x vv:Value} (hta:(Instr.typeAssert x 20 110 true).run prog w = .ok (.tuple #[vv,.bool t]) w) (hvv:Rv F w v' vv) {cs:List Frame} {Q:Exit→Act→List Frame→World→Prop} {a:Act} (ha:a.tmps.size=13) (hdf:a.defers=[])
 (ha4:a.eval (.tmp 4)=x) (ha0:a.tmps.getD 0 undef = .pointer (some ⟨b,o,none⟩)) (gi:GI F w)
 (hQ:∀ a' F' w' H' r',a'.defers=[]→Ext F w H F' w' H'→St F' w' H'→Sub r r'→SH D Y r' h3 H'→Q .normal a' cs w') :
 wpOpsIn Fence.wide 0 prog ops56 (fun e a w=>Exit.thenS (rest56.wpSIn Fence.wide 0 prog Q) Q e a cs w) (List.range' 1 7) a w:=by
 obtain⟨o1,g1,g2,g3,g4⟩:=aWO;rw[aA9,wpOpsIn_cons];unfold wpOpIn;simp only[g1];have hw:Region.wanted o1 (yielded ops56 a.tmps)=true:=by unfold Region.wanted;rw[g3]
 rw[if_pos hw];refine⟨fun _ _=>trivial,?_⟩;have hs:(o1.semAt Fence.wide.round a.eval).run prog w = .ok (.value (.tuple #[vv,.bool t])) w:=by
  rw[Oper.semAt_eq _ _ _ (by grind)];simp[execOp,g4,ha4,hta]
 rw[hs,Oper.uponIn_value,g2];have hsr:SR D Y r (aBU (.pt c o) v t) h (aBU (.pt b o) v' t) H:=⟨sh,fun j=>by
  unfold aBU;split;·exact .pt _ _ _ hrc
  ·split
   ·exact .tup _ _ rfl fun i x y hx hy=>by
     match i with
     | 0=>grind
     | 1=>simp at hx hy;subst hx hy;exact .bool _
     | k+2=>simp at hx
   ·exact .any _⟩
 have hre:RE F w (aBU (.pt b o) v' t) (a.put (some 5) (.tuple #[vv,.bool t])):=⟨fun k=>by
  unfold aBU;have hsz5:5<a.tmps.size:=AT
  split
  ·rename_i hk;subst hk
   simp only[Act.put,E9,H6]at ha0 ⊢;simp only[show ¬(5=0) by omega,AAd];rw[ha0];exact .pt _ _
  ·split
   ·rename_i hk;subst hk
    simp only[Act.put,E9,H6,AAe,hsz5,G3];exact .tup _ _ rfl fun i x y hx hy=>by
     match i with
     | 0=>grind
     | 1=>simp at hx hy;subst hx hy;exact .bool _
     | k+2=>simp at hx
   ·exact .any _,gi⟩
 unfold uU at hx;split at hx
 ·rename_i e1 h1 hx1
  rw[hi1]at hx1;have R:=aMk (kX (P:=prog) (B:=B) hf hy (pD++zL) r _ h _ H e1 h1 (fun env' H'=>∃ r',Sub r r'∧SR D Y r' e1 h1 env' H') rfl hsr hx1 (fun r' env' H' hs sr'=>⟨r',hs,sr'⟩));refine aDv (r:=none) (B:=B) (N:=13) pD 2 aHe aMy F w H _ _ (by simp_all) hB st hre R ?_;intro a3 F3 w3 env3 H3 s1 s2 s3 s4 s5 s6;show rest56.wpSIn Fence.wide 0 prog Q a3 cs w3;rw[aMm];have hB3:=hB.step st s3;refine wpSIn_seq (wpSIn_of_wpIn rfl (oO (B:=B) (r:=none) (F:=F3) (H:=H3) (env:=env3) (N:=13) (draw:=false) hm aXE s1 hB3 s4 s5 s6 ?_));rintro a4 F4 w4 env4 H4 q1 q2 q3 q4 q5 ⟨r4,q6,q7⟩;show (Code.cond (.tmp 8) (.region 2 ops56l false) .skip).wpSIn Fence.wide 0 prog Q a4 cs w4;have hd4:a4.defers=[]:=by simp_all
  have E4:=s3.trans q3;have h8:=q7.re i.is;rw[hi3]at h8 hx;split at hx
  ·rename_i h8t
   rw[h8t]at h8;have hev:a4.eval (.tmp 8) = .bool true:=by
    have:=q5.rv 8;rw[fZ h8]at this;show a4.tmps.getD 8 undef=_;generalize a4.tmps.getD 8 undef=z at this;cases this;rfl
   refine wpSIn_cond (t:=true) hev ?_;simp only[B2]at hx;obtain⟨⟨e5,h5⟩,hx5,rfl⟩:=hx;rw[hi2]at hx5
   refine wpSIn_of_wpIn rfl (oO (B:=B) (r:=none) (F:=F4) (H:=H4) (env:=env4) (N:=13) (draw:=false) hm aUj q1 (hB3.step s4 q3) q4 q5
    (kX (P:=prog) (B:=B) hf hy xW r4 _ h1 _ H4 e5 h5 (fun env' H'=>∃ r',Sub r r'∧SR D Y r' e5 h5 env' H') rfl q7 hx5 (fun r' env' H' hs sr'=>⟨r',q6.trans hs,sr'⟩)) ?_)
   rintro a5 F5 w5 env5 H5 p1 p2 p3 p4 p5 ⟨r5,p6,p7⟩;exact hQ a5 F5 w5 H5 r5 (by grind) (E4.trans p3) p4 p6 p7.sh
  ·rename_i h8t
   rw[h8t]at h8;simp only[oSI]at hx;subst hx;have hev:a4.eval (.tmp 8) = .bool false:=by
    have:=q5.rv 8;rw[fZ h8]at this;show a4.tmps.getD 8 undef=_;generalize a4.tmps.getD 8 undef=z at this;cases this;rfl
   refine wpSIn_cond (t:=false) hev ?_;exact wpSIn_of_wpIn rfl (wpIn_skip (hQ a4 F4 w4 H4 r4 hd4 E4 q4 q6 q7.sh))
  ·simp at hx
 ·simp at hx
theorem aIR(vv:Value):(Instr.typeAssert (.iface 110 vv) 20 110 true).run prog w = .ok (.tuple #[vv,.bool true]) w:=by
 rfl
theorem aKr:(Instr.typeAssert .nilIface 20 110 true).run prog w = .ok (.tuple #[.agg #[.int .i64 0],.bool false]) w:=by
 rfl
theorem aXi{run:eC}{runY:eT}(hf:FnS prog B D Y run)(hy:YS prog B D Y runY)(hm:prog.follows .mixedOrders=true)(hB:B.Up F w)(st:St F w H)(sh:SH D Y r h H){c o b:Nat}(hrc:r c=some b)
 {i:aIS} (hi1:i.hops=pD++zL) (hi2:i.hlast=xW) (hi3:i.is=8) {v v':AV} {t:Bool} (hv:Rn D Y r v v') {h3:XH} (hx:uU i run runY (.pt c o) v t h=some h3) {u:FrameMode} {R:Ending→FrameMode→World→Prop} {cval:Value}
 (hu:(t=true∧u = .panicking (pnc cval)∧Rv F w (.ifc 110 v') cval)∨(t=false∧u = .returning∧v' = .agg [.int .i64 0]))
 (hR:∀ F' w' H' r' u',settle u' = .returning→Ext F w H F' w' H'→St F' w' H'→Sub r r'→SH D Y r' h3 H'→R (.returned (.tuple #[])) u' w') :
 CallsDIn Fence.wide 0 prog 56 #[.pointer (some ⟨b,o,none⟩)] u w R:=by
 refine callsDIn_of_wpSIn func56 aXO trivial fun c₀ cs hc0=>?_;rw[aZw];obtain⟨o0,g1,g2,g3,g4⟩:=aWP;refine wpSIn_seq (aEG g1 g3 (fun _ _=>trivial) (by simp[execOp,resolve,g4,invoke,builtin]) rfl ?_)
 have fin:∀(x vv:Value)(cs':List Frame)(u':FrameMode),cs'={ c₀ with mode:=u' }::cs→settle u' = .returning→(Instr.typeAssert x 20 110 true).run prog w = .ok (.tuple #[vv,.bool t]) w→Rv F w v' vv →
  wpOpsIn Fence.wide 0 prog ops56 (fun e a w=>Exit.thenS (rest56.wpSIn Fence.wide 0 prog (bodyPostS prog f56 c₀ cs R)) (bodyPostS prog f56 c₀ cs R) e a cs' w) (List.range' 1 (ops56.size-1))
   (Act.put { tmps := #[.pointer (some ⟨b,o,none⟩)]++Array.replicate (13 - #[Value.pointer (some ⟨b,o,none⟩)].size) undef,defers:=[] } o0.dst x) w:=by
  intro x vv cs' u' hcs hset hta hvv;rw[g2,aWn];refine aWe hf hy hm hB st sh hrc hi1 hi2 hi3 hv hx hta hvv (by simp[Act.put]) rfl (by simp[Act.put,Act.eval]) (by simp[Act.put]) (B.gi.up hB) ?_;intro a' F' w' H' r' k1 k2 k3 k4 k5;refine⟨k1,u',hcs,.tuple #[],?_,hR F' w' H' r' u' hset k2 k3 k4 k5⟩;simp[results,aYY]
 rcases hu with ⟨rfl,rfl,hc⟩|⟨rfl,rfl,rfl⟩
 ·cases hc with
  | ifc _ _ vv hvv =>
  have hrec:recoverD (c₀::cs)=some (.iface 110 vv,{ c₀ with mode:=.panicking [{ v:=.iface 110 vv,recovered:=true }] }::cs):=by
   simp[recoverD,hc0,pnc]
  rw[hrec];exact fin _ vv _ _ rfl rfl (aIR vv) hvv
 ·have hrec:recoverD (c₀::cs)=none:=by simp[recoverD,hc0]
  rw[hrec];exact fin _ (.agg #[.int .i64 0]) _ .returning (by rw[←hc0]) rfl aKr (.agg _ _ rfl (fun i v hv=>by
   match i with
   | 0=>simp at hv;subst hv;rfl
   | k+1=>simp at hv) (fun i x y hx hy=>by
   match i with
   | 0=>simp at hx hy;subst hx hy;exact .int _ _
   | k+1=>simp at hx))
def b21:XCode:=(.seq (.reg [(0,false)] false [⟨0,(some 8),(.mv (.t 0)),none⟩,⟨0,(some 9),(.callf false (.c (.fn (.func 59) [] [])) [(.t 8)] []),none⟩,⟨0,(some 10),
 (.not (.t 9)),none⟩,⟨0,(some 11),(.callf false (.c (.fn (.func 58) [] [])) [(.t 10),(.c (.int .i64 9))] []),none⟩]) (.seq (.reg [(1,false)] false
 [⟨0,(some 12),(.mv (.t 1)),none⟩,⟨0,(some 13),(.callf false (.c (.fn (.func 60) [] [])) [(.t 12)] []),none⟩,⟨0,(some 5),(.alloc [(.str ⟨#[]⟩),
 .nilsl,.nilsl]),none⟩,⟨0,none,(.store 3 (.t 5) (.t 13) []),none⟩]) (.seq (.reg [(0,false),(5,true)] false [⟨0,(some 14),(.mv (.t 0)),none⟩,⟨0,
 (some 15),(.load true 3 (.t 5)),none⟩,⟨0,(some 16),(.callf false (.c (.fn (.func 61) [] [])) [(.t 14),(.t 15)] []),none⟩,⟨0,(some 6),(.mv (.t
 16)),none⟩]) (.seq (.seq (.reg [] false [⟨0,(some 17),(.mv (.t 6)),none⟩,⟨0,(some 18),(.eqn 2 false (.t 17) (.c .nilfn)),none⟩]) (.cond (.t 18)
 (.seq (.reg [(0,false),(5,true)] false [⟨0,(some 19),(.mv (.t 0)),none⟩,⟨0,(some 20),(.load true 3 (.t 5)),none⟩,⟨0,(some 21),(.callf false (.c
 (.fn (.func 62) [] [])) [(.t 19),(.t 20)] []),none⟩,⟨0,none,(.store 1 (.t 4) (.t 21) []),none⟩]) .ret) .skip)) (.seq (.reg [] false [⟨0,(some 22),
 (.mv (.t 0)),none⟩,⟨0,(some 23),(.nilck (.t 22)),none⟩,⟨0,(some 24),(.fld 6 (.t 23)),none⟩,⟨0,(some 25),(.load false 1 (.t 24)),none⟩,⟨0,
 (some 26),(.len false (.t 25)),none⟩,⟨0,(some 27),(.bin .lss (.t 26) (.c (.int .i64 300))),none⟩,⟨0,(some 28),(.callf false (.c (.fn (.func 58) []
 [])) [(.t 27),(.c (.int .i64 15))] []),none⟩]) (.seq (.reg [] false [⟨0,(some 29),(.mv (.t 6)),none⟩,⟨0,(some 30),(.callf false (.t 29) [] []),
 none⟩]) (.seq (.reg [(1,false)] false [⟨0,(some 31),(.mv (.t 0)),none⟩,⟨0,(some 32),(.mv (.t 0)),none⟩,⟨0,(some 33),(.nilck (.t 32)),none⟩,⟨0,
 (some 34),(.fld 6 (.t 33)),none⟩,⟨0,(some 35),(.load false 1 (.t 34)),none⟩,⟨0,(some 36),(.mv (.t 1)),none⟩,⟨0,(some 37),(.bslice 1 1 [(.str
 ⟨#[]⟩)] [(0,(1,(.t 36)))]),none⟩,⟨0,(some 38),(.app 1 16 (.t 35) (.t 37)),none⟩,⟨0,(some 39),(.nilck (.t 31)),none⟩,⟨0,(some 40),(.fld 6 (.t
 39)),none⟩,⟨0,none,(.store 1 (.t 40) (.t 38) []),none⟩]) (.seq (.reg [] false [⟨0,none,(.store 1 (.t 4) (.c (.str ⟨#[111,107]⟩)) []),none⟩])
 .ret))))))))
def saySay:aIS:=⟨41,[(4,some (false,1))],[⟨0,some 4,.alloc [.str ⟨#[]⟩],none⟩],4,7,b21,110,.agg [.int .i64 0],pD++zL,8,xW⟩
theorem aFV:eA prog 41 code21=some b21.erase:=by kernel_rfl
theorem aZv:sQ b21=true:=by kernel_rfl
theorem aZy:wC b21=true:=by kernel_rfl
end
noncomputable def m58a:Array Oper:=match f58.body with
 | some (.seq (.region _ ops _) _)=>ops
 | _ => #[]
noncomputable def m58b:Array Oper:=match f58.body with
 | some (.seq _ (.cond _ (.region _ ops _) _))=>ops
 | _ => #[]
theorem aXN:f58.body=some (.seq (.region 0 m58a false) (.cond (.tmp 5) (.region 1 m58b false) .skip)):=rfl
def aXf:List DOper:=[⟨0,some 4,.mv (.t 0),none⟩,⟨0,some 5,.not (.t 4),none⟩]
def l58b:List DOper:=[⟨0,some 6,.mv (.t 1),none⟩,⟨0,some 7,.build [.int .i64 0] [(0,(1,.t 6))],none⟩,⟨0,some 8,.mkifc 110 (.t 7),none⟩]
theorem aRa:wX prog 9 m58a false=some aXf:=by kernel_rfl
theorem aQZ:((m58b.toList.take 3).mapM (aFU prog m58b))=some l58b:=by kernel_rfl
theorem p58:∃ o,m58b[3]?=some o∧o.guard=none∧o.op = .panic (.tmp 8):=⟨_,rfl,rfl,rfl⟩
theorem s58:m58b.size=4:=rfl
section
variable{D:Nat→Option XFn}{B:Base}{Y:Nat→Option YI}{r:Nat→Option Nat}{h:XH}{H:Hp}
def aKU:eC:=fun _ _ _=>none
def aGQ:eT:=fun _ _ _=>none
theorem aId:FnS prog B D Y aKU:=fun _ _ _ _ _ _ _ _ _ _ hx=>by simp[aKU]at hx
theorem aFC:YS prog B D Y aGQ:=fun _ _ _ _ _ _ _ _ _ _ _ _ hx=>by simp[aGQ]at hx
theorem bBW(k:IntKind)(n:Int):∃ e1,eU aKU aGQ aXf (aT [.bool false,.int k n]) h=some (e1,h)∧e1 5 = .bool true∧e1 1 = .int k n:=⟨_,rfl,rfl,rfl⟩
theorem bBV{e:aI}{k:IntKind}{n:Int}(he:e 1 = .int k n):∃ e1,eU aKU aGQ l58b e h=some (e1,h)∧e1 8 = .ifc 110 (.agg [.int k n]):=by
 refine⟨aX (aX (aX e (some 6) (.int k n)) (some 7) (.agg [.int k n])) (some 8) (.ifc 110 (.agg [.int k n])),?_,rfl⟩;have h0:aK e (.t 1) = .int k n:=he;simp only[l58b,eU,gd,cV,aD,h0,D8];rfl
theorem aMn{P:Program}{ops:Array Oper}{r:Option Nat}{N:Nat}{Q:Exit→Act→World→Prop}{tl:List Nat}{K:aI→Hp→Prop}:∀(l:List DOper)(i:Nat),(∀ j d,l[j]?=some d→Reads P ops (i+j) d)→(∀ d∈l,aFT N d) →
 ∀(F:Nat→Prop)(w:World)(H:Hp)(env:aI)(a:Act),a.tmps.size=N→B.Up F w→St F w H→RE F w env a→RS B P l K env H→DL.Ends N a F w H K (fun a' w'=>wpOpsIn (FW r) 0 P ops Q tl a' w') →
 wpOpsIn (FW r) 0 P ops Q (List.range' i l.length++tl) a w:=by
 intro l;induction l with
 | nil=>intro i _ _ F w H env a hsz hB st re h hQ;exact hQ a F w env H hsz rfl (Ext.refl _ _ _) st re h
 | cons d l ih =>
   intro i hr hd F w H env a hsz hB st re h hQ;rw[D5,aA9,J3,wpOpsIn_cons];refine aCT (hr 0 d rfl) (hd d (by simp)).2 (hd d (by simp)).1 hsz hB st re h ?_;intro a' F' w' env' H' h1 h2 h3 h4 h5 h6;exact ih (i+1) (fun j d' hj=>by have:=hr (j+1) d' (by grind);grind) (fun d' hd'=>hd d' (by simp[hd'])) F' w' H' env' a' h1 (hB.step st h3) h4 h5 h6 (hQ.step h2 h3)
theorem bCX(hm:prog.follows .mixedOrders=true)(k:IntKind)(n:Int){as':List AV}(sh:SH D Y r h H)(hA:RnL D Y r [.bool false,.int k n] as'):FnP B prog 58 as' H (eO D Y r (.ifc 110 (.agg [.int k n])) h):=by
 have hl:as'.length=2:=by simp_all [RnL]
 refine⟨fun vs w=>call58 vs w,fun F w vs hB st hAr=>?_⟩;have hsz:(vs++Array.replicate (f58.ntmps-vs.size) undef).size=9:=by
  have h1:=hAr.1
  simp_all
 have hre:=aCD (N:=9) (nt:=f58.ntmps-vs.size) hB hAr;obtain⟨e1,hx1,he5,he1⟩:=bBW (h:=h) k n;have yC:=kX (P:=prog) (B:=B) aId aFC aXf r _ h _ H e1 h (fun env' H'=>∃ r',DL.Sub r r'∧SR D Y r' e1 h env' H') rfl ⟨sh,sL hA⟩ hx1 (fun r' env' H' hs sr'=>⟨r',hs,sr'⟩);refine callsIn_of_wp_marks func58 aXN trivial (wpIn_seq (oO (B:=B) (r:=none) (N:=9) (draw:=false) hm aRa hsz hB st hre yC ?_));rintro a1 F1 w1 env1 H1 p1 p2 p3 p4 p5 ⟨r1,p6,p7⟩;show (Code.cond (.tmp 5) (.region 1 m58b false) .skip).wpIn Fence.wide 0 prog _ a1 w1;have hev:a1.eval (.tmp 5) = .bool true:=by
  have h5:=p7.re 5;rw[he5]at h5;have:=p5.rv 5;rw[fZ h5]at this;show a1.tmps.getD 5 undef=_;generalize a1.tmps.getD 5 undef=z at this;cases this;rfl
 refine wpIn_cond (t:=true) hev (wpIn_region ?_);rw[s58,show List.range 4=List.range' 0 l58b.length++[3] from rfl];obtain⟨e2,hx2,he8⟩:=bBV (h:=h) he1;have cK:=kX (P:=prog) (B:=B) aId aFC l58b r1 _ h _ H1 e2 h (fun env' H'=>∃ r',DL.Sub r r'∧SR D Y r' e2 h env' H') rfl p7 hx2 (fun r' env' H' hs sr'=>⟨r',p6.trans hs,sr'⟩);refine aMn (r:=none) (B:=B) (N:=9) l58b 0 (fun j d hj=>?_) (fun d hd=>?_) F1 w1 H1 env1 a1 p1 (hB.step st p3) p4 p5 cK ?_
 ·obtain⟨h1,h2⟩:=aBs aQZ
  obtain⟨o,h3,h4⟩:=h2 j d hj;rw[J4]
  grind [qC]
 ·simp only[l58b,C3,G4,AAh]at hd
  rcases hd with rfl|rfl|rfl<;>exact⟨by grind,rfl⟩
 rintro a2 F2 w2 env2 H2 q1 q2 q3 q4 q5 ⟨r2,q6,q7⟩;obtain⟨o,g1,g2,g3⟩:=p58;rw[wpOpsIn_cons];unfold wpOpIn;simp only[g1];have hw:Region.wanted o (yielded m58b a2.tmps)=true:=by unfold Region.wanted;rw[g2]
 rw[if_pos hw];refine⟨fun _ _=>trivial,?_⟩;have h8:=q7.re 8;rw[he8]at h8;have hrv:=q5.rv 8;cases hz:env2 8<;>rw[hz]at h8<;>cases h8
 rename_i v8 h8;rw[hz]at hrv;obtain⟨cv,hcv⟩:∃ cv,a2.tmps.getD 8 undef=cv:=⟨_,rfl⟩;rw[hcv]at hrv;have hev8:a2.eval (.tmp 8)=cv:=hcv;have hrv0:=hrv;cases hrv with
 | ifc _ _ vv hvv =>
 have hsem:(o.semAt (FW none).round a2.eval).run prog w2 = .halt (.panic (.iface 110 vv)) w2:=by
  rw[Oper.semAt_eq _ _ _ (by grind)];simp[execOp,g3,hev8,Instr.panic,goPanic]
 rw[hsem,Oper.uponIn_panic];show LeavesInM Fence.wide 0 prog f58 a2.tmps _ a2.defers (.panicking _) w2;have hd2:a2.defers=[]:=by rw[q2,p2]
 rw[hd2];exact⟨.iface 110 vv,_,F2,H2,rfl,p3.trans q3,q4,hrv0,r2,q6,q7.sh,.ifc _ _ _ h8⟩
end
end
section
open Go Go.DL Go.Proofs.Tryz
def jZ(f:List AV→XH→Option (AV×XH)):XFn:=⟨10,[],false,false,.skip,none,some f⟩
def aZm(n:Nat):XFn:=⟨n,[],false,false,.skip,none,some fun _ _=>none⟩
def aPv(K:Nat):Option XFn:=match K with
 | 37=>some (jZ aDz)
 | 47=>some (jZ aHY)
 | 57=>some (jZ aBo)
 | 71=>some (jZ aHX)
 | 72=>some (jZ aAC)
 | 74=>some (jZ aKQ)
 | 80=>some (jZ aDy)
 | 83=>some (jZ aAB)
 | 99=>some (jZ aDA)
 | 115=>some (jZ aGN)
 | 143=>some (jZ vZ)
 | 21=>some (aZm 41)
 | K=>aPu K
theorem aVn{D:Nat→Option XFn}{K:Nat}:iB D K (fun _ _=>none):=fun _ _ _ _ _ _ _ _ _ _ _ hx=>by cases hx
theorem XOk.over{D D':Nat→Option XFn}(ok:XOk prog D)(h:∀ K d,D' K=some d→(D K=some d∧d.prm=none)∨∃ n f,d=⟨n,[],false,false,.skip,none,some f⟩∧iB D' K f):XOk prog D' where
 mixed:=ok.mixed
 is K d hd hp:=by
  rcases h K d hd with ⟨h1,_⟩|⟨n,f,rfl,_⟩;·exact ok.is K d h1 hp
  ·cases hp
 prm K d f hd hp B Y _ r hh H xs ys v h' sh hr hx:=by
  rcases h K d hd with ⟨_,h2⟩|⟨n,f',rfl,h2⟩;·grind
  ·cases hp
   exact h2 B Y r hh H xs ys v h' sh hr hx
 ok K d hd:=by
  rcases h K d hd with ⟨h1,_⟩|⟨n,f,rfl,_⟩;·exact ok.ok K d h1
  ·rfl
 sites K d hd:=by
  rcases h K d hd with ⟨h1,_⟩|⟨n,f,rfl,_⟩;·exact ok.sites K d h1
  ·trivial
end
section
open Go Go.DL Go.RowKit Go.Proofs.Tryz
variable{D:Nat→Option XFn}{Y:Nat→Option YI}{r:Nat→Option Nat}{h:XH}{H:Hp}{B:Base}
def sK(s:ByteArray):AV:=match Lib.atoiAll s.data.toList with
 | .ok v=>.tup [.int .i64 v,.nilifc]
 | Lib.NumEnd.syntax=>.tup [.int .i64 0,.ifc 232 .any]
 | .range=>.tup [.int .i64 (Lib.atoiSat s.data.toList),.ifc 232 .any]
def aDB:List AV→XH→Option (AV×XH):=fun xs h=>match xs with
 | [.str s]=>if s.size≤100000 then some (sK s,h) else none
 | _=>none
theorem aGn{F:Nat→Prop}{w:World}{a b:AV}{x y:Value}(h1:Rv F w a x)(h2:Rv F w b y):Rv F w (.tup [a,b]) (.tuple #[x,y]):=by
 refine .tup _ _ rfl fun i c v hc hv=>?_
 grind
theorem aGo{a b x y:AV}(h1:Rn D Y r a x)(h2:Rn D Y r b y):Rn D Y r (.tup [a,b]) (.tup [x,y]):=by
 refine .tup _ _ rfl fun i c v hc hv=>?_
 grind
theorem aVp:iB D 86 aDB:=by
 intro B Y r h H xs ys v h' sh hr hx;unfold aDB at hx;split at hx
 ·rename_i s
  split at hx
  ·rename_i hn
   cases hx;obtain⟨a,as1,rfl,h1,h2⟩:=hr.inv;rw[dH h1,h2.nil_inv];have hrn:Rn D Y r (sK s) (sK s):=by
    unfold sK;split;·exact aGo (.int _ _) .nilifc
    ·exact aGo (.int _ _) (.ifc _ _ _ (.any _))
    ·exact aGo (.int _ _) (.ifc _ _ _ (.any _))
   refine FnW.shelfG (fun vs w=>call86 vs w) (fun F w vs gi hl ha=>?_) ⟨r,DL.Sub.refl r,sh,hrn⟩;obtain⟨b,bs,rfl,h3,h4⟩:=ha.cons1;cases h3;rw[h4.nil1];obtain⟨_,ev1,hv1,he1⟩:=gi.2.2.2 1 (by simp[aCx]);obtain⟨_,ev2,hv2,he2⟩:=gi.2.2.2 2 (by simp[aCx]);unfold sK;cases hA:Lib.atoiAll s.data.toList with
   | ok v =>
     refine(Tryz.strconv_Atoi_ok s AT v hA w).mono ?_;rintro e w' ⟨rfl,hw⟩;have hbel:Below w.heap.size w w':=by
      grind [Below.refl,Lib.bytesWorld_below]
     exact⟨_,F,rfl,hbel,fun _ h=>h,fun _ h=>.inl h,fun b hb=>D9 (hl b hb) hbel.size,aGn (.int _ _) .nilifc⟩
   | range =>
     refine(Tryz.strconv_Atoi_range s AT hA ev2 w hv2 he2).mono ?_;rintro e w' ⟨N,rfl,_,_,hbel⟩;exact⟨_,F,rfl,hbel,fun _ h=>h,fun _ h=>.inl h,fun b hb=>D9 (hl b hb) hbel.size,aGn (.int _ _) (.ifc _ _ _ (.any _))⟩
   | _ =>
     refine(Tryz.strconv_Atoi_syntax s AT hA ev1 w hv1 he1).mono ?_;rintro e w' ⟨N,rfl,_,_,hbel⟩;exact⟨_,F,rfl,hbel,fun _ h=>h,fun _ h=>.inl h,fun b hb=>D9 (hl b hb) hbel.size,aGn (.int _ _) (.ifc _ _ _ (.any _))⟩
  ·cases hx
 ·cases hx
end
section
open Go Go.DL Go.Proofs.Tryz
def aB(K:Nat):Option XFn:=match K with
 | 86=>some (jZ aDB)
 | K=>aPv K
theorem aA:XOk prog aB:=by
 refine XOk.over progX_ok fun K d hd=>?_;unfold aB at hd;split at hd;·cases hd;exact .inr ⟨_,_,rfl,aVp⟩
 ·unfold aPv at hd
  split at hd;·cases hd;exact .inr ⟨_,_,rfl,aVx⟩
  ·cases hd;exact .inr ⟨_,_,rfl,aVw⟩
  ·cases hd;exact .inr ⟨_,_,rfl,aVv⟩
  ·cases hd;exact .inr ⟨_,_,rfl,aVu⟩
  ·cases hd;exact .inr ⟨_,_,rfl,aVt⟩
  ·cases hd;exact .inr ⟨_,_,rfl,aVs⟩
  ·cases hd;exact .inr ⟨_,_,rfl,aVr⟩
  ·cases hd;exact .inr ⟨_,_,rfl,aVq⟩
  ·cases hd;exact .inr ⟨_,_,rfl,aVo⟩
  ·cases hd;exact .inr ⟨_,_,rfl,aPy⟩
  ·cases hd;exact .inr ⟨_,_,rfl,aPx⟩
  ·cases hd;exact .inr ⟨_,_,rfl,aVn⟩
  ·exact .inl ⟨hd,aWD hd⟩
theorem qX(K:Nat)(d:XFn)(hD:aB K=some d){vs:List AV}{h:XH}(hl:vs.length≤d.N:=by exact N4 rfl)(hdf:d.dfr=none:=by rfl)(hpr:d.prm=none:=by rfl)(hg:kJ K=false:=by rfl):runW aB K vs h=gN none d.res d.ownR h.length (execW aB K h.length none d.body (aT (if d.ownA then vs else kQ vs)) h):=cX hD hl h hdf hpr hg
theorem qY(K:Nat)(d:XFn)(hD:aB K=some d){vs:List AV}{h:XH}(hl:vs.length≤d.N:=by exact N4 rfl)(hdf:d.dfr=none:=by rfl)(hg:kJ K=true:=by rfl)(hpr:d.prm=none:=by rfl):runW aB K vs h=aEV d.res (execW aB K h.length none d.body (aT (if d.ownA then vs else kQ vs)) h):=aOL hD hl h hdf hg hpr
end
section
open Go Go.DL
def jN(x:Nat):Nat:=(x+224)%256
def newF(s:List Nat):List Nat:=s.take 40++List.replicate (40-s.length) 32
def aEq:Nat→List Nat→Nat
 | _,[]=>0
 | i,x::r=>(i+1)*jN x+aEq (i+1) r
def chk(row:Nat)(f:List Nat):Nat:=(row+aEq 0 f)%9973
def sI(c:Nat):List Nat:=[48+c/1000,48+c/100%10,48+c/10%10,48+c%10]
def iY(row:Nat)(f:List Nat):List Nat:=sI (chk row f)++(f++[10])
def eH(times:Nat):List Nat→List Nat→List Nat
 | a::f,b::o=>(32+(jN a+times*jN b)%95)::eH times f o
 | _,_=>[]
def bN(s:ByteArray):List Nat:=s.data.toList.map UInt8.toNat
def nG(l:List Nat):ByteArray:=⟨⟨l.map UInt8.ofNat⟩⟩
def wZ(l:List Nat):AV:=.agg (l.map fun(n:Nat)=>.int .u8 (n:Int))
end
section
open Go Go.DL
abbrev U(n:Nat):AV:=.int .u8 (n:Int)
theorem oC(p:Prop):p=True∨p=False:=by
 grind
theorem dD{α:Type}{l:List α}{i:Nat}(h:i<l.length):∃ x,l[i]?=some x:=by simp_all
theorem dU{n i:Nat}(h:i<n)(hn:n≤9223372036854775807):IntKind.i64.wrap ((i:Int)+1)=(i:Int)+1:=aF AT AT
theorem p57{xs:List AV}{h:XH}:runW aB 57 xs h=aBo xs h:=dF rfl rfl xs h
theorem bCY{xs:List AV}{h:XH}:runW aB 143 xs h=vZ xs h:=dF rfl rfl xs h
theorem q44{vs:List AV}{h:XH}(hl:vs.length≤15):runW aB 44 vs h=gN none x44.res x44.ownR h.length (execW aB 44 h.length none x44.body (aT (if x44.ownA then vs else kQ vs)) h):=cX rfl hl h rfl
theorem bCW{vs:List AV}{h:XH}(hl:vs.length≤33):runW aB 119 vs h=gN none x119.res x119.ownR h.length (execW aB 119 h.length none x119.body (aT (if x119.ownA then vs else kQ vs)) h):=cX rfl hl h rfl
def bO(l:List Nat):List AV:=l.map fun(n:Nat)=>.int .u8 (n:Int)
theorem bP(l:List Nat):wZ l = .agg (bO l):=rfl
theorem bD(l:List Nat):(bO l).length=l.length:=by simp[bO]
theorem aNU{l:List Nat}{i x:Nat}(h:l[i]?=some x):(bO l)[i]?=some (U x):=by simp[bO,h]
theorem bM(l:List Nat):kI (bO l)=true:=eZ fun v hv=>by
 grind [iU,bO]
theorem dV(l:List Nat):slL (bO l)=[]:=by
 induction l with
 | nil=>rfl
 | cons a l ih=>show slN _++slL (bO l)=[];rw[ih];rfl
theorem dE(l:List Nat):lE (bO l)=[]:=by
 induction l with
 | nil=>rfl
 | cons a l ih=>show jS _++lE (bO l)=[];rw[ih];rfl
theorem dQ(s:Nat→Option Nat)(l:List Nat):lO s (bO l)=bO l:=by
 induction l with
 | nil=>rfl
 | cons a l ih=>show rnA s _::lO s (bO l)=_;rw[ih];rfl
theorem dW(l:List Nat):kQ (bO l)=bO l:=by
 induction l with
 | nil=>rfl
 | cons a l ih=>show uR _::kQ (bO l)=_;rw[ih];rfl
theorem aNT{l:List Nat}{i x:Nat}(h:i<l.length):bJ (bO l) i [.int .u8 (x:Int)]=bO (l.set i x):=by
 unfold bJ bO;rw[List.map_set,N6,if_pos (by grind)];simp
theorem jV{a b:List Nat}(h:a.length=b.length):bJ (bO a) 0 (bO b)=bO b:=by
 simp_all [bJ,bO]
theorem gR{l:List Nat}(h:l.length=40):List.take 40 (bO l)=bO l:=C4 (by rw[bD];omega)
theorem jU{l:List Nat}(h:l.length=40):List.take 40 (List.drop 0 (bO l))=bO l:=by grind [gR]
def nf(i:Nat):List Nat:=List.replicate i 32++List.replicate (40-i) 0
theorem qP{i:Nat}(h:i≤40):(nf i).length=40:=by simp[nf];omega
theorem aWT{i:Nat}(h:i<40):bJ (bO (nf i)) i [.int .u8 32]=bO (nf (i+1)):=by
 have h1:=aNT (l:=nf i) (i:=i) (x:=32) (by grind [nf]);have h2:(nf i).set i 32=nf (i+1):=by
  unfold nf;obtain⟨k,hk⟩:∃ k,40-i=k+1:=⟨39-i,by omega⟩;have hk':40-(i+1)=k:=AT
  rw[hk,hk',O4,aC3,List.set_append_right _ _ (by simp)];simp
 grind
theorem iM(l:List Nat):(newF l).length=40:=by simp[newF];omega
theorem bFd(s:ByteArray):bJ (bO (nf 40)) 0 ((s.data.toList.map fun b=>AV.int .u8 (b.toNat:Int)).take (min s.size 40))=bO (newF (bN s)):=by
 have hs:s.size=s.data.toList.length:=by rfl
 have hn:bO (nf 40)=List.replicate 40 (U 32):=rfl;rw[hn];unfold bJ newF bN bO;rw[M4,aG1,aB6,List.take_zero,H7,hs];have e:((s.data.toList.map fun b=>AV.int .u8 (b.toNat:Int)).take (min s.data.toList.length 40))=(s.data.toList.map ((fun n:Nat=>AV.int .u8 (n:Int))∘UInt8.toNat)).take 40:=by
  by_cases h:s.data.toList.length≤40;·rw[aF6 h,C4 (by simp),C4 (by grind)];rfl
  ·rw[Nat.min_eq_right AT];rfl
 rw[e];congr 1;simp only[J4,aE9,B7,List.drop_replicate,List.map_replicate]
 grind
theorem cpR(s:ByteArray):aGf 1 [some (XB.blk true (ABlk.cells true (bO (nf 0)))),some (XB.blk true (ABlk.cells true (bO (nf 40))))] (AV.sl 1 0 1 40) (AV.str s)=some (.int .i64 ((min s.size 40:Nat):Int),[some (XB.blk true (ABlk.cells true (bO (nf 0)))),some (XB.blk true (ABlk.cells true (bO (newF (bN s)))))]):=by
 have hc:=bFd s;have l40:(bO (nf 40)).length=40:=by rfl
 unfold aGf aCE;simp only[fK,hat,List.getD_cons_succ,aC8,AAe,l40];simp only[AAi,J4,aE1,B5,AAe,D2,List.set_cons_succ,List.set_cons_zero,kN,Bool.and_true];rw[hc]
theorem aZX{i:Nat}(h:i<40):(i+1≤40)=True:=AAa
theorem w44(s:ByteArray):runW aB 44 [.str s] []=some (wZ (newF (bN s)),[]):=by
 rw[q44 (by simp)];unfold x44;dsimp only;have e0:((40:Int)<40)=False:=AAb;have l40:(bO (nf 40)).length=40:=by rfl
 have l0:(bO (nf 0)).length=40:=by rfl
 have g0:=bM (nf 0);rw[bP];sym =>
  simp[Zb,Zf,Zh,Zl,Zv,Zw,We,Va,Tb,Te,Tf,Tj,Tl,Ts,TE,TF,TK,TL,SF,SK,SL,SW,e0]
  tactic =>
   unfold aUY;rw[aJ 40 (fun i=>[.str s,.pt 0 0,.pt 1 0,I (i:Nat)]) (fun i=>[aa (bO (nf 0)),aa (bO (nf i))])]
   ·have c2:=iM (bN s)
    have c4:=bD (newF (bN s));rw[c2]at c4;have c5:=gR c2;have c6:=jU c2;have c7:=bM (newF (bN s));have c3:=cpR s;have c8:=jV (a:=nf 0) (b:=newF (bN s)) (by grind [qP]);(exact fN e0 l40 l0 c3 c4 c5 c6 c7 c8 g0 dV dE dQ dW aE aE aE aE aE aE)
   ·rfl
   ·intro i hi
    have i1:((i:Int)<40)=True:=AAa;have a2:=dU (n:=40) hi AT;have n1:(bO (nf i)).length=40:=by grind [bO,nf]
    have n2:=aWT hi;have n3:=aZX hi;(exact uJ i1 a2 n1 n2 n3)
   ·(exact cK e0)
def tmZ(a b:Int):Int:=Int.tmod a b
def nX(a b:Int):Int:=Int.tdiv a b
def aPk(z:Bool)(k:IntKind)(v:Int):Option AV:=if z then none else some (.int k v)
theorem lX(k:IntKind)(v:Int):aPk false k v=some (.int k v):=rfl
theorem fR{k:IntKind}{a b:Int}:gO .rem k a k b=aPk (decide (b=0)) k (tmZ a b):=by
 simp[gO,aPk,tmZ]
theorem fU{k:IntKind}{a b:Int}:gO .quo k a k b=aPk (decide (b=0)) k (k.wrap (nX a b)):=by
 simp[gO,aPk,nX]
theorem qH(a b:Nat):tmZ (a:Int) (b:Int)=((a%b:Nat):Int):=by rfl
theorem aHi(x:Nat):jN x<256:=aA5 _ (by decide)
theorem aQN{x:Nat}(h:x<256):IntKind.u8.wrap ((x:Int)-32)=(jN x:Int):=by
 unfold jN;simp[IntKind.wrap,IntKind.bits,IntKind.signed];omega
theorem aFX(x:Nat):∀(l:List Nat)(k:Nat),aEq k (l++[x])=aEq k l+(k+l.length+1)*jN x
 | [],k=>by simp[aEq]
 | a::l,k=>by
   rw[J3,aEq,aFX x l (k+1),aEq,D5];rw[show k+1+l.length+1=k+(l.length+1)+1 by omega];omega
theorem aLA:∀(l:List Nat)(k:Nat),aEq k l≤l.length*((k+l.length)*255)
 | [],k=>by simp[aEq]
 | a::l,k=>by
   have h1:=aLA l (k+1);have h2:=aHi a;rw[aEq,D5];have h3:(k+1)*jN a≤(k+(l.length+1))*255:=O6 AT AT;have h4:k+1+l.length=k+(l.length+1):=AT
   rw[h4]at h1;rw[aF8 l.length 1];omega
def pX(row:Nat)(f:List Nat)(i:Nat):Nat:=row+aEq 0 (f.take i)
theorem bBL(row:Nat)(f:List Nat):pX row f 0=row:=by rfl
theorem aVG{row:Nat}{f:List Nat}{i x:Nat}(h:f[i]?=some x):pX row f (i+1)=pX row f i+(i+1)*jN x:=by
 grind [List.take_add_one,aFX,pX]
theorem aRo{row:Nat}{f:List Nat}(hf:f.length=40)(i:Nat):pX row f i≤row+408000:=by
 have h:=aLA (f.take i) 0;have h1:(f.take i).length≤40:=by grind
 have h2:(f.take i).length*((0+(f.take i).length)*255)≤40*(40*255):=O6 h1 (O6 AT (B5 _));unfold pX;omega
theorem aRp{row:Nat}{f:List Nat}(hf:f.length=40):pX row f 40%9973=chk row f:=by
 grind [pX,chk]
theorem aXS(l1 l2:List UInt8):(⟨⟨l1⟩⟩:ByteArray)++⟨⟨l2⟩⟩=⟨⟨l1++l2⟩⟩:=by
 rfl
theorem dR{a b:ByteArray}(h:a.size+b.size≤1000000):aN BinOp.add a b=some (.str (a++b)):=by
 have e:IntKind.i64.max=9223372036854775807:=by decide
 grind [aN]
theorem aBL(l:List UInt8):(⟨⟨l⟩⟩:ByteArray).size=l.length:=rfl
def aKf(c:Nat):ByteArray:=nG (sI c)
theorem aUf{c:Nat}(h:c<9973):1≤(Lib.itoa (c:Int)).length∧(Lib.itoa (c:Int)).length≤4∧Lib.repeatL [48] (4-(Lib.itoa (c:Int)).length)++Lib.itoa (c:Int)=(sI c).map UInt8.ofNat:=by
 have e:Lib.itoa (c:Int)=Lib.decDigits c:=by
  rfl
 rw[e];by_cases h1:c<10
 ·rw[Lib.decDigits_one h1]
  refine⟨by simp,by simp,?_⟩;have:sI c=[48,48,48,48+c]:=by simp[sI];omega
  rw[this];rfl
 ·by_cases h2:c<100
  ·rw[Lib.decDigits_two h1 h2]
   refine⟨by simp,by simp,?_⟩;have:sI c=[48,48,48+c/10,48+c%10]:=by simp[sI];omega
   rw[this];rfl
  ·have s3:∀{m:Nat},¬m<10→Lib.decDigits m=Lib.decDigits (m/10)++[UInt8.ofNat (48+m%10)]:=fun {m} hm=>by
    conv=>lhs;rw[Lib.decDigits,AAr hm]
   by_cases h3:c<1000
   ·rw[s3 h1,Lib.decDigits_two AT AT]
    refine⟨by simp,by simp,?_⟩;have:sI c=[48,48+c/10/10,48+c/10%10,48+c%10]:=by simp[sI];omega
    rw[this];rfl
   ·rw[s3 h1,s3 AT,Lib.decDigits_two AT AT]
    refine⟨by simp,by simp,?_⟩;have:sI c=[48+c/10/10/10,48+c/10/10%10,48+c/10%10,48+c%10]:=by simp[sI];omega
    rw[this];rfl
theorem w57{c:Nat}(h:c<9973):runW aB 57 [I (c:Int)] []=some (.str ⟨⟨Lib.itoa (c:Int)⟩⟩,[]):=by
 rw[p57];unfold aBo;grind
theorem bCG{d:Nat}(h:d≤4):runW aB 143 [.str ⟨#[48]⟩,I (d:Int)] []=some (.str ⟨⟨Lib.repeatL [48] d⟩⟩,[]):=by
 rw[bCY];unfold vZ;dsimp only;rw[if_pos (by refine⟨by omega,by omega,by decide⟩)];simp
theorem bCM{f:List Nat}{row:Nat}(hf:f.length=40)(hb:∀(i x:Nat),f[i]?=some x→x<256)(hrow:row≤1000000):runW aB 119 [wZ f,I (row:Int)] []=some (.str (aKf (chk row f)),[]):=by
 rw[bCW (by simp)];unfold x119;dsimp only;have e0:((40:Int)<40)=False:=AAb;have lf:=bD f;rw[hf]at lf;have gf:=bM f;rw[bP];have t1:=gR hf;have t2:=jU hf;sym =>
  simp[fR,fU,lX,Za,Zb,Zf,Zh,Zl,Zm,Zo,Zv,Zz,ZV,Wh,WY,Vb,Vp,V0,V1,V2,V8,US,Tb,Tf,Tl,TK,TL,TV,TX,Ss,Su,Sx,S6,SF,SK,SL,SV,SW,e0,lf,gf,t1,t2,dV,dE,dQ,dW]
  tactic =>
   unfold aNA;rw[aJ 40 (fun i=>[I (pX row f i:Nat),.agg (bO f),I (i:Nat)]) (fun _=>[])]
   ·have hc:chk row f<9973:=aA5 _ (by decide)
    have c1:tmZ ((pX row f 40:Nat):Int) 9973=((chk row f:Nat):Int):=by grind [aRp,qH]
    have c2:=w57 hc;obtain⟨d1,d2,d3⟩:=aUf hc;have c3:=bCG (d:=4-(Lib.itoa ((chk row f:Nat):Int)).length) AT;have c4:aKf (chk row f)=(⟨⟨Lib.repeatL [48] (4-(Lib.itoa ((chk row f:Nat):Int)).length)⟩⟩:ByteArray)++⟨⟨Lib.itoa ((chk row f:Nat):Int)⟩⟩:=by
     rw[aXS,d3];rfl
    rw[c4];have c5:(⟨⟨Lib.itoa ((chk row f:Nat):Int)⟩⟩:ByteArray).size=(Lib.itoa ((chk row f:Nat):Int)).length:=rfl;have c6:IntKind.i64.wrap (4-((Lib.itoa ((chk row f:Nat):Int)).length:Int))=((4-(Lib.itoa ((chk row f:Nat):Int)).length:Nat):Int):=by grind [aF]
    have c7:=dR (a:=⟨⟨Lib.repeatL [48] (4-(Lib.itoa ((chk row f:Nat):Int)).length)⟩⟩) (b:=⟨⟨Lib.itoa ((chk row f:Nat):Int)⟩⟩) (by
     rw[aBL,aBL,Lib.repeatL_length]
     grind)
    generalize Lib.itoa ((chk row f:Nat):Int)=ss at *;generalize hz:(⟨⟨ss⟩⟩:ByteArray)=a at *;generalize hd:4-ss.length=d at *;generalize hy:(⟨⟨Lib.repeatL [48] d⟩⟩:ByteArray)=z at *;(sym=>(simp[fR,fU,lX,Za,Zb,Zf,Zh,Zl,Zm,Zv,ZA,ZR,Ye,Yh,Ym,Yn,Yx,Y7,YG,Xx,Xz,Wr,Wu,WE,Va,V7,VH,VL,VM,VN,VP,VQ,VS,VT,Uf,Ug,Uh,Ut,UD,UE,UG,UH,UI,UJ,UK,UN,UO,UP,UQ,UT,UW,UY,Tc,Td,Tf,Tg,Ti,Tl,T6,T9,TA,TB,TC,TD,SD,SE,SF,SG,SJ,SL,SN,SS,SV,SW,Qx,QO,Pu,Pv,Pw,Px,e0,lf,c1,c2,c3,c5,c6,c7,dV,dE,dQ,dW];all_goals tactic=>exact rfl))
   ·have a0:=bBL row f
    (sym=>(simp[fR,fU,lX,Za,YR,Xx,XI,Wr,Wv,VH,VM,VO,VP,VQ,UU,UV,Tc,Td,Tg,Ti,TA,TB,TC,TD,SU,lf,a0,dV,dE,dQ,dW];all_goals tactic=>exact rfl))
   ·intro i hi
    have i1:((i:Int)<40)=True:=AAa;have a2:=dU (n:=40) hi AT;obtain⟨x,hx⟩:=dD (l:=f) (i:=i) AT;have hx':=aNU hx;have hxb:=hb i x hx;have b1:=aQN hxb;have hcx:=aHi x;have b2:IntKind.i64.wrap ((jN x:Nat):Int)=((jN x:Nat):Int):=aF AT AT;have hm:(i+1)*jN x≤40*255:=O6 AT AT;have b3:IntKind.i64.wrap (((i:Int)+1)*((jN x:Nat):Int))=(((i+1)*jN x:Nat):Int):=by
     grind [aF]
    have hal:=aRo (row:=row) hf i;have b4:IntKind.i64.wrap (((pX row f i:Nat):Int)+(((i+1)*jN x:Nat):Int))=((pX row f (i+1):Nat):Int):=by
     grind [aVG,aF]
    generalize pX row f i=A at *;generalize pX row f (i+1)=A' at *;generalize jN x=cx at *;generalize (i+1)*cx=px at *;(sym=>(simp[fR,fU,lX,Za,Zb,Zf,Zh,Zl,Zm,Zv,ZA,ZE,ZI,Yr,Y6,Y7,Y8,YG,YL,YM,Xu,Xx,XI,Wr,Wv,VH,VM,VN,VP,VQ,UT,UU,UV,UW,UX,Tc,Td,Tg,Ti,Tz,T5,T9,TA,TB,TC,TD,Sy,SD,SF,SI,SK,SL,SP,SU,SV,SW,Rz,QO,i1,a2,hx',b1,b2,b3,b4,lf,dV,dE,dQ,dW];all_goals tactic=>exact rfl))
   ·(sym=>(simp[fR,fU,lX,Za,Zb,Zf,Zh,Zl,Zm,ZA,YG,UT,UW,UY,UZ,T6,SD,SF,SJ,SL,SN,SV,SW,QO,e0];all_goals tactic=>exact rfl))
end
section
open Go Go.DL
theorem xF{q0 q1 q2 q3 q4 q5 q6 q7 q8 q9 q10 q11 q12 q13 q14 q15 q16 q17 q18 q19 q20 q21 q22 q23 q24 q25 p:Prop}(x0:q0)(x1:q1)(x2:q2)(x3:q3)(x4:q4)(x5:q5)(x6:q6)(x7:q7)(x8:q8)(x9:q9)(x10:q10)(x11:q11)(x12:q12)(x13:q13)(x14:q14)(x15:q15)(x16:q16)(x17:q17)(x18:q18)(x19:q19)(x20:q20)(x21:q21)(x22:q22)(x23:q23)(x24:q24)(x25:q25)(h:q0→q1→q2→q3→q4→q5→q6→q7→q8→q9→q10→q11→q12→q13→q14→q15→q16→q17→q18→q19→q20→q21→q22→q23→q24→q25→p:=by intro x0 x1 x2 x3 x4 x5 x6 x7 x8 x9 x10 x11 x12 x13 x14 x15 x16 x17 x18 x19 x20 x21 x22 x23 x24 x25; (sym=>(simp[x0,x1,x2,x3,x4,x5,x6,x7,x8,x9,x10,x11,x12,x13,x14,x15,x16,x17,x18,x19,x20,x21,x22,x23,x24,x25,fR,fU,lX,Za,Zb,Zc,Zd,Ze,Zf,Zg,Zh,Zi,Zj,Zk,Zl,Zm,Zn,Zo,Zp,Zq,Zr,Zs,Zt,Zu,Zv,Zw,Zx,Zy,Zz,Z0,Z8,Z9,ZA,ZB,ZC,ZD,ZE,ZF,ZG,ZH,ZI,ZJ,ZK,ZL,ZM,ZN,ZO,ZP,ZQ,ZR,ZS,ZT,ZU,ZV,ZW,ZX,ZY,ZZ,Ya,Yb,Yc,Ye,Yf,Yg,Yh,Yi,Yj,Yk,Yl,Ym,Yn,Yo,Yp,Yq,Yr,Ys,Yt,Yu,Yv,Yw,Yx,Yy,Yz,Y4,Y5,Y6,Y7,Y8,YA,YB,YC,YD,YE,YF,YG,YH,YJ,YK,YL,YM,YN,YO,YP,YQ,YR,YT,YU,YV,YX,YY,YZ,Xa,Xb,Xc,Xd,Xe,Xf,Xg,Xh,Xi,Xj,Xk,Xl,Xm,Xn,Xo,Xp,Xq,Xr,Xs,Xt,Xu,Xv,Xw,Xx,Xy,Xz,XI,XJ,XL,XM,XN,XO,XW,XX,XY,XZ,Wa,Wb,Wc,We,Wf,Wg,Wh,Wi,Wj,Wk,Wl,Wm,Wn,Wo,Wp,Wq,Wr,Wt,Wu,Wv,Ww,Wx,Wy,Wz,W3,W4,W5,W6,W7,W8,W9,WA,WB,WC,WE,WF,WG,WH,WI,WJ,WK,WL,WM,WN,WO,WP,WQ,WR,WS,WT,WU,WV,WW,WX,WY,WZ,Va,Vb,Vc,Vd,Ve,Vf,Vg,Vh,Vi,Vj,Vk,Vl,Vm,Vn,Vo,Vp,Vq,Vr,Vs,Vt,Vu,Vv,Vw,Vx,Vy,Vz,V0,V1,V2,V3,V4,V5,V6,V7,V8,V9,VA,VB,VC,VD,VE,VF,VG,VH,VI,VJ,VK,VL,VM,VN,VO,VP,VQ,VR,VS,VT,VU,VV,VW,VX,VY,VZ,Ua,Ub,Uc,Ud,Ue,Uf,Ug,Uh,Ui,Uj,Uk,Ul,Um,Un,Uo,Ur,Us,Ut,Uu,Uv,Uw,Ux,Uy,Uz,U0,U6,U7,U8,U9,UA,UB,UC,UD,UE,UF,UG,UH,UI,UJ,UK,UL,UM,UN,UO,UP,UQ,UR,US,UT,UU,UV,UW,UX,UY,UZ,Ta,Tb,Tc,Td,Te,Tf,Tg,Th,Ti,Tj,Tl,Tm,Tn,Tp,Tq,Tr,Ts,Tt,Tu,Tv,Tw,Tx,Ty,Tz,T2,T3,T4,T5,T6,T7,T8,T9,TA,TB,TC,TD,TE,TF,TG,TH,TI,TJ,TK,TL,TM,TN,TO,TP,TQ,TR,TS,TT,TU,TV,TX,TY,TZ,Sa,Sc,Sd,Se,Sf,Sg,Si,Sj,Sk,Sl,Sn,Sp,Sq,Sr,Ss,Su,Sv,Sw,Sx,Sy,Sz,S3,S4,S5,S6,S7,S8,S9,SA,SC,SD,SE,SF,SG,SI,SJ,SK,SL,SN,SO,SP,SQ,SS,SU,SV,SW,SX,SY,SZ,Ra,Rb,Rc,Re,Rf,Rg,Rh,Ri,Rj,Rk,Rl,Rm,Ro,Rp,Rq,Rr,Rs,Rt,Ru,Rx,Ry,Rz,R0,RC,RG,RH,RI,RJ,RO,RR,RU,RV,RW,RX,RY,RZ,Qa,Qb,Qd,Qe,Qf,Qg,Qh,Qi,Qj,Qk,Ql,Qm,Qn,Qo,Qp,Qq,Qr,Qs,Qt,Qu,Qw,Qx,Qy,Qz,Q0,QA,QB,QD,QE,QG,QH,QI,QJ,QL,QN,QO,QQ,QR,QS,QU,QV,QW,QX,QY,QZ,Pa,Pb,Pc,Pd,Pe,Pf,Pg,Ph,Pj,Pk,Pl,Pm,Pn,Po,Pp,Pq,Pr,Ps,Pt,Pu,Pv,Pw,Px,Py,Pz,P0,P8,P9,PA,PB,PC,PD,PE,PH,PI,PJ,PK,PL,PM,aLp,aHf];all_goals tactic=>exact rfl))):p:=h x0 x1 x2 x3 x4 x5 x6 x7 x8 x9 x10 x11 x12 x13 x14 x15 x16 x17 x18 x19 x20 x21 x22 x23 x24 x25
theorem RT1{q0 p:Prop}(x0:q0)(h:q0→p:=by intro x0;exact xF @x0 aE aE aE aE aE aE aE aE aE aE aE aE aE aE aE aE aE aE aE aE aE aE aE aE aE):p:=h x0
theorem RT2{q0 q1 p:Prop}(x0:q0)(x1:q1)(h:q0→q1→p:=by intro x0 x1;exact xF @x0 @x1 aE aE aE aE aE aE aE aE aE aE aE aE aE aE aE aE aE aE aE aE aE aE aE aE):p:=h x0 x1
theorem RT3{q0 q1 q2 p:Prop}(x0:q0)(x1:q1)(x2:q2)(h:q0→q1→q2→p:=by intro x0 x1 x2;exact xF @x0 @x1 @x2 aE aE aE aE aE aE aE aE aE aE aE aE aE aE aE aE aE aE aE aE aE aE aE):p:=h x0 x1 x2
theorem RT4{q0 q1 q2 q3 p:Prop}(x0:q0)(x1:q1)(x2:q2)(x3:q3)(h:q0→q1→q2→q3→p:=by intro x0 x1 x2 x3;exact xF @x0 @x1 @x2 @x3 aE aE aE aE aE aE aE aE aE aE aE aE aE aE aE aE aE aE aE aE aE aE):p:=h x0 x1 x2 x3
theorem RT5{q0 q1 q2 q3 q4 p:Prop}(x0:q0)(x1:q1)(x2:q2)(x3:q3)(x4:q4)(h:q0→q1→q2→q3→q4→p:=by intro x0 x1 x2 x3 x4;exact xF @x0 @x1 @x2 @x3 @x4 aE aE aE aE aE aE aE aE aE aE aE aE aE aE aE aE aE aE aE aE aE):p:=h x0 x1 x2 x3 x4
theorem RT7{q0 q1 q2 q3 q4 q5 q6 p:Prop}(x0:q0)(x1:q1)(x2:q2)(x3:q3)(x4:q4)(x5:q5)(x6:q6)(h:q0→q1→q2→q3→q4→q5→q6→p:=by intro x0 x1 x2 x3 x4 x5 x6;exact xF @x0 @x1 @x2 @x3 @x4 @x5 @x6 aE aE aE aE aE aE aE aE aE aE aE aE aE aE aE aE aE aE aE):p:=h x0 x1 x2 x3 x4 x5 x6
theorem RT9{q0 q1 q2 q3 q4 q5 q6 q7 q8 p:Prop}(x0:q0)(x1:q1)(x2:q2)(x3:q3)(x4:q4)(x5:q5)(x6:q6)(x7:q7)(x8:q8)(h:q0→q1→q2→q3→q4→q5→q6→q7→q8→p:=by intro x0 x1 x2 x3 x4 x5 x6 x7 x8;exact xF @x0 @x1 @x2 @x3 @x4 @x5 @x6 @x7 @x8 aE aE aE aE aE aE aE aE aE aE aE aE aE aE aE aE aE):p:=h x0 x1 x2 x3 x4 x5 x6 x7 x8
theorem bBO{q0 q1 q2 q3 q4 q5 q6 q7 q8 q9 p:Prop}(x0:q0)(x1:q1)(x2:q2)(x3:q3)(x4:q4)(x5:q5)(x6:q6)(x7:q7)(x8:q8)(x9:q9)(h:q0→q1→q2→q3→q4→q5→q6→q7→q8→q9→p:=by intro x0 x1 x2 x3 x4 x5 x6 x7 x8 x9;exact xF @x0 @x1 @x2 @x3 @x4 @x5 @x6 @x7 @x8 @x9 aE aE aE aE aE aE aE aE aE aE aE aE aE aE aE aE):p:=h x0 x1 x2 x3 x4 x5 x6 x7 x8 x9
theorem aNh{q0 q1 q2 q3 q4 q5 q6 q7 q8 q9 q10 q11 q12 p:Prop}(x0:q0)(x1:q1)(x2:q2)(x3:q3)(x4:q4)(x5:q5)(x6:q6)(x7:q7)(x8:q8)(x9:q9)(x10:q10)(x11:q11)(x12:q12)(h:q0→q1→q2→q3→q4→q5→q6→q7→q8→q9→q10→q11→q12→p:=by intro x0 x1 x2 x3 x4 x5 x6 x7 x8 x9 x10 x11 x12;exact xF @x0 @x1 @x2 @x3 @x4 @x5 @x6 @x7 @x8 @x9 @x10 @x11 @x12 aE aE aE aE aE aE aE aE aE aE aE aE aE):p:=h x0 x1 x2 x3 x4 x5 x6 x7 x8 x9 x10 x11 x12
theorem aNg{q0 q1 q2 q3 q4 q5 q6 q7 q8 q9 q10 q11 q12 q13 q14 q15 q16 q17 q18 q19 p:Prop}(x0:q0)(x1:q1)(x2:q2)(x3:q3)(x4:q4)(x5:q5)(x6:q6)(x7:q7)(x8:q8)(x9:q9)(x10:q10)(x11:q11)(x12:q12)(x13:q13)(x14:q14)(x15:q15)(x16:q16)(x17:q17)(x18:q18)(x19:q19)(h:q0→q1→q2→q3→q4→q5→q6→q7→q8→q9→q10→q11→q12→q13→q14→q15→q16→q17→q18→q19→p:=by intro x0 x1 x2 x3 x4 x5 x6 x7 x8 x9 x10 x11 x12 x13 x14 x15 x16 x17 x18 x19;exact xF @x0 @x1 @x2 @x3 @x4 @x5 @x6 @x7 @x8 @x9 @x10 @x11 @x12 @x13 @x14 @x15 @x16 @x17 @x18 @x19 aE aE aE aE aE aE):p:=h x0 x1 x2 x3 x4 x5 x6 x7 x8 x9 x10 x11 x12 x13 x14 x15 x16 x17 x18 x19
end
section
open Go Go.DL
theorem q77{vs:List AV}{h:XH}(hl:vs.length≤12):runW aB 77 vs h=gN none x77.res x77.ownR h.length (execW aB 77 h.length none x77.body (aT (if x77.ownA then vs else kQ vs)) h):=cX rfl hl h rfl
theorem q45{vs:List AV}{h:XH}(hl:vs.length≤31):runW aB 45 vs h=gN none x45.res x45.ownR h.length (execW aB 45 h.length none x45.body (aT (if x45.ownA then vs else kQ vs)) h):=cX rfl hl h rfl
def yE(f:List Nat):Prop:=∀(i x:Nat),f[i]?=some x→x<256
theorem xC:∀{f:List Nat},iE (bO f)=some (f.map UInt8.ofNat)
 | []=>rfl
 | x::f=>by
   have ih:=xC (f:=f);show (iE (bO f)).map _=_;rw[ih];rfl
theorem aQS{run:eC}{g:Nat}{vs:List AV}{v:AV}{hl h:XH}(hn:lE vs=[])(hr:∀ s,lO s vs=vs)(hrun:run g vs []=some (v,hl))(hg:gdA v=true):pP run (.fn (.func g) [] []) vs h=some v:=by
 unfold pP;dsimp only;have hp:gX ([]++vs++[]) h=[]:=by
  unfold gX;rw[H7,J1,hn];rfl
 rw[hp,H7,J1,hr];show (match run g vs []with|some (v,hl)=>if gdA v&&aFH [] hl then some v else none|none=>none)=some v;rw[hrun];dsimp only;rw[hg];rfl
theorem w77{f:List Nat}{row:Nat}(hf:f.length=40)(hb:yE f)(hrow:row≤1000000):runW aB 77 [wZ f,I (row:Int)] []=some (.str (nG (iY row f)),[]):=by
 rw[q77 (by simp)];unfold x77;dsimp only;have lf:=bD f;rw[hf]at lf;have gf:=bM f;have c1:=bCM hf hb hrow;rw[bP]at c1 ⊢;have t1:=gR hf;have t2:=jU hf;have bu:=xC (f:=f);have cq:=aQS (run:=runW aB) (h:=[some (XB.blk true (ABlk.cells true (bO f)))]) (by show jS (.agg (bO f))++_=[];simp only[jS,dE];rfl) (fun s=>by show rnA s (.agg (bO f))::_=_;simp only[rnA,dQ];rfl) c1 rfl;have hd:(aKf (chk row f)).size=4:=rfl;have s1:=dR (a:=aKf (chk row f)) (b:=⟨⟨f.map UInt8.ofNat⟩⟩) (by grind [aBL]);have s2:=dR (a:=aKf (chk row f)++⟨⟨f.map UInt8.ofNat⟩⟩) (b:=⟨#[10]⟩) (by grind [aBL]);have s3:nG (iY row f)=(aKf (chk row f)++⟨⟨f.map UInt8.ofNat⟩⟩)++⟨#[10]⟩:=by
  unfold aKf nG iY
  grind [aXS]
 rw[s3];(exact aNh lf gf t1 t2 cq bu s1 s2 dV dE dQ dW aE)
def pv(t x y:Nat):Nat:=32+(jN x+t*jN y)%95
theorem aDC{t x y:Nat}:∀{l m:List Nat},l.length=m.length→eH t (l++[x]) (m++[y])=eH t l m++[pv t x y]
 | [],[],_=>rfl
 | [],_::_,h=>by simp at h
 | _::_,[],h=>by simp at h
 | a::l,b::m,h=>by
   simp only[J3,eH];rw[aDC (by simpa using h)]
theorem rQ{t:Nat}:∀{l m:List Nat},l.length=m.length→(eH t l m).length=l.length
 | [],[],_=>rfl
 | [],_::_,h=>by simp at h
 | _::_,[],h=>by simp at h
 | a::l,b::m,h=>by simp only[eH,D5,rQ (l:=l) (m:=m) (by simpa using h)]
theorem aZe(t x y:Nat):pv t x y<127:=by
 grind [pv]
theorem xM{t:Nat}:∀{l m:List Nat},yE (eH t l m)
 | [],m=>by simp[yE,eH]
 | a::l,[]=>by simp[yE,eH]
 | a::l,b::m=>by
   intro i x h;simp only[eH]at h;cases i with
   | zero=>simp at h;subst h;exact D9 (aZe t a b) (by decide)
   | succ i=>exact xM (l:=l) (m:=m) i x (by simpa using h)
def plS(t:Nat)(f o:List Nat)(i:Nat):List Nat:=eH t (f.take i) (o.take i)++f.drop i
section
variable{t:Nat}{f o:List Nat}
theorem aZo(hf:f.length=40)(ho:o.length=40):plS t f o 40=eH t f o:=by
 grind [plS]
theorem aDD(hf:f.length=40)(ho:o.length=40){i:Nat}(hi:i≤40):(eH t (f.take i) (o.take i)).length=i:=by
 grind [rQ]
theorem aJC(hf:f.length=40)(ho:o.length=40){i:Nat}(hi:i≤40):(plS t f o i).length=40:=by
 grind [aDD,plS]
theorem aZn(hf:f.length=40)(ho:o.length=40){i x:Nat}(hi:i<40)(hx:f[i]?=some x):(plS t f o i)[i]?=some x:=by
 unfold plS;rw[I4 (by rw[aDD hf ho AT];omega),aDD hf ho AT,M5,List.getElem?_drop];exact hx
theorem aWJ(hf:f.length=40)(ho:o.length=40){i x y:Nat}(hi:i<40)(hx:f[i]?=some x)(hy:o[i]?=some y):bJ (bO (plS t f o i)) i [.int .u8 ((pv t x y:Nat):Int)]=bO (plS t f o (i+1)):=by
 rw[aNT (by grind [aJC])];congr 1;unfold plS;have h1:f.take (i+1)=f.take i++[x]:=by grind [List.take_add_one]
 have h2:o.take (i+1)=o.take i++[y]:=by grind [List.take_add_one]
 have h3:f.drop i=x::f.drop (i+1):=by
  grind [List.drop_eq_getElem_cons]
 rw[h1,h2,aDC (by grind),h3,List.set_append_right _ _ (by rw[aDD hf ho AT];omega),aDD hf ho AT,M5];simp
end
theorem w45{f o:List Nat}{t:Nat}(hf:f.length=40)(ho:o.length=40)(bf:yE f)(bo:yE o)(ht:t≤94):runW aB 45 [wZ f,wZ o,I (t:Int)] []=some (wZ (eH t f o),[]):=by
 rw[q45 (by simp)];unfold x45;dsimp only;have e0:((40:Int)<40)=False:=AAb;have lf:=bD f;rw[hf]at lf;have lo:=bD o;rw[ho]at lo;have gf:=bM f;have go:=bM o;have l0:(bO (nf 0)).length=40:=by rfl
 have g0:=bM (nf 0);rw[bP,bP,bP];sym =>
  simp[fR,fU,lX,Za,Zb,Zf,Zh,Zl,Zo,Zv,Zw,Zz,We,Wh,WY,Vb,Vp,V8,US,Tb,Te,Tf,Tj,Tl,Ts,TE,TF,TK,TL,TV,TX,S6,SF,SK,SL,SV,SW,e0,lf,lo,gf,go,dV,dE,dQ,dW]
  tactic =>
   unfold aUX;rw[aJ 40 (fun i=>[I (t:Int),.pt 0 0,.pt 1 0,.pt 2 0,I (i:Nat)]) (fun i=>[aa (bO (plS t f o i)),aa (bO o),aa (bO (nf 0))])]
   ·have hp:=aZo (t:=t) hf ho
    have hpl:=aJC (t:=t) hf ho (i:=40) AT;rw[hp]at hpl;have c4:=bD (eH t f o);rw[hpl]at c4;have c5:=gR hpl;have c6:=jU hpl;have c7:=bM (eH t f o);have c8:=jV (a:=nf 0) (b:=eH t f o) (by grind [qP]);(exact aNg e0 hp lo l0 c4 c5 c6 c7 c8 go g0 dV dE dQ dW aE aE aE aE aE)
   ·rfl
   ·intro i hi
    have i1:((i:Int)<40)=True:=AAa;have a2:=dU (n:=40) hi AT;obtain⟨x,hx⟩:=dD (l:=f) (i:=i) AT;obtain⟨y,hy⟩:=dD (l:=o) (i:=i) AT;have hx':=aNU (aZn (t:=t) hf ho hi hx);have hy':=aNU hy;have b1:=aQN (bf i x hx);have b2:=aQN (bo i y hy);have hcx:=aHi x;have hcy:=aHi y;have b3:IntKind.i64.wrap ((jN x:Nat):Int)=((jN x:Nat):Int):=aF AT AT;have b4:IntKind.i64.wrap ((jN y:Nat):Int)=((jN y:Nat):Int):=aF AT AT;have hm:t*jN y≤94*255:=O6 ht AT;have b5:IntKind.i64.wrap ((t:Int)*((jN y:Nat):Int))=((t*jN y:Nat):Int):=by
     grind [aF]
    have b6:IntKind.i64.wrap (((jN x:Nat):Int)+((t*jN y:Nat):Int))=((jN x+t*jN y:Nat):Int):=by
     grind [aF]
    have b7:tmZ ((jN x+t*jN y:Nat):Int) 95=(((jN x+t*jN y)%95:Nat):Int):=qH _ _;have hr:=aA5 (jN x+t*jN y) (show 0<95 by decide);have b8:IntKind.u8.wrap (((jN x+t*jN y)%95:Nat):Int)=(((jN x+t*jN y)%95:Nat):Int):=by
     simp[IntKind.wrap,IntKind.bits,IntKind.signed];omega
    have b9:IntKind.u8.wrap (32+(((jN x+t*jN y)%95:Nat):Int))=((pv t x y:Nat):Int):=by
     unfold pv;simp[IntKind.wrap,IntKind.bits,IntKind.signed];omega
    have ns:=aWJ (t:=t) hf ho hi hx hy;have n1:=bD (plS t f o i);rw[aJC hf ho AT]at n1;have n3:=aZX hi;generalize pv t x y=P at *;generalize (jN x+t*jN y)%95=R at *;generalize jN x+t*jN y=S at *;generalize t*jN y=T at *;generalize jN x=cx at *;generalize jN y=cy at *;(exact xF i1 a2 hx' hy' b1 b2 b3 b4 b5 b6 b7 b8 b9 ns n1 n3 lo l0 go g0 dV dE dQ dW aE aE)
   ·(exact RT1 e0)
theorem q46{vs:List AV}{h:XH}(hl:vs.length≤6):runW aB 46 vs h=gN none x46.res x46.ownR h.length (execW aB 46 h.length none x46.body (aT (if x46.ownA then vs else kQ vs)) h):=cX rfl hl h rfl
theorem q36{vs:List AV}{h:XH}(hl:vs.length≤5):runW aB 36 vs h=gN none x36.res x36.ownR h.length (execW aB 36 h.length none x36.body (aT (if x36.ownA then vs else kQ vs)) h):=cX rfl hl h rfl
theorem q42{vs:List AV}{h:XH}(hl:vs.length≤23):runW aB 42 vs h=gN none x42.res x42.ownR h.length (execW aB 42 h.length none x42.body (aT (if x42.ownA then vs else kQ vs)) h):=cX rfl hl h rfl
theorem p74{xs:List AV}{h:XH}:runW aB 74 xs h=aKQ xs h:=dF rfl rfl xs h
theorem p80{xs:List AV}{h:XH}:runW aB 80 xs h=aDy xs h:=dF rfl rfl xs h
def lnB(f:List Nat):ByteArray:=⟨⟨Lib.trimRightB (f.map UInt8.ofNat) 32⟩⟩
theorem w46{f:List Nat}(hf:f.length=40):runW aB 46 [wZ f] []=some (.str (lnB f),[]):=by
 rw[q46 (by simp)];unfold x46;dsimp only;have lf:=bD f;rw[hf]at lf;have gf:=bM f;have bu:=xC (f:=f);have t1:=gR hf;have t2:=jU hf;have c1:runW aB 80 [.str ⟨⟨f.map UInt8.ofNat⟩⟩,.str ⟨⟨[32]⟩⟩] []=some (.str (lnB f),[]):=by
  rw[p80];unfold aDy;dsimp only;rw[if_pos ⟨by decide,by grind [aBL]⟩];rfl
 rw[bP];(exact jE lf gf t1 t2 bu c1 dV dE dQ dW)
theorem w36(s:ByteArray):runW aB 36 [.str s] []=some (.bool (vI s.data.toList),[]):=by
 rw[q36 (by simp)];unfold x36;dsimp only;have c1:runW aB 74 [.str s,.fn (.func 75) [] []] []=some (.bool (vI s.data.toList),[]):=by rw[p74];rfl
 (exact cK c1)
def txB(s:ByteArray):ByteArray:=jD s 4 44
def rdF(s:ByteArray):List Nat:=newF (bN (txB s))
def aFK(s:ByteArray)(n:Nat):Bool := !vI (txB s).data.toList&&((nG (iY n (rdF s))).toList==s.toList)
theorem aEA(s:ByteArray):yE (bN s):=by
 intro i x h;unfold bN at h;rw[C5,B2]at h;obtain⟨b,_,rfl⟩:=h;exact b.toNat_lt
theorem pA{l:List Nat}(h:yE l):yE (newF l):=by
 grind [yE,newF]
theorem aOg(a b:ByteArray):aN BinOp.eql a b=some (.bool (a.toList==b.toList)):=rfl
theorem w42{s:ByteArray}{n:Nat}(hs:s.size=45)(hn:n≤1000000):runW aB 42 [.str s,I (n:Int)] []=some (.tup [wZ (rdF s),.bool (aFK s n)],[]):=by
 rw[q42 (by simp)];unfold x42;dsimp only;have hs':((45:Int)=45)=True:=AAn rfl;have l1:=iM (bN (txB s));have b1:=pA (aEA (txB s));have c1:=w44 (txB s);have c2:=w36 (txB s);have c3:=w77 (row:=n) l1 b1 hn;have hx:jD s 4 44=txB s:=rfl;have n44:Int.toNat 44=44:=rfl;have n4:Int.toNat 4=4:=rfl;have n45:((4:Int)≤((44:Nat):Int))=True:=AAa;rw[bP]at c1 c3 ⊢;have lf:=bD (newF (bN (txB s)));rw[l1]at lf;have t1:=gR l1;have t2:=jU l1;have gf:=bM (newF (bN (txB s)));have l0:(bO (nf 0)).length=40:=by rfl
 have g0:=bM (nf 0);have a1:=jV (a:=nf 0) (b:=newF (bN (txB s))) (by grind [qP]);have e1:=aOg (nG (iY n (newF (bN (txB s))))) s;unfold aFK rdF;cases hu:vI (txB s).data.toList with
 | true =>
   rw[hu]at c2;(exact fN hs hx n44 n4 n45 c1 c2 lf t1 t2 gf l0 g0 a1 dV dE dQ dW aE aE)
 | false =>
   rw[hu]at c2;(exact fN hs hx n44 n4 n45 c1 c2 c3 e1 lf t1 t2 gf l0 g0 a1 dV dE dQ dW)
theorem q43{vs:List AV}{h:XH}(hl:vs.length≤18):runW aB 43 vs h=gN none x43.res x43.ownR h.length (execW aB 43 h.length none x43.body (aT (if x43.ownA then vs else kQ vs)) h):=cX rfl hl h rfl
def gG(C:List Nat)(k:Nat):List Nat:=(C.drop (k*40)).take 40
def eJ(C:List Nat):Nat→List Nat
 | 0=>newF []
 | k+1=>eH 1 (eJ C k) (gG C k)
theorem xX{C:List Nat}{n k:Nat}(h:n*40≤C.length)(hk:k<n):(gG C k).length=40:=by
 grind [gG]
theorem aCA{C:List Nat}(h:yE C)(k:Nat):yE (gG C k):=by
 grind [yE,gG]
theorem fI{C:List Nat}{n:Nat}(h:n*40≤C.length):∀ k,k≤n→(eJ C k).length=40
 | 0,_=>iM []
 | k+1,hk=>by
   have h1:=fI h k AT;rw[eJ,rQ (by rw[h1,xX h AT])];exact h1
theorem xI{C:List Nat}:∀ k,yE (eJ C k)
 | 0=>pA (fun i x h=>by simp at h)
 | k+1=>xM
theorem aFQ{C:List Nat}{k:Nat}:((bO C).drop (k*40)).take 40=bO (gG C k):=by
 simp[bO,gG]
def aNi:XCode:=(.loop [2,3,7,8,9] (.seq (.reg [] false [⟨0,(some 10),(.bin .lss (.t 9) (.t 8)),none⟩]) (.seq (.cond (.t 10) .skip (.exit 0)) (.seq (.block 1 (.seq (.reg [] false [⟨0,(some 11),(.idx 40 (.t 7) (.t 9)),none⟩,⟨0,(some 12),(.load true 40 (.t 11)),none⟩,⟨0,(some 5),(.alloc (bO (nf 0))),none⟩,⟨0,none,(.store 40 (.t 5) (.t 12) []),none⟩]) (.reg [] false [⟨0,(some 13),(.load true 40 (.t 3)),none⟩,⟨0,(some 14),(.load true 40 (.t 5)),none⟩,⟨0,(some 15),(.callf false (.c (.fn (.func 45) [] [])) [(.t 13),(.t 14),(.c (.int .i64 1))] []),none⟩,⟨0,none,(.store 40 (.t 3) (.t 15) []),none⟩]))) (.reg [] false [⟨0,(some 16),(.bin .add (.t 9) (.c (.int .i64 1))),none⟩,⟨0,(some 9),(.mv (.t 16)),none⟩])))))
theorem aNj:aUZ=aNi:=rfl
theorem w43{C:List Nat}{n:Nat}(hC:n*40≤C.length)(hb:yE C)(hn:n≤1000):runW aB 43 [.sl 0 0 40 n] [aa (bO C)]=some (wZ (eJ C n),[aa (bO C)]):=by
 rw[q43 (by simp)];unfold x43;dsimp only;have c1:=w44 ⟨⟨[]⟩⟩;have hnf:newF (bN ⟨⟨[]⟩⟩)=newF []:=rfl;rw[hnf]at c1;rw[bP]at c1 ⊢;have l0:(bO (nf 0)).length=40:=by rfl
 have g0:=bM (nf 0);have l1:=iM [];have lf:=bD (newF []);rw[l1]at lf;have gf:=bM (newF []);have a1:=jV (a:=nf 0) (b:=newF []) (by rfl);have t1:=gR l1;have t2:=jU l1;have gC:=bM C;sym =>
  simp[Za,Zb,Zc,Zf,Zh,Zl,Zm,Zv,Zw,ZR,ZZ,Ya,Ye,Yh,Ym,Yn,Yv,Xz,We,Wu,Wv,Ve,Vp,V0,V3,V4,V6,V7,V8,VH,VL,VN,VS,VT,Uf,Ug,Uh,US,Tb,Tc,Td,Te,Tf,Tg,Tj,Tl,Ts,Tz,T9,TA,TB,TC,TD,TE,TF,TK,TL,TM,Sz,S3,SF,SK,SL,SV,SW,Pu,Pv,Pw,Px,c1,l0,g0,lf,gf,a1,t1,t2,gC,dV,dE,dQ,dW]
  tactic =>
   rw[aNj];unfold aNi;rw[aJ n (fun i=>[.pt 1 0,.pt 2 0,.sl 0 0 40 n,I (n:Nat),I (i:Nat)]) (fun i=>[aa (bO C),aa (bO (nf 0)),aa (bO (eJ C i))])]
   ·have e0:((n:Int)<(n:Int))=False:=AAb
    have l3:=fI hC n (B5 _);have c4:=bD (eJ C n);rw[l3]at c4;have c5:=gR l3;have c6:=jU l3;have c7:=bM (eJ C n);have c8:=jV (a:=nf 0) (b:=eJ C n) (by grind [qP]);(exact gF e0 l0 g0 c4 c5 c6 c7 c8 gC dV dE dQ dW)
   ·rfl
   ·intro i hi
    have i1:((i:Int)<(n:Int))=True:=AAa;have a2:=dU hi AT;have lC:=bD C;have i3:(i*40+40≤(bO C).length)=True:=AAn (by
     omega)
    have fu:=aFQ (C:=C) (k:=i);have l3:=fI hC i AT;have l4:=fI hC (i+1) AT;have l5:=xX hC hi;have w:=w45 (t:=1) l3 l5 (xI i) (aCA hb i) AT;have ws:eH 1 (eJ C i) (gG C i)=eJ C (i+1):=rfl;rw[ws]at w;rw[bP,bP,bP]at w;have m3:=bD (eJ C i);rw[l3]at m3;have m4:=bD (eJ C (i+1));rw[l4]at m4;have m5:=bD (gG C i);rw[l5]at m5;have c8:=jV (a:=nf 0) (b:=gG C i) (by grind [qP]);have c9:=jV (a:=eJ C i) (b:=eJ C (i+1)) (by rw[l3,l4]);have k3:=gR l3;have k4:=jU l3;have k5:=gR l5;have k6:=jU l5;have g3:=bM (eJ C i);have g4:=bM (eJ C (i+1));have g5:=bM (gG C i);have w':runW aB 45 [.agg (bO (eJ C i)),.agg (bO (gG C i)),I 1] []=some (.agg (bO (eJ C (i+1))),[]):=w;generalize eJ C (i+1)=S' at *;generalize eJ C i=S at *;generalize gG C i=f at *;(exact rA i1 a2 i3 fu w' m3 m4 m5 c8 c9 k3 k4 k5 k6 g3 g4 g5 gC l0 g0 dV dE dQ dW aE aE)
   ·have e0:((n:Int)<(n:Int))=False:=AAb
    (exact cK e0)
theorem aFW{cs:List AV}{s:Nat}:∀{n o i:Nat},i<n→(bG cs o s n)[i]?=some ((cs.drop (o+i*s)).take s)
 | 0,_,_,h=>absurd h AT
 | n+1,o,0,_=>by simp[bG]
 | n+1,o,i+1,h=>by
   rw[bG,G8,aFW AT,aF8 i 1,Nat.one_mul,aE7,Nat.add_comm s]
theorem bBF{C:List Nat}{n:Nat}(hC:n*40≤C.length):(bG (bO C) 0 40 n).length=n∧∀ i,i<n→(bG (bO C) 0 40 n)[i]?=some (bO (gG C i)):=by
 obtain⟨h1,_,_⟩:=zT (cs:=bO C) (s:=40) (n:=n) (o:=0) (by rw[bD];omega);refine⟨h1,fun i hi=>?_⟩;rw[aFW hi,J4,aFQ]
theorem bCe{C:List Nat}{n:Nat}(hC:n*40≤C.length)(hb:yE C)(hn:n≤1000):runW aB 43 [.fs (bG (bO C) 0 40 n)] []=some (wZ (eJ C n),[]):=by
 rw[q43 (by simp)];unfold x43;dsimp only;have c1:=w44 ⟨⟨[]⟩⟩;have hnf:newF (bN ⟨⟨[]⟩⟩)=newF []:=rfl;rw[hnf]at c1;rw[bP]at c1 ⊢;have l0:(bO (nf 0)).length=40:=by rfl
 have g0:=bM (nf 0);have l1:=iM [];have lf:=bD (newF []);rw[l1]at lf;have gf:=bM (newF []);have a1:=jV (a:=nf 0) (b:=newF []) (by rfl);have t1:=gR l1;have t2:=jU l1;obtain⟨rl,ra⟩:=bBF hC;generalize bG (bO C) 0 40 n=R at *;sym =>
  simp[Za,Zb,Zc,Zf,Zh,Zl,Zm,Zv,Zw,ZR,ZZ,Ya,Ye,Yh,Ym,Yn,Yu,Xz,We,Wu,Wv,Vd,Vp,V0,V3,V4,V6,V7,V8,VH,VL,VN,VS,VT,Uf,Ug,Uh,US,Tb,Tc,Td,Te,Tf,Tg,Tj,Tl,Ts,Tz,T9,TA,TB,TC,TD,TE,TF,TK,TL,TM,Sz,S3,SF,SK,SL,SV,SW,Pu,Pv,Pw,Px,rl,c1,l0,g0,lf,gf,a1,t1,t2,dV,dE,dQ,dW]
  tactic =>
   rw[aNj];unfold aNi;rw[aJ n (fun i=>[.pt 0 0,.pt 1 0,.fs R,I (n:Nat),I (i:Nat)]) (fun i=>[aa (bO (nf 0)),aa (bO (eJ C i))])]
   ·have e0:((n:Int)<(n:Int))=False:=AAb
    have l3:=fI hC n (B5 _);have c4:=bD (eJ C n);rw[l3]at c4;have c5:=gR l3;have c6:=jU l3;have c7:=bM (eJ C n);have c8:=jV (a:=nf 0) (b:=eJ C n) (by grind [qP]);(exact gF e0 l0 g0 c4 c5 c6 c7 c8 dV dE dQ dW aE)
   ·rfl
   ·intro i hi
    have i1:((i:Int)<(n:Int))=True:=AAa;have a2:=dU hi AT;have i3:(i<R.length)=True:=AAa;have fu:=ra i hi;have l3:=fI hC i AT;have l4:=fI hC (i+1) AT;have l5:=xX hC hi;have w:=w45 (t:=1) l3 l5 (xI i) (aCA hb i) AT;have ws:eH 1 (eJ C i) (gG C i)=eJ C (i+1):=rfl;rw[ws]at w;rw[bP,bP,bP]at w;have m3:=bD (eJ C i);rw[l3]at m3;have m4:=bD (eJ C (i+1));rw[l4]at m4;have m5:=bD (gG C i);rw[l5]at m5;have c8:=jV (a:=nf 0) (b:=gG C i) (by grind [qP]);have c9:=jV (a:=eJ C i) (b:=eJ C (i+1)) (by rw[l3,l4]);have k3:=gR l3;have k4:=jU l3;have k5:=gR l5;have k6:=jU l5;have g3:=bM (eJ C i);have g4:=bM (eJ C (i+1));have g5:=bM (gG C i);have w':runW aB 45 [.agg (bO (eJ C i)),.agg (bO (gG C i)),I 1] []=some (.agg (bO (eJ C (i+1))),[]):=w;generalize eJ C (i+1)=S' at *;generalize eJ C i=S at *;generalize gG C i=f at *;(exact rA i1 a2 i3 fu rl w' m3 m4 m5 c8 c9 k3 k4 k5 k6 g3 g4 g5 l0 g0 dV dE dQ dW aE aE)
   ·have e0:((n:Int)<(n:Int))=False:=AAb
    (exact cK e0)
theorem q69{vs:List AV}{h:XH}(hl:vs.length≤19):runW aB 69 vs h=gN none x69.res x69.ownR h.length (execW aB 69 h.length none x69.body (aT (if x69.ownA then vs else kQ vs)) h):=cX rfl hl h rfl
theorem aZt{xs:List AV}{h:XH}:runW aB 115 xs h=aGN xs h:=dF rfl rfl xs h
theorem p71{xs:List AV}{h:XH}:runW aB 71 xs h=aHX xs h:=dF rfl rfl xs h
def dT(s:ByteArray):List AV:=s.data.toList.map fun b=>.int .u8 (b.toNat:Int)
theorem aOe(s:ByteArray):s.data.toList.map (fun b=>AV.int .u8 (b.toNat:Int))=dT s:=rfl
theorem aCP(s:ByteArray):(dT s).length=s.size:=by
 simp[dT]
theorem aOf(a b:ByteArray):dT a++dT b=dT (a++b):=by
 simp[dT]
theorem fF(s:ByteArray):kI (dT s)=true:=eZ fun v hv=>by
 grind [iU,dT]
theorem aPR{α:Type}{g:α→AV}(hg:∀ a,jS (g a)=[])(l:List α):lE (l.map g)=[]:=by
 induction l with
 | nil=>rfl
 | cons a l ih=>grind [lE]
theorem aPP{α:Type}{g:α→AV}(hg:∀ a,slN (g a)=[])(l:List α):slL (l.map g)=[]:=by
 induction l with
 | nil=>rfl
 | cons a l ih=>grind [slL]
theorem aPQ{α:Type}{g:α→AV}{s:Nat→Option Nat}(hg:∀ a,rnA s (g a)=g a)(l:List α):lO s (l.map g)=l.map g:=by
 induction l with
 | nil=>rfl
 | cons a l ih=>grind [lO]
theorem eD(s:ByteArray):lE (dT s)=[]:=aPR (fun _=>rfl) _
theorem eM(s:ByteArray):slL (dT s)=[]:=aPP (fun _=>rfl) _
theorem eN(f:Nat→Option Nat)(s:ByteArray):lO f (dT s)=dT s:=aPQ (fun _=>rfl) _
theorem aLB:∀ l:List UInt8,aCa (l.map fun b=>AV.int .u8 (b.toNat:Int))=some l
 | []=>rfl
 | b::l=>by
   have ih:=aLB l;have hb:=b.toNat_lt;show (if 0≤(b.toNat:Int)∧(b.toNat:Int)<256 then (aCa (l.map fun b=>AV.int .u8 (b.toNat:Int))).map (UInt8.ofNat (b.toNat:Int).toNat :: ·) else none)=_;rw[if_pos AT,ih];simp
theorem aHF(H:Hp)(s:ByteArray):fK 1 H (.str s)=some (s.size,dT s):=rfl
theorem aIy(h:XH)(s:ByteArray):kN h (.str s)=true:=rfl
theorem aVX{s:ByteArray}(h0:0<s.size)(h1:s.size≤100000):runW aB 69 [.bp 0,.str s] [aa [.nilpt,.nilsl]] =
 some (.tup [I (s.size:Nat),.nilifc],[ab [.pt 0 0,.sb 1 s.size],aa (dT s)]):=by
 rw[q69 (by simp)];unfold x69;dsimp only;have c1:runW aB 115 [.bp 0] [aa [.nilpt,.nilsl]]=some (.tup [],[ab [.pt 0 0,.nilsl]]):=by rw[aZt];rfl
 have z1:(s.size=0)=False:=AAb;have z2:(s.size*1048577≤1099511627776)=True:=AAa;have z3:(s.size≤1099511627776)=True:=AAa;have g1:=fF s;(exact jE c1 z1 z2 z3 aHF aIy eD eM eN g1)
theorem aVW{s a:ByteArray}(h0:0<s.size)(h1:s.size≤100000)(h2:a.size≤100000):runW aB 69 [.bp 0,.str s] [ab [.pt 0 0,.sb 1 a.size],aa (dT a)] =
 some (.tup [I (s.size:Nat),.nilifc],[ab [.pt 0 0,.sb 2 (a.size+s.size)],none,aa (dT (a++s))]):=by
 rw[q69 (by simp)];unfold x69;dsimp only;have c1:runW aB 115 [.bp 0] [ab [.pt 0 0,.sb 1 a.size],aa (dT a)]=some (.tup [],[ab [.pt 0 0,.sb 1 a.size],aa (dT a)]):=by rw[aZt];rfl
 have l1:=aCP a;have z3:(a.size+s.size≤1099511627776)=True:=AAa;have z4:(a.size+s.size≤1099511627776∧True)=True:=AAn ⟨by omega,trivial⟩;have g1:=fF s;have g2:=fF a;have g3:=fF (a++s);have e1:=aOf a s;(exact gF c1 l1 z3 aHF aIy eD eM eN g1 g2 g3 e1 aE)
theorem w71{a:ByteArray}(h0:0<a.size)(h1:a.size≤1000000):runW aB 71 [.bp 0] [ab [.pt 0 0,.sb 1 a.size],aa (dT a)]=some (.str a,[ab [.pt 0 0,.sb 1 a.size],none]):=by
 rw[p71];have hl:=aCP a;have hb:=aLB a.data.toList;have hsz:a.size=a.data.toList.length:=by rfl
 unfold aHX;simp only[hat,aC8,List.getD_cons_succ];rw[C4 AT];unfold dT;rw[hb];cases hd:a.data.toList with
 | nil=>grind
 | cons x l =>
   dsimp only;have hc:a.size≤(List.map (fun b:UInt8=>AV.int IntKind.u8 (b.toNat:Int)) (x::l)).length∧(1:Nat)≠0∧a.size≤1000000:=⟨by grind,by decide,h1⟩;rw[if_pos hc];have ha:(⟨⟨x::l⟩⟩:ByteArray)=a:=by
    rw[←hd]
   rw[ha];rfl
def aUO:XCode:=(.loop [1,5,6,9,10,11] (.seq (.reg [] false [⟨0,(some 12),(.bin .lss (.t 11) (.t 10)),none⟩]) (.seq (.cond (.t 12) .skip (.exit 0)) (.seq (.block 1 (.seq (.reg [] false [⟨0,(some 13),(.mv (.t 11)),none⟩,⟨0,(some 14),(.idx 1 (.t 9) (.t 11)),none⟩,⟨0,(some 15),(.load false 1 (.t 14)),none⟩,⟨0,(some 7),(.mv (.t 13)),none⟩,⟨0,(some 8),(.mv (.t 15)),none⟩]) (.seq (.reg [(8,false)] false [⟨0,(some 16),(.mv (.t 6)),none⟩,⟨0,(some 17),(.mv (.t 8)),none⟩,⟨0,(some 18),(.callf false (.c (.fn (.func 44) [] [])) [(.t 17)] []),none⟩,⟨0,(some 19),(.bslice 40 1 (bO (nf 0)) [(0,(40,(.t 18)))]),none⟩,⟨0,(some 20),(.app 40 40 (.t 16) (.t 19)),none⟩,⟨0,(some 6),(.mv (.t 20)),none⟩]) (.reg [(5,false)] false [⟨0,(some 21),(.mv (.t 6)),none⟩,⟨0,(some 22),(.mv (.t 7)),none⟩,⟨0,(some 23),(.idx 40 (.t 21) (.t 22)),none⟩,⟨0,(some 24),(.load true 40 (.t 23)),none⟩,⟨0,(some 25),(.mv (.t 1)),none⟩,⟨0,(some 26),(.mv (.t 7)),none⟩,⟨0,(some 27),(.bin .add (.t 25) (.t 26)),none⟩,⟨0,(some 28),(.callf false (.c (.fn (.func 77) [] [])) [(.t 24),(.t 27)] []),none⟩,⟨0,(some 29),(.callf false (.c (.fn (.func 69) [] [])) [(.t 5),(.t 28)] []),none⟩])))) (.reg [] false [⟨0,(some 30),(.bin .add (.t 11) (.c (.int .i64 1))),none⟩,⟨0,(some 11),(.mv (.t 30)),none⟩])))))
theorem aVO:aVb=aUO:=rfl
def oG(s:ByteArray):List Nat:=newF (bN s)
theorem nQ(s:ByteArray):(oG s).length=40:=iM _
theorem aAO(s:ByteArray):yE (oG s):=pA (aEA s)
def Cn(ls:List ByteArray)(i:Nat):List Nat:=((ls.take i).map oG).flatten
def rwB(row:Nat)(f:List Nat):ByteArray:=nG (iY row f)
def Bn(ls:List ByteArray)(row:Nat):Nat→ByteArray
 | 0=>⟨⟨[]⟩⟩
 | i+1=>Bn ls row i++rwB (row+i) (oG (ls.getD i ⟨⟨[]⟩⟩))
theorem aON{row:Nat}{f:List Nat}(h:f.length=40):(iY row f).length=45:=by simp[iY,sI,h]
theorem aAs{row:Nat}{f:List Nat}(h:f.length=40):(rwB row f).size=45:=by
 unfold rwB nG
 grind [aBL,aON]
theorem yF(ls:List ByteArray)(row:Nat):∀ i,(Bn ls row i).size=i*45
 | 0=>rfl
 | i+1=>by rw[Bn,H9,yF ls row i,aAs (nQ _)];omega
theorem aUc(a:ByteArray):(⟨⟨[]⟩⟩:ByteArray)++a=a:=by
 rfl
theorem lN{ls:List ByteArray}:∀{i:Nat},i≤ls.length→(Cn ls i).length=i*40
 | 0,_=>by simp[Cn]
 | i+1,h=>by
   have ih:=lN (ls:=ls) (i:=i) AT;unfold Cn at *;rw[D6];obtain⟨x,hx⟩:=dD (l:=ls) (i:=i) AT;rw[hx];simp only[Option.toList_some,M4,E5,aA8,aC9,J8,aA7,J1,F6,ih,nQ];omega
theorem aUL{ls:List ByteArray}{i:Nat}{s:ByteArray}(h:ls[i]?=some s):Cn ls (i+1)=Cn ls i++oG s:=by
 grind [List.take_add_one,Cn]
theorem aYb(ls:List ByteArray)(i:Nat):yE (Cn ls i):=by
 intro k x h;have hm:=B3 h;unfold Cn at hm;obtain⟨l,h1,h2⟩:=aE8.1 hm;obtain⟨s,_,rfl⟩:=F7.1 h1;obtain⟨j,hj⟩:=G7 h2;exact aAO s j x hj
theorem bBR{ls:List ByteArray}{i:Nat}{s:ByteArray}(h:ls[i]?=some s):((bO (Cn ls (i+1))).drop (i*40)).take 40=bO (oG s):=by
 have hi:i<ls.length:=(B8.1 h).1;have hl:=lN (ls:=ls) (i:=i) AT;rw[aUL h];unfold bO;rw[M4,List.drop_append_of_le_length (by grind),M6 (by grind),H7];exact C4 (by rw[B7,nQ];omega)
theorem aNV(a b:List Nat):bO a++bO b=bO (a++b):=by simp[bO]
theorem aUN{ls:List ByteArray}{row i:Nat}{s:ByteArray}(h:ls[i]?=some s):Bn ls row (i+1)=Bn ls row i++rwB (row+i) (oG s):=by
 grind [Bn]
def lS(i:Nat):AV:=if i=0 then .nilsl else .sl 2 0 40 i
def rS(ls:List ByteArray):List (List AV):=ls.map fun s=>[.str s]
theorem eX(ls:List ByteArray):(rS ls).length=ls.length:=by simp[rS]
theorem rO{ls:List ByteArray}{i:Nat}{s:ByteArray}(h:ls[i]?=some s):(rS ls)[i]?=some [.str s]:=by simp[rS,h]
theorem q35{vs:List AV}{h:XH}(hl:vs.length≤15):runW aB 35 vs h=gN none x35.res x35.ownR h.length (execW aB 35 h.length none x35.body (aT (if x35.ownA then vs else kQ vs)) h):=cX rfl hl h rfl
theorem w35(lo n hi:Int):runW aB 35 [I lo,I n,I hi] []=some (.bool (decide (lo≤n)&&decide (n≤hi)),[]):=by
 rw[q35 (by simp)];unfold x35;dsimp only;rcases oC (lo≤n)with h1|h1
 ·have d1:decide (lo≤n)=true:=by simp[h1]
  (exact pY h1 d1)
 ·have d1:decide (lo≤n)=false:=by simp[h1]
  (exact pY h1 d1)
def lnE(s:ByteArray):Int:=if 40<s.size then 14 else if s.size=0||(vI s.data.toList||Lib.hasSuffix s.data.toList [32]) then 13 else 0
def emB:ByteArray:=⟨#[]⟩
def pgB(ls:List ByteArray)(row:Nat):ByteArray:=Bn ls row ls.length++rwB (row+ls.length) (eJ (Cn ls ls.length) ls.length)
theorem aNZ(s:ByteArray):s.toList=s.data.toList:=ByteArray.toList_eq s
theorem q16{vs:List AV}{h:XH}(hl:vs.length≤121):runW aB 16 vs h=gN none x16.res x16.ownR h.length (execW aB 16 h.length none x16.body (aT (if x16.ownA then vs else kQ vs)) h):=cX rfl hl h rfl
def aUQ:XCode:=(.loop [0,1,4,5,7,8,9,35,36] (.seq (.reg [] false [⟨0,(some 37),(.bin .lss (.t 36) (.t 35)),none⟩]) (.seq (.cond (.t 37) .skip (.exit 1)) (.seq (.block 2 (.seq (.reg [] false [⟨0,(some 38),(.mv (.t 36)),none⟩,⟨0,(some 10),(.mv (.t 38)),none⟩]) (.seq (.reg [] false [⟨0,(some 40),(.mv (.t 0)),none⟩,⟨0,(some 41),(.mv (.t 10)),none⟩,⟨0,(some 42),(.bin .mul (.t 41) (.c (.int .i64 45))),none⟩,⟨0,(some 43),(.mv (.t 10)),none⟩,⟨0,(some 44),(.bin .add (.t 43) (.c (.int .i64 1))),none⟩,⟨0,(some 45),(.bin .mul (.t 44) (.c (.int .i64 45))),none⟩,⟨0,(some 46),(.slstr (.t 40) (some (.t 42)) (some (.t 45))),none⟩,⟨0,(some 47),(.mv (.t 1)),none⟩,⟨0,(some 48),(.mv (.t 10)),none⟩,⟨0,(some 49),(.bin .add (.t 47) (.t 48)),none⟩,⟨0,(some 50),(.callf false (.c (.fn (.func 42) [] [])) [(.t 46),(.t 49)] []),none⟩,⟨0,(some 39),(.mv (.t 50)),none⟩,⟨0,(some 51),(.ext (.t 39) 0),none⟩,⟨0,(some 52),(.ext (.t 39) 1),none⟩,⟨0,(some 11),(.alloc (bO (nf 0))),none⟩,⟨0,none,(.store 40 (.t 11) (.t 51) []),none⟩,⟨0,(some 12),(.mv (.t 52)),none⟩]) (.seq (.seq (.reg [] false [⟨0,(some 53),(.mv (.t 12)),none⟩,⟨0,(some 54),(.not (.t 53)),none⟩]) (.cond (.t 54) (.seq (.reg [] false [⟨0,(some 55),(.mv (.t 10)),none⟩,⟨0,(some 9),(.mv (.t 55)),none⟩]) (.reg [] false [⟨0,(some 56),(.mv (.t 5)),none⟩,⟨0,(some 57),(.bin .add (.t 56) (.c (.int .i64 1))),none⟩,⟨0,(some 5),(.mv (.t 57)),none⟩])) .skip)) (.reg [] false [⟨0,(some 58),(.mv (.t 8)),none⟩,⟨0,(some 59),(.load true 40 (.t 11)),none⟩,⟨0,(some 60),(.bslice 40 1 (bO (nf 0)) [(0,(40,(.t 59)))]),none⟩,⟨0,(some 61),(.app 40 40 (.t 58) (.t 60)),none⟩,⟨0,(some 8),(.mv (.t 61)),none⟩]))))) (.reg [] false [⟨0,(some 62),(.bin .add (.t 36) (.c (.int .i64 1))),none⟩,⟨0,(some 36),(.mv (.t 62)),none⟩])))))
def aUP:XCode:=(.loop [4,5,105,106,107] (.seq (.reg [] false [⟨0,(some 108),(.bin .lss (.t 107) (.t 106)),none⟩]) (.seq (.cond (.t 108) .skip (.exit 4)) (.seq (.block 5 (.seq (.reg [] false [⟨0,(some 109),(.idx 40 (.t 105) (.t 107)),none⟩,⟨0,(some 110),(.load true 40 (.t 109)),none⟩,⟨0,(some 15),(.alloc (bO (nf 0))),none⟩,⟨0,none,(.store 40 (.t 15) (.t 110) []),none⟩]) (.reg [] false [⟨0,(some 111),(.mv (.t 4)),none⟩,⟨0,(some 112),(.load true 40 (.t 15)),none⟩,⟨0,(some 113),(.callf false (.c (.fn (.func 46) [] [])) [(.t 112)] []),none⟩,⟨0,(some 114),(.bslice 1 1 [(.str ⟨#[]⟩)] [(0,(1,(.t 113)))]),none⟩,⟨0,(some 115),(.app 1 16 (.t 111) (.t 114)),none⟩,⟨0,(some 4),(.mv (.t 115)),none⟩]))) (.reg [] false [⟨0,(some 116),(.bin .add (.t 107) (.c (.int .i64 1))),none⟩,⟨0,(some 107),(.mv (.t 116)),none⟩])))))
def aVP:XCode:=(.seq (.seq (.reg [] false [⟨0,(some 103),(.mv (.t 8)),none⟩,⟨0,(some 104),(.mv (.t 13)),none⟩,⟨0,(some 105),(.slsl 40 (.t 103) none (some (.t 104))),none⟩,⟨0,(some 106),(.len false (.t 105)),none⟩,⟨0,(some 107),(.mv (.c (.int .i64 0))),none⟩]) (.block 4 aUP)) (.seq (.seq (.reg [(4,false)] false [⟨0,(some 117),(.mv (.t 4)),none⟩,⟨0,(some 118),(.callf false (.c (.fn (.func 47) [] [])) [(.t 117),(.c (.str ⟨#[]⟩))] []),none⟩]) (.cond (.t 118) (.seq (.reg [] false [⟨0,(some 4),(.mv (.c .nilsl)),none⟩,⟨0,(some 5),(.mv (.c (.int .i64 0))),none⟩,⟨0,(some 6),(.mv (.c (.int .i64 13))),none⟩]) .ret) .skip)) (.seq (.reg [] false [⟨0,(some 119),(.mv (.t 4)),none⟩,⟨0,(some 120),(.mv (.t 5)),none⟩,⟨0,(some 4),(.mv (.t 119)),none⟩,⟨0,(some 5),(.mv (.t 120)),none⟩,⟨0,(some 6),(.mv (.c (.int .i64 0))),none⟩]) .ret)))
def aYc:XCode:=(.seq (.reg [] false [⟨0,(some 4),(.mv (.c .nilsl)),none⟩,⟨0,(some 5),(.mv (.c (.int .i64 0))),none⟩,⟨0,(some 6),(.mv (.c (.int .i64 0))),none⟩]) (.seq (.reg [] false [⟨0,(some 16),(.mv (.t 0)),none⟩,⟨0,(some 17),(.len true (.t 16)),none⟩,⟨0,(some 18),(.bin .quo (.t 17) (.c (.int .i64 45))),none⟩,⟨0,(some 7),(.mv (.t 18)),none⟩]) (.seq (.block 0 (.seq (.reg [] false [⟨0,(some 20),(.mv (.t 1)),none⟩,⟨0,(some 21),(.callf false (.c (.fn (.func 35) [] [])) [(.c (.int .i64 0)),(.t 20),(.c (.int .i64 1000))] []),none⟩,⟨0,(some 22),(.not (.t 21)),none⟩,⟨0,(some 19),(.mv (.t 22)),none⟩]) (.cond (.t 19) (.seq (.reg [] false [⟨0,(some 4),(.mv (.c .nilsl)),none⟩,⟨0,(some 5),(.mv (.c (.int .i64 0))),none⟩,⟨0,(some 6),(.mv (.c (.int .i64 2))),none⟩]) .ret) (.seq (.reg [] false [⟨0,(some 24),(.mv (.t 0)),none⟩,⟨0,(some 25),(.len true (.t 24)),none⟩,⟨0,(some 26),(.bin .rem (.t 25) (.c (.int .i64 45))),none⟩,⟨0,(some 27),(.bin .neq (.t 26) (.c (.int .i64 0))),none⟩,⟨0,(some 28),(.mv (.t 27)),none⟩,⟨0,(some 29),(.mv (.t 7)),(some (28,false))⟩,⟨0,(some 30),(.bin .lss (.t 29) (.c (.int .i64 2))),(some (28,false))⟩,⟨0,(some 31),(.pick (.t 28) (.c (.bool true)) (.t 30)),none⟩,⟨0,(some 23),(.mv (.t 31)),none⟩]) (.cond (.t 23) (.seq (.reg [] false [⟨0,(some 4),(.mv (.c .nilsl)),none⟩,⟨0,(some 5),(.mv (.c (.int .i64 0))),none⟩,⟨0,(some 6),(.mv (.c (.int .i64 20))),none⟩]) .ret) (.seq (.reg [] false [⟨0,(some 33),(.mv (.t 7)),none⟩,⟨0,(some 34),(.bin .gtr (.t 33) (.c (.int .i64 6))),none⟩,⟨0,(some 32),(.mv (.t 34)),none⟩]) (.cond (.t 32) (.seq (.reg [] false [⟨0,(some 4),(.mv (.c .nilsl)),none⟩,⟨0,(some 5),(.mv (.c (.int .i64 0))),none⟩,⟨0,(some 6),(.mv (.c (.int .i64 1))),none⟩]) .ret) .skip))))))) (.seq (.reg [] false [⟨0,(some 8),(.mv (.c .nilsl)),none⟩]) (.seq (.reg [] false [⟨0,(some 9),(.mv (.c (.int .i64 (-1)))),none⟩]) (.seq (.seq (.reg [] false [⟨0,(some 35),(.mv (.t 7)),none⟩,⟨0,(some 36),(.mv (.c (.int .i64 0))),none⟩]) (.block 1 aUQ)) (.seq (.reg [] false [⟨0,(some 63),(.mv (.t 7)),none⟩,⟨0,(some 64),(.bin .sub (.t 63) (.c (.int .i64 1))),none⟩,⟨0,(some 13),(.mv (.t 64)),none⟩]) (.seq (.block 3 (.seq (.reg [] false [⟨0,(some 66),(.mv (.t 5)),none⟩,⟨0,(some 67),(.bin .gtr (.t 66) (.c (.int .i64 1))),none⟩,⟨0,(some 65),(.mv (.t 67)),none⟩]) (.cond (.t 65) (.seq (.reg [] false [⟨0,(some 4),(.mv (.c .nilsl)),none⟩,⟨0,(some 5),(.mv (.c (.int .i64 0))),none⟩,⟨0,(some 6),(.mv (.c (.int .i64 19))),none⟩]) .ret) (.seq (.reg [] true [⟨0,(some 69),(.mv (.t 5)),none⟩,⟨1,(some 70),(.bin .eql (.t 69) (.c (.int .i64 0))),none⟩,⟨2,(some 71),(.mv (.t 70)),none⟩,⟨3,(some 72),(.mv (.t 8)),(some (71,true))⟩,⟨4,(some 73),(.mv (.t 13)),(some (71,true))⟩,⟨5,(some 74),(.slsl 40 (.t 72) none (some (.t 73))),(some (71,true))⟩,⟨7,(some 76),(.mv (.t 8)),(some (71,true))⟩,⟨8,(some 77),(.mv (.t 13)),(some (71,true))⟩,⟨9,(some 78),(.idx 40 (.t 76) (.t 77)),(some (71,true))⟩,⟨10,(some 79),(.load true 40 (.t 78)),(some (71,true))⟩,⟨6,(some 75),(.callf false (.c (.fn (.func 43) [] [])) [(.t 74)] [10]),(some (71,true))⟩,⟨11,(some 80),(.eqag true (List.replicate 40 0) (.t 75) (.t 79)),(some (71,true))⟩,⟨12,(some 81),(.pick (.t 71) (.t 80) (.c (.bool false))),none⟩,⟨13,(some 68),(.mv (.t 81)),none⟩]) (.cond (.t 68) (.seq (.reg [] false [⟨0,(some 4),(.mv (.c .nilsl)),none⟩,⟨0,(some 5),(.mv (.c (.int .i64 0))),none⟩,⟨0,(some 6),(.mv (.c (.int .i64 22))),none⟩]) .ret) (.seq (.reg [] false [⟨0,(some 83),(.mv (.t 9)),none⟩,⟨0,(some 84),(.mv (.t 13)),none⟩,⟨0,(some 85),(.bin .sub (.t 84) (.c (.int .i64 1))),none⟩,⟨0,(some 86),(.callf false (.c (.fn (.func 35) [] [])) [(.c (.int .i64 0)),(.t 83),(.t 85)] []),none⟩,⟨0,(some 82),(.mv (.t 86)),none⟩]) (.cond (.t 82) (.seq (.reg [] false [⟨0,(some 87),(.mv (.t 8)),none⟩,⟨0,(some 88),(.mv (.t 9)),none⟩,⟨0,(some 89),(.callf false (.c (.fn (.func 44) [] [])) [(.c (.str ⟨#[]⟩))] []),none⟩,⟨0,(some 90),(.idx 40 (.t 87) (.t 88)),none⟩,⟨0,none,(.store 40 (.t 90) (.t 89) []),none⟩]) (.reg [] true [⟨0,(some 91),(.mv (.t 8)),none⟩,⟨1,(some 92),(.mv (.t 9)),none⟩,⟨2,(some 93),(.mv (.t 8)),none⟩,⟨3,(some 94),(.mv (.t 13)),none⟩,⟨4,(some 95),(.idx 40 (.t 93) (.t 94)),none⟩,⟨5,(some 96),(.load true 40 (.t 95)),none⟩,⟨6,(some 97),(.mv (.t 8)),none⟩,⟨7,(some 98),(.mv (.t 13)),none⟩,⟨8,(some 99),(.slsl 40 (.t 97) none (some (.t 98))),none⟩,⟨9,(some 100),(.callf false (.c (.fn (.func 43) [] [])) [(.t 99)] [5]),none⟩,⟨10,(some 101),(.callf false (.c (.fn (.func 45) [] [])) [(.t 96),(.t 100),(.c (.int .i64 94))] []),none⟩,⟨11,(some 102),(.idx 40 (.t 91) (.t 92)),none⟩,⟨12,none,(.store 40 (.t 102) (.t 101) []),none⟩])) .skip))))))) aVP))))))))
theorem aVQ:x16=⟨121,[(4,none),(5,none),(6,none)],false,false,aYc,none,none⟩:=rfl
theorem aCN(a b:Nat):nX (a:Int) (b:Int)=((a/b:Nat):Int):=by
 rfl
def rwS(s:ByteArray)(i:Nat):ByteArray:=jD s (i*45) ((i+1)*45)
def gdS(s:ByteArray)(row i:Nat):Bool:=aFK (rwS s i) (row+i)
def FnS(s:ByteArray):Nat→List Nat
 | 0=>[]
 | i+1=>FnS s i++rdF (rwS s i)
def bdS(s:ByteArray)(row:Nat):Nat→Int
 | 0 => -1
 | i+1=>if gdS s row i then bdS s row i else (i:Int)
def mdS(s:ByteArray)(row:Nat):Nat→Nat
 | 0=>0
 | i+1=>if gdS s row i then mdS s row i else mdS s row i+1
theorem aGL(s:ByteArray):(rdF s).length=40:=iM _
theorem yD(s:ByteArray):∀ i,(FnS s i).length=i*40
 | 0=>rfl
 | i+1=>by rw[FnS,F6,yD s i,aGL];omega
theorem aLI(s:ByteArray):∀ i,yE (FnS s i)
 | 0=>by simp[yE,FnS]
 | i+1=>by
   intro k x h;rw[FnS,G6]at h;split at h;·exact aLI s i k x h
   ·exact pA (aEA _) _ x h
theorem aJK(s:ByteArray)(row:Nat):∀ i,mdS s row i≤i
 | 0=>B5 _
 | i+1=>by
   have:=aJK s row i;rw[mdS];split<;>omega
theorem aRf(s:ByteArray)(row:Nat):∀ i,-1≤bdS s row i∧bdS s row i<i
 | 0=>by simp[bdS]
 | i+1=>by
   have:=aRf s row i
   grind [bdS]
theorem aDj{s:ByteArray}{i:Nat}(h:(i+1)*45≤s.size):(rwS s i).size=45:=by
 unfold rwS;rw[←aLs,ByteArray.size_extract];omega
def setC(C:List Nat)(k:Nat)(f:List Nat):List Nat:=C.take (k*40)++(f++C.drop (k*40+40))
def aQv(C:List Nat)(n k:Nat):List Nat:=setC (setC C k (newF [])) k (eH 94 (gG (setC C k (newF [])) n) (eJ (setC C k (newF [])) n))
def lns(C:List Nat)(n:Nat):List ByteArray:=(List.range n).map fun i=>lnB (gG C i)
def erV(e:Int):AV:=.tup [.fs [],I 0,I e]
def aDG(C:List Nat)(n md:Nat):AV:=if Lib.containsS (lns C n) emB then erV 13 else .tup [.fs (rS (lns C n)),I (md:Nat),I 0]
def wR(C:List Nat)(n:Nat)(bad:Int)(md:Nat):AV:=if 1<md then erV 19 else if md=0∧eJ C n≠gG C n then erV 22 else
 if 0≤bad∧bad<n then aDG (aQv C n bad.toNat) n md else aDG C n md
def mnV(s:ByteArray)(row:Int):AV:=if (decide (0≤row)&&decide (row≤1000))=true then
 (if s.size%45≠0∨s.size/45<2 then erV 20 else if 6<s.size/45 then erV 1 else wR (FnS s (s.size/45)) (s.size/45-1) (bdS s row.toNat (s.size/45)) (mdS s row.toNat (s.size/45))) else erV 2
def mS(i:Nat):AV:=if i=0 then .nilsl else .sl 0 0 40 i
def mG(s:ByteArray)(i:Nat):XH:=if i=0 then [] else [aa (bO (FnS s i))]
theorem q47{xs:List AV}{h:XH}:runW aB 47 xs h=aHY xs h:=dF rfl rfl xs h
theorem aKB:∀ l:List ByteArray,vM (rS l)=some l
 | []=>rfl
 | s::l=>by
   have ih:=aKB l;show (vM (rS l)).map (s :: ·)=_;rw[ih];rfl
theorem w47{l:List ByteArray}{x:ByteArray}(h:l.length≤1000000):runW aB 47 [.fs (rS l),.str x] []=some (.bool (Lib.containsS l x),[]):=by
 rw[q47];unfold aHY;dsimp only;rw[aKB];grind
def cO(l:List ByteArray):List AV:=l.map AV.str
theorem fH(l:List ByteArray):(cO l).length=l.length:=by simp[cO]
theorem bU(l:List ByteArray):lE (cO l)=[]:=aPR (fun _=>rfl) _
theorem bR(l:List ByteArray):slL (cO l)=[]:=aPP (fun _=>rfl) _
theorem bT(f:Nat→Option Nat)(l:List ByteArray):lO f (cO l)=cO l:=aPQ (fun _=>rfl) _
theorem eP(l:List ByteArray):kI (cO l)=true:=eZ fun v hv=>by
 grind [iU,cO]
theorem aBh(l:List ByteArray):bG (cO l) 0 1 l.length=rS l:=xZ (f:=AV.str) l []
theorem aLc(C:List Nat)(n:Nat):(lns C n).length=n:=by simp[lns]
theorem aZY(C:List Nat)(i:Nat):cO (lns C i)++[.str (lnB (gG C i))]=cO (lns C (i+1)):=by
 simp[cO,lns,aB1]
def tS(i:Nat):AV:=if i=0 then .nilsl else .sl 0 0 1 i
def tB(p i:Nat):AV:=if i=0 then .sl 0 0 40 p else .sl 1 0 40 p
def tG(C:List Nat)(i:Nat):XH:=if i=0 then [aa (bO C)] else [aa (cO (lns C i)),aa (bO C)]
theorem t16{C:List Nat}{n p md:Nat}{e:aI}(hn:n=p+1)(hC:C.length=n*40)(hb:yE C)(h0:1≤p)(h1:p≤1000)(e4:e 4 = .nilsl)(e5:e 5=I (md:Nat))(e8:e 8 = .sl 0 0 40 n)(e13:e 13=I (p:Nat)) :
 gN none [(4,none),(5,none),(6,none)] false 0 (execW aB 16 0 none aVP e [aa (bO C)])=some (aDG C p md,[]):=by
 unfold aVP;have z1:((p:Int)≤(n:Int))=True:=AAa;have z2:(0<p)=True:=AAa;sym =>
  simp[fR,fU,lX,Za,Zb,Zf,Zh,Zl,Zm,Zn,Zv,ZM,ZR,Yv,YL,YM,Tz,TQ,TR,TS,SF,SK,SL,SV,SW,Rg,Ri,Rl,Rm,RH,e4,e5,e8,e13,z1,z2]
  tactic =>
   unfold aUP;rw[aJ p (fun i=>[tS i,I (md:Nat),tB p i,I (p:Nat),I (i:Nat)]) (fun i=>tG C i)]
   ·have s0:tS p = .sl 0 0 1 p:=if_neg AT
    have b0:tB p p = .sl 1 0 40 p:=if_neg AT;have g0:tG C p=[aa (cO (lns C p)),aa (bO C)]:=if_neg AT;have x0:((p:Int)<(p:Int))=False:=AAb;have ll:=aLc C p;have lc:=fH (lns C p);rw[ll]at lc;have ch:=aBh (lns C p);rw[ll]at ch;have c1:=w47 (l:=lns C p) (x:=⟨#[]⟩) AT;unfold aDG;have hE:Lib.containsS (lns C p) emB=Lib.containsS (lns C p) ⟨#[]⟩:=rfl;rw[hE];have p1:(p*1≤p)=True:=AAa;have p2:(p≤p)=True:=AAa;generalize lns C p=L at *;cases hc:Lib.containsS L ⟨#[]⟩with
    | true =>
      rw[hc]at c1;unfold erV;(exact RT9 s0 b0 g0 x0 lc ch c1 p1 p2)
    | false =>
      rw[hc]at c1;(exact RT9 s0 b0 g0 x0 lc ch c1 p1 p2)
   ·have s0:tS 0 = .nilsl:=rfl
    have b0:tB p 0 = .sl 0 0 40 p:=rfl;have g0:tG C 0=[aa (bO C)]:=rfl;(exact RT9 s0 b0 g0 e4 e5 dV dE dQ dW)
   ·intro i hi
    have i1:((i:Int)<(p:Int))=True:=AAa;have a2:=dU hi AT;have hC2:p*40≤C.length:=AT
    have lC:=bD C;have i3:(i*40+40≤(bO C).length)=True:=AAn (by
     omega)
    have fu:=aFQ (C:=C) (k:=i);have l5:=xX hC2 hi;have c1:=w46 l5;rw[bP]at c1;have m5:=bD (gG C i);rw[l5]at m5;have l0:(bO (nf 0)).length=40:=by rfl
    have gz:=bM (nf 0);have c8:=jV (a:=nf 0) (b:=gG C i) (by grind [qP]);have k5:=gR l5;have k6:=jU l5;have g5:=bM (gG C i);have gC:=bM C;have ls:=aZY C i;have n1:=fH (lns C i);rw[aLc]at n1;have n2:=eP (lns C i);have n3:=eP (lns C (i+1));have s1:tS (i+1) = .sl 0 0 1 (i+1):=if_neg AT;have b1:tB p (i+1) = .sl 1 0 40 p:=if_neg AT;have g1:tG C (i+1)=[aa (cO (lns C (i+1))),aa (bO C)]:=if_neg AT;have z3:(i+1≤1099511627776)=True:=AAa;have z4:((i+1)*16≤1099511627776)=True:=AAa;by_cases hi0:i=0
    ·subst hi0
     have s0:tS 0 = .nilsl:=rfl;have b0:tB p 0 = .sl 0 0 40 p:=rfl;have g0:tG C 0=[aa (bO C)]:=rfl;have L0:cO (lns C 0)=[]:=rfl;rw[L0,H7]at ls;have j1:((0:Int)<(p:Int))=True:=AAa;rw[s1,b1,g1];rw[←ls];have fu:List.take 40 (bO C)=bO (gG C 0):=fu;have fv:List.take 40 (List.drop 0 (bO C))=bO (gG C 0):=fu;have i3:(40≤(bO C).length)=True:=AAa;generalize lnB (gG C 0)=B at *;generalize gG C 0=f at *;(exact aNg j1 i3 fu fv m5 c1 l0 gz c8 k5 k6 g5 gC s0 b0 g0 dV dE dQ dW)
    ·have s0:tS i = .sl 0 0 1 i:=if_neg hi0
     have b0:tB p i = .sl 1 0 40 p:=if_neg hi0;have g0:tG C i=[aa (cO (lns C i)),aa (bO C)]:=if_neg hi0;rw[s1,b1,g1];generalize lns C (i+1)=L1 at *;generalize lns C i=L0 at *;generalize lnB (gG C i)=B at *;generalize gG C i=f at *;(sym=>(simp[fR,fU,lX,Za,Zb,Zc,Zd,Ze,Zf,Zh,Zl,Zm,Zo,Zv,Zw,Z8,ZA,ZH,ZV,ZZ,Ya,Ye,Yh,Yl,Ym,Yn,Yy,Y6,YG,YL,YM,Xx,XI,XM,Wg,Wr,Wu,Wv,Wy,Vo,Vp,V0,V1,V2,V3,V4,V5,V6,V7,VA,VB,VE,VF,VH,VJ,VK,VL,VM,VN,VO,VP,VQ,VR,VS,VT,VW,VX,Uc,Uf,Ug,Uh,UT,UU,UV,UW,UX,Tc,Td,Te,Tf,Tg,Ti,Tj,Tl,Tp,Ts,Tz,T4,T5,T7,T8,T9,TA,TB,TC,TD,TE,TF,TM,TN,TO,TP,TY,TZ,Sa,Sc,Sj,Sk,Sl,Sp,Sq,Ss,Su,Sx,Sz,S3,S6,S7,S8,S9,SD,SF,SI,SK,SL,SP,SU,SV,SW,Rz,R0,RC,RR,Pu,Pv,Pw,Px,i1,a2,i3,fu,m5,c1,l0,gz,c8,k5,k6,g5,gC,ls,n1,n2,n3,s0,b0,g0,z3,z4,dV,dE,dQ,dW,bU,bR,bT];all_goals tactic=>exact rfl))
   ·have x0:((p:Int)<(p:Int))=False:=AAb
    (exact RT1 x0)
theorem aFY:∀{a b:List Nat}{n:Nat},a.length=n→b.length=n→dP (List.replicate n 0) (bO a) (bO b)=some (decide (a=b))
 | [],[],0,_,_=>rfl
 | x::a,y::b,n+1,ha,hb=>by
   have ih:=aFY (a:=a) (b:=b) (n:=n) (by grind) (by grind);rw[O4];show (match uI 0 (.int .u8 (x:Int)) (.int .u8 (y:Int)),dP (List.replicate n 0) (bO a) (bO b)with
    | some x,some y=>some (x&&y)
    | _,_=>none)=_
   rw[ih];show some (decide ((x:Int)=(y:Int))&&decide (a=b))=_;congr 1
   grind
theorem aKG{C:List Nat}{k:Nat}{f:List Nat}(hf:f.length=40):bJ (bO C) (k*40) (bO f)=bO (setC C k f):=by
 simp_all [bJ,bO,setC]
theorem aAk{C:List Nat}{k n:Nat}{f:List Nat}(hC:C.length=n*40)(hk:k<n)(hf:f.length=40):(setC C k f).length=n*40:=by
 grind [setC]
theorem aAl{C:List Nat}{k:Nat}{f:List Nat}(hC:yE C)(hf:yE f):yE (setC C k f):=by
 grind [yE,setC]
theorem aEh{C:List Nat}{n p:Nat}(hC:C.length=n*40)(hp:n=p+1):(gG C p).length=40:=xX (n:=n) AT AT
theorem aRg(b:Bool):b=false∨b=true:=by grind
theorem aGv:∀ l:List Nat,iH (bO l) (bO l)=true
 | []=>rfl
 | x::l=>by
   show (cG (.int .u8 (x:Int)) (.int .u8 (x:Int))&&iH (bO l) (bO l))=true;rw[aGv l];simp[cG]
theorem aLv:runW aB 44 [.str ⟨#[]⟩] []=some (.agg (bO (newF [])),[]):=w44 ⟨#[]⟩
theorem w16{s:ByteArray}{row:Int}(hz:s.size≤1000000):runW aB 16 [.str s,I row] []=some (mnV s row,[]):=by
 rw[q16 (by simp),aVQ];unfold aYc;dsimp only;have c1:=w35 0 row 1000;have d1:nX (s.size:Int) 45=((s.size/45:Nat):Int):=aCN s.size 45;have d2:tmZ (s.size:Int) 45=((s.size%45:Nat):Int):=qH s.size 45;have d3:IntKind.i64.wrap ((s.size/45:Nat):Int)=((s.size/45:Nat):Int):=aF AT AT;cases hb:decide (0≤row)&&decide (row≤1000)with
 | false =>
   rw[hb]at c1;have hv:mnV s row=erV 2:=by unfold mnV;grind
   rw[hv];unfold erV;(exact RT4 c1 d1 d2 d3)
 | true =>
   rw[hb]at c1;rcases oC (s.size%45=0)with h0|h0
   ·have h0':=AAl h0
    have z0:(((s.size%45:Nat):Int)=0)=True:=AAa;rcases oC (s.size/45<2)with h2|h2
    ·have h2':=AAl h2
     have z2:(((s.size/45:Nat):Int)<2)=True:=AAa;have hv:mnV s row=erV 20:=by unfold mnV;grind
     rw[hv];unfold erV;generalize s.size%45=rm at *;generalize s.size/45=n at *;(exact RT7 c1 d1 d2 d3 z0 z2 aE)
    ·have h2':=AAm h2
     have z2:(((s.size/45:Nat):Int)<2)=False:=AAb;rcases oC (6<s.size/45)with h6|h6
     ·have h6':=AAl h6
      have z6:((6:Int)<((s.size/45:Nat):Int))=True:=AAa;have hv:mnV s row=erV 1:=by unfold mnV;grind
      rw[hv];unfold erV;generalize s.size%45=rm at *;generalize s.size/45=n at *;(exact RT7 c1 d1 d2 d3 z0 z2 z6)
     ·have h6':=AAm h6
      have z6:((6:Int)<((s.size/45:Nat):Int))=False:=AAb;have hv:mnV s row=wR (FnS s (s.size/45)) (s.size/45-1) (bdS s row.toNat (s.size/45)) (mdS s row.toNat (s.size/45)):=by unfold mnV;grind
      rw[hv];have hsz:s.size/45*45=s.size:=AT
      simp only[B4,AAf]at hb;obtain⟨R,hR⟩:∃ R:Nat,row=(R:Int):=⟨row.toNat,by omega⟩;have hR1:row.toNat=R:=AT
      rw[hR1];subst hR;generalize s.size%45=rm at *;generalize s.size/45=n at *;sym =>
       simp[fR,fU,lX,Za,Zb,Zf,Zh,Zl,Zm,Zp,Zr,Zv,Zy,ZA,ZD,ZR,Ye,Yh,Ym,Yn,Yp,Yq,Yx,YF,YG,YJ,Xx,Wr,Wt,WY,Va,V7,V8,VH,VL,VN,VS,VT,Uf,Ug,Uh,US,UW,UY,Tb,Tc,Td,Tf,Tg,Tl,Tv,T5,T6,T9,TA,TB,TC,TD,TK,TL,SD,SF,SI,SK,SL,SP,SV,SW,Pu,Pv,Pw,Px,c1,d1,d2,d3,z0,z2,z6]
       tactic =>
        unfold aUQ;rw[aJ n (fun i=>[.str s,I (R:Int),.nilsl,I (mdS s R i:Nat),I (n:Nat),mS i,I (bdS s R i),I (n:Nat),I (i:Nat)]) (fun i=>mG s i)]
        ·obtain⟨p,hp⟩:∃ p,n=p+1:=⟨n-1,by omega⟩
         have hnp:n-1=p:=AT
         have s0:mS n = .sl 0 0 40 n:=if_neg AT;have g0:mG s n=[aa (bO (FnS s n))]:=if_neg AT;have x0:((n:Int)<(n:Int))=False:=AAb;have wr:IntKind.i64.wrap ((n:Int)-1)=(p:Int):=by grind [aF]
         have wq:IntKind.i64.wrap ((p:Int)-1)=(p:Int)-1:=aF AT AT;have hC:=yD s n;have hB:=aLI s n;have hmd:=aJK s R n;have hbd:=aRf s R n;rw[hnp];generalize FnS s n=C at *;generalize mdS s R n=md at *;generalize bdS s R n=bad at *;have lC:=bD C;rw[hC]at lC;have gC:=bM C;have sC:=aGv C;rcases oC ((1:Int)<(md:Int))with k1|k1
         ·have hv:wR C p bad md=erV 19:=by unfold wR;grind
          rw[hv];unfold erV;(exact aNh s0 g0 x0 wr k1 lC gC dV dE dQ dW aE aE)
         ·have k1':¬1<md:=by grind
          rcases oC ((md:Int)=0)with k0|k0
          ·have k0':md=0:=by grind
           have f9:=aFQ (C:=C) (k:=p);have l9:=aEh hC hp;have l8:=fI (C:=C) (n:=p) AT p (B5 _);have cs9:=w43 (C:=C) (n:=p) AT hB AT;rw[bP]at cs9;have ce:=aFY l8 l9;have y1:((p:Int)<(n:Int))=True:=AAa;have y2:(p*40+40≤n*40)=True:=AAa;have y3:((p:Int)≤(n:Int))=True:=AAa;have y4:(0<p)=True:=AAa;have g9:=bM (gG C p);have g8:=bM (eJ C p);have m9:=bD (gG C p);rw[l9]at m9;have m8:=bD (eJ C p);rw[l8]at m8;rcases aRg (decide (eJ C p=gG C p))with hq|hq
           ·skip
            rw[hq]at ce;have hv:wR C p bad md=erV 22:=by unfold wR;grind
            rw[hv];unfold erV;(exact xF s0 g0 x0 wr wq k1 k0 lC gC sC f9 cs9 ce y1 y2 y3 y4 g9 g8 m9 m8 dV dE dQ dW aE)
           ·skip
            rw[hq]at ce;have hz9:¬(md=0∧eJ C p≠gG C p):=fun hh=>hh.2 (of_decide_eq_true hq);have c35:=w35 0 bad ((p:Int)-1);rcases aRg (decide (0≤bad)&&decide (bad≤(p:Int)-1))with hbt|hbt
            ·skip
             rw[hbt]at c35;have hfx:¬(0≤bad∧bad<p):=fun hh=>by
              grind
             have hv:wR C p bad md=aDG C p md:=by unfold wR;grind
             rw[hv];sym =>
              simp[fR,fU,lX,Za,Zb,Zd,Ze,Zf,Zh,Zi,Zl,Zm,Zn,Zp,Zq,Zv,Zy,ZA,ZB,ZH,ZM,ZW,ZY,Yb,Ye,Yh,Yi,Yj,Ym,Yn,Yo,Yy,Y7,YE,YG,YJ,YL,YM,Xk,Xl,Xx,XM,Wr,Wt,Wv,Wy,V0,V1,V2,V3,V6,V7,VA,VC,VE,VH,VJ,VK,VL,VN,VO,VS,VT,VU,VW,VX,Uc,Uf,Ug,Uh,Ui,Uk,Ul,Um,Un,UT,UW,UY,Tc,Td,Tf,Tg,Tj,Tl,Ts,Tv,Ty,Tz,T4,T5,T6,T7,T8,T9,TA,TB,TC,TD,TQ,TR,TS,Sr,Ss,Su,Sx,SD,SF,SI,SJ,SK,SL,SN,SP,SS,SV,SW,Rg,Ri,Rl,Rm,R0,RH,QB,Pu,Pv,Pw,Px,Py,s0,g0,x0,wr,wq,k1,lC,gC,sC,c35,dV,dE,dQ,dW,k0,f9,cs9,ce,y1,y2,y3,y4,g9,g8,m9,m8]
              tactic =>
               exact t16 hp hC hB AT AT rfl rfl rfl rfl
            ·skip
             rw[hbt]at c35;have hfx:0≤bad∧bad<p:=by
              grind
             have hv:wR C p bad md=aDG (aQv C p bad.toNat) p md:=by unfold wR;grind
             rw[hv];obtain⟨k,hk⟩:∃ k:Nat,bad=(k:Int):=⟨bad.toNat,by omega⟩;subst hk;have ht:((k:Int)).toNat=k:=rfl;rw[ht];unfold aQv;have j1:((k:Int)<(n:Int))=True:=AAa;have f0:=aLv;have le0:=iM [];have su:=aKG (C:=C) (k:=k) le0;have hC1:=aAk (k:=k) hC AT le0;have hB1:=aAl (k:=k) hB (pA (l:=[]) (fun i x h=>by simp at h));have m0:=bD (newF []);rw[le0]at m0;have t0:=gR le0;have gf0:=bM (newF []);generalize setC C k (newF [])=C1 at *;have lC1:=bD C1;rw[hC1]at lC1;have gC1:=bM C1;have sC1:=aGv C1;have f1:=aFQ (C:=C1) (k:=p);have lf1:=aEh hC1 hp;have cs:=w43 (C:=C1) (n:=p) AT hB1 AT;rw[bP]at cs;have ls1:=fI (C:=C1) (n:=p) AT p (B5 _);have w9:=w45 (t:=94) lf1 ls1 (aCA hB1 p) (xI p) AT;rw[bP,bP,bP]at w9;have w9:runW aB 45 [.agg (bO (gG C1 p)),.agg (bO (eJ C1 p)),I 94] []=some (.agg (bO (eH 94 (gG C1 p) (eJ C1 p))),[]):=w9;have lp:=rQ (t:=94) (l:=gG C1 p) (m:=eJ C1 p) AT;rw[lf1]at lp;have bp:=xM (t:=94) (l:=gG C1 p) (m:=eJ C1 p);have su2:=aKG (C:=C1) (k:=k) lp;have hC2:=aAk (k:=k) hC1 AT lp;have hB2:=aAl (k:=k) hB1 bp;have q1:=bD (gG C1 p);rw[lf1]at q1;have q2:=bD (eJ C1 p);rw[ls1]at q2;have q3:=bD (eH 94 (gG C1 p) (eJ C1 p));rw[lp]at q3;have g1:=bM (gG C1 p);have g2:=bM (eJ C1 p);have g3:=bM (eH 94 (gG C1 p) (eJ C1 p));have tk1:=gR lp;generalize eH 94 (gG C1 p) (eJ C1 p)=fp at *;generalize eJ C1 p=fs at *;generalize gG C1 p=fa at *;generalize setC C1 k fp=C2 at *;have kl:(k*40+40≤n*40)=True:=AAa;sym =>
              simp[fR,fU,lX,Za,Zb,Zc,Zd,Ze,Zf,Zh,Zi,Zl,Zm,Zn,Zp,Zq,Zv,Zy,ZA,ZB,ZH,ZM,ZW,ZY,ZZ,Ya,Yb,Yc,Ye,Yh,Yi,Yj,Ym,Yn,Yo,Yy,Y7,YE,YG,YJ,YL,YM,Xk,Xl,Xx,Xz,XI,XM,Wr,Wt,Wu,Wv,Wy,Vp,Vy,V0,V1,V2,V3,V6,V7,VA,VC,VE,VH,VJ,VK,VL,VN,VO,VS,VT,VU,VW,VX,Uc,Uf,Ug,Uh,Ui,Uj,Uk,Ul,Um,Un,UT,UW,UX,UY,Tc,Td,Tf,Tg,Tj,Tl,Ts,Tv,Tw,Tx,Ty,Tz,T4,T5,T6,T7,T8,T9,TA,TB,TC,TD,TQ,TR,TS,Sr,Ss,Su,Sx,Sz,S3,SD,SF,SJ,SK,SL,SN,SP,SS,SV,SW,Rg,Ri,Rl,Rm,R0,RH,Qw,QB,Pu,Pv,Pw,Px,Py,s0,g0,x0,wr,wq,k1,lC,gC,sC,c35,dV,dE,dQ,dW,k0,f9,cs9,ce,y1,y2,y3,y4,g9,g8,m9,m8,j1,f0,su,m0,t0,gf0,lC1,gC1,sC1,f1,cs,w9,su2,q1,q2,q3,g1,g2,g3,tk1,kl]
              tactic =>
               exact t16 hp hC2 hB2 AT AT rfl rfl rfl rfl
          ·have k0':¬md=0:=by grind
           have hz9:¬(md=0∧eJ C p≠gG C p):=fun hh=>k0' hh.1;have y1:((p:Int)<(n:Int))=True:=AAa;have y2:(p*40+40≤n*40)=True:=AAa;have y3:((p:Int)≤(n:Int))=True:=AAa;have y4:(0<p)=True:=AAa;have c35:=w35 0 bad ((p:Int)-1);rcases aRg (decide (0≤bad)&&decide (bad≤(p:Int)-1))with hbt|hbt
           ·skip
            rw[hbt]at c35;have hfx:¬(0≤bad∧bad<p):=fun hh=>by
             grind
            have hv:wR C p bad md=aDG C p md:=by unfold wR;grind
            rw[hv];sym =>
             simp[fR,fU,lX,Za,Zb,Zf,Zh,Zi,Zl,Zm,Zp,Zs,Zv,Zy,ZA,Ye,Yh,Ym,Yn,Yp,Y7,YE,YG,YJ,Xx,Wr,Wt,V7,VH,VL,VN,VS,VT,Uf,Ug,Uh,UT,UW,UY,Tc,Td,Tf,Tg,Tj,Tl,T6,T9,TA,TB,TC,TD,Sr,SD,SF,SI,SJ,SK,SL,SN,SP,SS,SV,SW,Pu,Pv,Pw,Px,s0,g0,x0,wr,wq,k1,lC,gC,sC,c35,dV,dE,dQ,dW,k0,y1,y2,y3,y4]
             tactic =>
              exact t16 hp hC hB AT AT rfl rfl rfl rfl
           ·skip
            rw[hbt]at c35;have hfx:0≤bad∧bad<p:=by
             grind
            have hv:wR C p bad md=aDG (aQv C p bad.toNat) p md:=by unfold wR;grind
            rw[hv];obtain⟨k,hk⟩:∃ k:Nat,bad=(k:Int):=⟨bad.toNat,by omega⟩;subst hk;have ht:((k:Int)).toNat=k:=rfl;rw[ht];unfold aQv;have j1:((k:Int)<(n:Int))=True:=AAa;have f0:=aLv;have le0:=iM [];have su:=aKG (C:=C) (k:=k) le0;have hC1:=aAk (k:=k) hC AT le0;have hB1:=aAl (k:=k) hB (pA (l:=[]) (fun i x h=>by simp at h));have m0:=bD (newF []);rw[le0]at m0;have t0:=gR le0;have gf0:=bM (newF []);generalize setC C k (newF [])=C1 at *;have lC1:=bD C1;rw[hC1]at lC1;have gC1:=bM C1;have sC1:=aGv C1;have f1:=aFQ (C:=C1) (k:=p);have lf1:=aEh hC1 hp;have cs:=w43 (C:=C1) (n:=p) AT hB1 AT;rw[bP]at cs;have ls1:=fI (C:=C1) (n:=p) AT p (B5 _);have w9:=w45 (t:=94) lf1 ls1 (aCA hB1 p) (xI p) AT;rw[bP,bP,bP]at w9;have w9:runW aB 45 [.agg (bO (gG C1 p)),.agg (bO (eJ C1 p)),I 94] []=some (.agg (bO (eH 94 (gG C1 p) (eJ C1 p))),[]):=w9;have lp:=rQ (t:=94) (l:=gG C1 p) (m:=eJ C1 p) AT;rw[lf1]at lp;have bp:=xM (t:=94) (l:=gG C1 p) (m:=eJ C1 p);have su2:=aKG (C:=C1) (k:=k) lp;have hC2:=aAk (k:=k) hC1 AT lp;have hB2:=aAl (k:=k) hB1 bp;have q1:=bD (gG C1 p);rw[lf1]at q1;have q2:=bD (eJ C1 p);rw[ls1]at q2;have q3:=bD (eH 94 (gG C1 p) (eJ C1 p));rw[lp]at q3;have g1:=bM (gG C1 p);have g2:=bM (eJ C1 p);have g3:=bM (eH 94 (gG C1 p) (eJ C1 p));have tk1:=gR lp;generalize eH 94 (gG C1 p) (eJ C1 p)=fp at *;generalize eJ C1 p=fs at *;generalize gG C1 p=fa at *;generalize setC C1 k fp=C2 at *;have kl:(k*40+40≤n*40)=True:=AAa;sym =>
             simp[fR,fU,lX,Za,Zb,Zc,Zd,Ze,Zf,Zh,Zi,Zl,Zm,Zn,Zp,Zs,Zv,Zy,ZA,ZH,ZM,ZW,ZY,ZZ,Ya,Yb,Yc,Ye,Yh,Yi,Yj,Ym,Yn,Yp,Yy,Y7,YE,YG,YJ,YL,YM,Xx,Xz,XI,XM,Wr,Wt,Wu,Wv,Wy,Vp,Vy,V0,V1,V2,V3,V6,V7,VA,VC,VE,VH,VJ,VK,VL,VN,VO,VS,VT,VU,VW,VX,Uc,Uf,Ug,Uh,Ui,Uj,Uk,Ul,Um,Un,UT,UW,UX,UY,Tc,Td,Tf,Tg,Tj,Tl,Ts,Tv,Tw,Tx,Ty,Tz,T4,T6,T7,T8,T9,TA,TB,TC,TD,TQ,TR,TS,Sr,Ss,Su,Sx,Sz,S3,SD,SF,SJ,SK,SL,SN,SP,SS,SV,SW,Rg,Ri,Rl,Rm,R0,RH,Qw,QB,Pu,Pv,Pw,Px,Py,s0,g0,x0,wr,wq,k1,lC,gC,sC,c35,dV,dE,dQ,dW,k0,y1,y2,y3,y4,j1,f0,su,m0,t0,gf0,lC1,gC1,sC1,f1,cs,w9,su2,q1,q2,q3,g1,g2,g3,tk1,kl]
             tactic =>
              exact t16 hp hC2 hB2 AT AT rfl rfl rfl rfl
        ·rfl
        ·intro i hi
         have i1:((i:Int)<(n:Int))=True:=AAa;have a2:=dU hi AT;have a3:IntKind.i64.wrap ((i:Int)*45)=((i*45:Nat):Int):=by grind [aF]
         have a4:IntKind.i64.wrap (((i:Int)+1)*45)=(((i+1)*45:Nat):Int):=by grind [aF]
         have a5:IntKind.i64.wrap ((R:Int)+(i:Int))=((R+i:Nat):Int):=by grind [aF]
         have hle:(i+1)*45≤s.size:=AT
         have a6:(((i+1)*45:Nat):Int)≤(s.size:Int):=AT
         have a6b:(((i*45:Nat):Int)≤(((i+1)*45:Nat):Int))=True:=AAa;have hx:jD s (i*45) ((i+1)*45)=rwS s i:=rfl;have c2:=w42 (s:=rwS s i) (n:=R+i) (aDj hle) AT;have hg:aFK (rwS s i) (R+i)=gdS s R i:=rfl;rw[hg]at c2;rw[bP]at c2;have lf:=aGL (rwS s i);have m1:=bD (rdF (rwS s i));rw[lf]at m1;have k5:=gR lf;have k6:=jU lf;have g5:=bM (rdF (rwS s i));have l0:(bO (nf 0)).length=40:=by rfl
         have gz:=bM (nf 0);have c8:=jV (a:=nf 0) (b:=rdF (rwS s i)) (by grind [qP]);have ap:=aNV (FnS s i) (rdF (rwS s i));have hF:FnS s i++rdF (rwS s i)=FnS s (i+1):=rfl;rw[hF]at ap;have lc:=bD (FnS s i);rw[yD]at lc;have lc1:=bD (FnS s (i+1));rw[yD]at lc1;have gc:=bM (FnS s i);have gc1:=bM (FnS s (i+1));have ml:=aJK s R i;have a7:IntKind.i64.wrap (((mdS s R i:Nat):Int)+1)=((mdS s R i+1:Nat):Int):=by grind [aF]
         have s1:mS (i+1) = .sl 0 0 40 (i+1):=if_neg AT;have g1:mG s (i+1)=[aa (bO (FnS s (i+1)))]:=if_neg AT;have z2':((i+1)*40≤1099511627776)=True:=AAa;have z3:(i+1≤1099511627776)=True:=AAa;by_cases hi0:i=0
         ·subst hi0
          have s0:mS 0 = .nilsl:=rfl;have g0:mG s 0=[]:=rfl;have b0:bdS s R 0 = -1:=rfl;have m0:mdS s R 0=0:=rfl;have F1:FnS s (0+1)=rdF (rwS s 0):=rfl;rw[s1,g1,F1];have j1:((0:Int)<(n:Int))=True:=AAa;have hx':jD s 0 45=rwS s 0:=rfl;have a8:IntKind.i64.wrap ((R:Int)+0)=(R:Int):=aF AT AT;have a9:((45:Int)≤(s.size:Int))=True:=AAa;have wz:IntKind.i64.wrap 45=45:=rfl;have tz:Int.toNat 45=45:=rfl;have j4:(0<n)=True:=AAa;rw[J0]at c2;cases hg:gdS s R 0 with
          | true =>
            rw[hg]at c2;have bb:bdS s R (0+1) = -1:=by rw[bdS,hg];rfl
            have mm:mdS s R (0+1)=0:=by rw[mdS,hg];rfl
            rw[bb,mm];generalize rdF (rwS s 0)=f at *;(exact xF s0 g0 b0 m0 wz tz j1 j4 hx' c2 a8 a9 m1 k5 k6 g5 l0 gz c8 dV dE dQ dW aE aE aE)
          | false =>
            rw[hg]at c2;have bb:bdS s R (0+1)=0:=by rw[bdS,hg];rfl
            have mm:mdS s R (0+1)=1:=by rw[mdS,hg];rfl
            rw[bb,mm];generalize rdF (rwS s 0)=f at *;(exact xF s0 g0 b0 m0 wz tz j1 j4 hx' c2 a8 a9 m1 k5 k6 g5 l0 gz c8 dV dE dQ dW aE aE aE)
         ·have s0:mS i = .sl 0 0 40 i:=if_neg hi0
          have g0:mG s i=[aa (bO (FnS s i))]:=if_neg hi0;have e45:(i+1)*45=i*45+45:=AT
          have a3':((i*45:Nat):Int).toNat=i*45:=rfl;rw[s1,g1];cases hg:gdS s R i with
          | true =>
            rw[hg]at c2;have bb:bdS s R (i+1)=bdS s R i:=by rw[bdS,hg];rfl
            have mm:mdS s R (i+1)=mdS s R i:=by rw[mdS,hg];rfl
            rw[bb,mm];generalize FnS s (i+1)=C1 at *;generalize FnS s i=C0 at *;generalize rdF (rwS s i)=f at *;(sym=>(simp[fR,fU,lX,Za,Zb,Zc,Zd,Ze,Zf,Zh,Zl,Zm,Zn,Zo,Zv,Zw,Z8,ZA,ZD,ZN,ZQ,ZV,ZZ,Ya,Ye,Yh,Yl,Ym,Yn,Yq,Y5,Y6,Y8,YG,YL,YM,Xx,Xz,XM,XW,Wh,Wr,Wt,Wu,Wv,Ww,Wy,W4,Vp,V0,V1,V2,V3,V7,V9,VA,VE,VF,VH,VJ,VK,VL,VM,VN,VO,VP,VQ,VR,VS,VT,VW,VX,Uc,Uf,Ug,Uh,UT,UU,UV,UW,UX,UY,Tc,Td,Te,Tf,Tg,Ti,Tj,Tl,Tp,Ts,Tv,Tz,T4,T5,T7,T8,T9,TA,TB,TC,TD,TN,TO,TP,TR,TS,TY,TZ,Sa,Sc,Sj,Sk,Sl,Sp,Sq,Ss,Su,Sx,Sz,S3,S6,S7,S8,S9,SD,SF,SI,SK,SL,SP,SU,SV,SW,Ro,Rp,Rq,Rr,RC,RR,Pu,Pv,Pw,Px,s0,g0,i1,a2,a3,a4,a5,a6,a6b,hx,c2,m1,k5,k6,g5,l0,gz,c8,ap,lc,lc1,gc,gc1,z2',z3,dV,dE,dQ,dW];all_goals tactic=>exact rfl))
          | false =>
            rw[hg]at c2;have bb:bdS s R (i+1)=(i:Int):=by rw[bdS,hg];rfl
            have mm:mdS s R (i+1)=mdS s R i+1:=by rw[mdS,hg];rfl
            rw[bb,mm];generalize FnS s (i+1)=C1 at *;generalize FnS s i=C0 at *;generalize rdF (rwS s i)=f at *;generalize mdS s R i=md at *;(sym=>(simp[fR,fU,lX,Za,Zb,Zc,Zd,Ze,Zf,Zh,Zl,Zm,Zn,Zo,Zv,Zw,Z8,ZA,ZD,ZN,ZQ,ZV,ZZ,Ya,Ye,Yh,Yl,Ym,Yn,Yq,Y5,Y6,Y8,YG,YL,YM,Xx,Xz,XM,XW,Wh,Wr,Wt,Wu,Wv,Ww,Wy,W4,Vp,V0,V1,V2,V3,V7,V9,VA,VE,VF,VH,VJ,VK,VL,VM,VN,VO,VP,VQ,VR,VS,VT,VW,VX,Uc,Uf,Ug,Uh,UT,UU,UV,UW,UX,Tc,Td,Te,Tf,Tg,Ti,Tj,Tl,Tp,Ts,Tw,Tz,T4,T5,T7,T8,T9,TA,TB,TC,TD,TN,TO,TP,TR,TS,TY,TZ,Sa,Sc,Sj,Sk,Sl,Sp,Sq,Ss,Su,Sx,Sz,S3,S6,S7,S8,S9,SD,SF,SI,SK,SL,SP,SU,SV,SW,Ro,Rp,Rq,Rr,RC,RR,Pu,Pv,Pw,Px,s0,g0,i1,a2,a3,a4,a5,a6,a6b,a7,hx,c2,m1,k5,k6,g5,l0,gz,c8,ap,lc,lc1,gc,gc1,z2',z3,dV,dE,dQ,dW];all_goals tactic=>exact rfl))
        ·have e0:((n:Int)<(n:Int))=False:=AAb
         (exact RT1 e0)
   ·have h0':=AAm h0
    have z0:(((s.size%45:Nat):Int)=0)=False:=AAb;have hv:mnV s row=erV 20:=by unfold mnV;grind
    rw[hv];unfold erV;generalize s.size%45=rm at *;generalize s.size/45=n at *;(exact RT5 c1 d1 d2 d3 z0)
def aXU(a b:List ByteArray)(m n:Nat):Prop:=m≤n∧(∀ i,i<m→a[i]?=b[i]?)∧(m=n∨a[m]?≠b[m]?)
theorem aGc(a b:List ByteArray):∀ n,∃ m,aXU a b m n
 | 0=>⟨0,B5 _,fun i hi=>by omega,.inl rfl⟩
 | n+1=>by
   obtain⟨m,h1,h2,h3⟩:=aGc a b n;rcases h3 with rfl|h3
   ·by_cases h:a[m]?=b[m]?
    ·exact⟨m+1,B5 _,fun i hi=>by
      grind,.inl rfl⟩
    ·exact⟨m,by omega,h2,.inr h⟩
   ·exact⟨m,by omega,h2,.inr h3⟩
theorem oN(a b:ByteArray):aN BinOp.neq a b=some (.bool (!decide (a=b))):=by
 show some (AV.bool (!(a.toList==b.toList)))=_;rw[aNZ,aNZ];congr 3;cases a with
 | mk x =>
   cases b with
   | mk y =>
     cases x with
     | mk x =>
       cases y with
       | mk y =>
         grind
theorem aSG(l:List ByteArray)(b:ByteArray):cO l++[.str b]=cO (l++[b]):=by simp[cO]
theorem aKZ(a b:List Nat):nG a++nG b=nG (a++b):=by
 grind [aXS,nG]
theorem qZ(s:ByteArray):(bN s).length=s.size:=by
 simp[bN]
end
section
open Go Go.DL
theorem aRh(a b:ByteArray):bN (a++b)=bN a++bN b:=by
 simp[bN]
theorem zZ{l:List Nat}(h:yE l):bN (nG l)=l:=by
 unfold bN nG;rw[aB6];apply I2
 grind [UInt8.toNat_ofNat',yE]
theorem aGV(s:ByteArray):nG (bN s)=s:=by
 unfold bN nG;rw[aB6];cases s with
 | mk d =>
   cases d with
   | mk l =>
     congr 2
     conv=>rhs;rw[←List.map_id l]
     apply I6;intro b _;simp
theorem aKq(s:ByteArray)(a b:Nat):bN (jD s a b)=((bN s).drop a).take (b-a):=by
 simp[bN,jD]
def rwL(b:List Nat)(i:Nat):List Nat:=(b.drop (i*45)).take 45
def fdL(r:List Nat):List Nat:=(r.drop 4).take 40
def prL(f:List Nat):Bool:=f.all fun x=>decide (32≤x)&&decide (x≤126)
def okL(n:Nat)(r:List Nat):Bool:=prL (fdL r)&&decide (r=iY n (fdL r))
theorem aVl(s:ByteArray)(i:Nat):bN (rwS s i)=rwL (bN s) i:=by
 grind [aKq,rwS,rwL]
theorem aGm:∀ l:List UInt8,vI l = !prL (l.map UInt8.toNat)
 | []=>rfl
 | x::l=>by
   have ih:=aGm l;show (decide (x.toNat<32)||(decide (126<x.toNat)||vI l)) = !((decide (32≤x.toNat)&&decide (x.toNat≤126))&&prL (l.map UInt8.toNat));rw[ih,Bool.not_and,Bool.not_and,←decide_not,←decide_not];simp only[Nat.not_le,Bool.or_assoc]
theorem aGU{l:List Nat}(h:l.length=40):newF l=l:=by
 unfold newF;rw[C4 AT,h];simp
theorem aVm{s:ByteArray}(h:s.size=45):rdF s=fdL (bN s):=by
 unfold rdF txB fdL
 grind [aKq,aGU,qZ]
theorem aDo{n:Nat}{f:List Nat}(h:yE f):yE (iY n f):=by
 intro i x hx;unfold iY at hx;have hm:=B3 hx;have hc:chk n f<9973:=aA5 _ (by decide);simp only[sI,C7,C3,G4,AAh]at hm
 grind [yE,sI]
theorem aUa{r:List Nat}(h:yE r):yE (fdL r):=by
 grind [yE,fdL]
theorem aJc(a b:ByteArray):(a.toList==b.toList)=decide (bN a=bN b):=by
 grind [aNZ,aGV,bN]
theorem aTQ{s:ByteArray}{n:Nat}(h:s.size=45):aFK s n=okL n (bN s):=by
 unfold aFK okL;have e1:bN (txB s)=fdL (bN s):=by unfold txB fdL;rw[aKq]
 have e2:(txB s).data.toList.map UInt8.toNat=fdL (bN s):=e1;rw[aGm,e2,Bool.not_not,aJc,aVm h,zZ (aDo (aUa (aEA s)))]
 grind
theorem bBs{s:ByteArray}{n i:Nat}(h:(i+1)*45≤s.size):gdS s n i=okL (n+i) (rwL (bN s) i):=by
 unfold gdS
 grind [aTQ,aDj,aVl]
theorem aLr{C D:List Nat}{n k:Nat}(hC:C.length=n*40)(hk:k<n):gG (C++D) k=gG C k:=by
 grind [gG]
theorem aID{C f:List Nat}{n:Nat}(hC:C.length=n*40)(hf:f.length=40):gG (C++f) n=f:=by
 grind [gG]
theorem aRE{s:ByteArray}:∀{n k:Nat},k<n→n*45≤s.size→gG (FnS s n) k=fdL (rwL (bN s) k)
 | 0,_,h,_=>absurd h AT
 | n+1,k,h,hs=>by
   rw[FnS];by_cases hk:k<n
   ·rw[aLr (yD s n) hk]
    exact aRE hk AT
   grind [aID,yD,aGL,aVm,aDj,aVl]
theorem aIQ{s:ByteArray}{n:Nat}:∀{k:Nat},(∀ i,i<k→gdS s n i=true)→mdS s n k=0∧bdS s n k = -1
 | 0,_=>⟨rfl,rfl⟩
 | k+1,h=>by
   obtain⟨h1,h2⟩:=aIQ (k:=k) fun i hi=>h i AT;have hk:=h k AT;rw[mdS,bdS,hk];exact⟨h1,h2⟩
def mJ(C:List Nat)(j:Nat):Nat→Nat
 | 0=>0
 | k+1=>mJ C j k+jN ((gG C k).getD j 0)
theorem aXD{y:Nat}(h:y<95):jN (32+y)=y:=by unfold jN;omega
theorem aHZ{t:Nat}:∀{f o:List Nat}{j x y:Nat},f[j]?=some x→o[j]?=some y→(eH t f o)[j]?=some (pv t x y)
 | [],_,_,_,_,h,_=>by simp at h
 | _::_,[],_,_,_,_,h=>by simp at h
 | a::f,b::o,0,x,y,h1,h2=>by
   grind [eH,pv]
 | a::f,b::o,j+1,x,y,h1,h2=>by
   simp only[G8]at h1 h2;rw[eH,G8];exact aHZ h1 h2
theorem aTR{l:List Nat}{j:Nat}(h:j<l.length):l[j]?=some (l.getD j 0):=by
 grind
theorem aJk{C:List Nat}{n j:Nat}(hC:n*40≤C.length)(hj:j<40):∀{k},k≤n→(eJ C k)[j]?=some (32+mJ C j k%95)
 | 0,_=>by
   have:eJ C 0=List.replicate 40 32:=rfl
   grind [mJ]
 | k+1,hk=>by
   have ih:=aJk hC hj (k:=k) AT;have hf:=aTR (l:=gG C k) (j:=j) (by rw[xX hC AT];exact hj);rw[eJ,aHZ ih hf];unfold pv;rw[mJ,aXD (aA5 _ (by decide))];congr 2;omega
theorem aXF(n:Nat)(f:List Nat):chk n f<9973:=aA5 _ (by decide)
theorem aWG{f:List Nat}(h:prL f=true){i x:Nat}(hx:f[i]?=some x):32≤x∧x≤126:=by
 have:=D4.1 h x (B3 hx)
 grind
theorem aTu{f:List Nat}(h:prL f=true):yE f:=fun i x hx=>by
 have:=aWG h hx;omega
theorem tI{n:Nat}{f:List Nat}(h:f.length=40):(iY n f).length=45:=by simp[iY,sI,h]
theorem aKI{n:Nat}{f:List Nat}(h:f.length=40):fdL (iY n f)=f:=by
 unfold fdL iY
 grind [sI]
theorem aPG{n:Nat}{f:List Nat}(h:f.length=40)(hp:prL f=true):okL n (iY n f)=true:=by
 grind [aKI,okL]
def pgL:Nat→List (List Nat)→List Nat
 | _,[]=>[]
 | n,f::F=>iY n f++pgL (n+1) F
theorem aTx{F:List (List Nat)}(h:∀ f∈F,f.length=40)(n:Nat):(pgL n F).length=F.length*45:=by
 induction F generalizing n with
 | nil=>rfl
 | cons f F ih =>
   grind [tI,pgL]
theorem aWM{F:List (List Nat)}(h:∀ f∈F,f.length=40){n i:Nat}{f:List Nat}(hi:F[i]?=some f):rwL (pgL n F) i=iY (n+i) f:=by
 induction F generalizing n i with
 | nil=>simp at hi
 | cons g F ih =>
   have lg:=tI (n:=n) (h g (by simp));cases i with
   | zero =>
     grind [rwL,pgL]
   | succ i =>
     simp only[G8]at hi;have:=ih (fun g hg=>h g (by simp[hg])) (n:=n+1) hi;unfold rwL at this ⊢;rw[pgL,List.drop_append,M6 AT,H7,lg,show (i+1)*45-45=i*45 by omega,this]
     grind
theorem aDE{f:List Nat}:∀{F:List (List Nat)}{n:Nat},pgL n (F++[f])=pgL n F++iY (n+F.length) f
 | [],n=>by simp[pgL]
 | g::F,n=>by
   rw[J3,pgL,aDE,pgL,aB3,D5];congr 3;omega
theorem aVF{ls:List ByteArray}{row:Nat}:∀{i},i≤ls.length→bN (Bn ls row i)=pgL row ((ls.take i).map oG)
 | 0,_=>rfl
 | i+1,h=>by
   obtain⟨s,hs⟩:=dD (l:=ls) (i:=i) AT;rw[aUN hs,aRh,aVF AT,D6,hs,M4];show _=pgL row ((ls.take i).map oG++[oG s]);rw[aDE,B7,aE9,aF6 AT];unfold rwB
   grind [zZ,aDo,aAO]
def pW(ls:List ByteArray):List (List Nat):=ls.map oG++[eJ (Cn ls ls.length) ls.length]
theorem aVE{ls:List ByteArray}{row:Nat}:bN (pgB ls row)=pgL row (pW ls):=by
 unfold pgB pW;rw[aRh,aVF (B5 _),C4 (B5 _),aDE,B7];unfold rwB
 grind [zZ,aDo,xI]
theorem aVB{s:ByteArray}(h:lnE s=0):s.size≤40∧s.size≠0∧vI s.data.toList=false∧Lib.hasSuffix s.data.toList [32]=false:=by
 grind [lnE]
theorem aTK{s:ByteArray}(h:lnE s=0):prL (bN s)=true:=by
 grind [aGm,bN,lnE]
theorem aGT{l:List Nat}(h:prL l=true):prL (newF l)=true:=by
 grind [prL,newF]
theorem aXc{s:ByteArray}(h:lnE s=0):prL (oG s)=true:=aGT (aTK h)
theorem aXR(s:ByteArray):(bN s).map UInt8.ofNat=s.data.toList:=by
 have:=aGV s
 grind [nG]
theorem aTJ{s:ByteArray}(h:lnE s=0):lnB (oG s)=s:=by
 obtain⟨h1,h2,_,h3⟩:=aVB h;have hl:s.data.toList.length=s.size:=by rfl
 unfold lnB oG newF;have e:(List.take 40 (bN s)++List.replicate (40-(bN s).length) 32).map UInt8.ofNat=s.data.toList++List.replicate (40-s.size) 32:=by
  grind [List.take_of_length_le,aXR,List.map_replicate]
 rw[e,Lib.trimRightB_take _ _ s.size (by grind)];·simp_all
 ·grind
 ·intro b hk hb hb32
  subst hb32;rw[N7 AT]at hb;have:Lib.hasSuffix s.data.toList [32]=true:=by
   unfold Lib.hasSuffix;rw[List.isSuffixOf_iff_suffix];refine⟨s.data.toList.take (s.size-1),?_⟩
   grind [List.drop_eq_getElem_cons,List.take_append_drop]
  grind
theorem aOn{C:List Nat}{n k:Nat}(hC:n*40≤C.length)(hk:k≤n):prL (eJ C k)=true:=by
 refine D4.2 fun x hx=>?_
 grind [List.getElem?_of_mem,fI,aJk]
theorem aOp{C D:List Nat}:∀{k},(∀ i,i<k→gG C i=gG D i)→eJ C k=eJ D k
 | 0,_=>rfl
 | k+1,h=>by rw[eJ,eJ,aOp fun i hi=>h i AT,h k AT]
theorem aJY{ls:List ByteArray}:∀{n i:Nat}{s:ByteArray},n≤ls.length→i<n→ls[i]?=some s→gG (Cn ls n) i=oG s
 | 0,_,_,_,h,_=>absurd h AT
 | n+1,i,s,hn,h,hs=>by
   obtain⟨u,hu⟩:=dD (l:=ls) (i:=n) AT;rw[aUL hu];by_cases hi:i<n
   ·rw[aLr (lN AT) hi]
    exact aJY AT hi hs
   ·have:i=n:=AT
    subst this;rw[hs]at hu;cases hu;exact aID (lN AT) (nQ s)
section
variable{ls:List ByteArray}{n:Nat}{s:ByteArray}
def lst(ls:List ByteArray):List Nat:=eJ (Cn ls ls.length) ls.length
theorem aTF:(lst ls).length=40:=fI (n:=ls.length) (by rw[lN (B5 _)];omega) _ (B5 _)
theorem aWZ:prL (lst ls)=true:=aOn (n:=ls.length) (by rw[lN (B5 _)];omega) (B5 _)
theorem aAV:∀ f∈pW ls,f.length=40:=by
 intro f hf;unfold pW at hf;rcases C7.1 hf with h|h;·grind [nQ]
 ·simp only[D1]at h
  rw[h];exact aTF
theorem aTY(gl:∀ l∈ls,lnE l=0):∀ f∈pW ls,prL f=true:=by
 intro f hf;unfold pW at hf;rcases C7.1 hf with h|h;·grind [aXc]
 ·simp only[D1]at h
  rw[h];exact aWZ
theorem aQs:(pW ls).length=ls.length+1:=by simp[pW]
def rwO(ls:List ByteArray)(n i:Nat):List Nat:=iY (n+i) ((pW ls).getD i [])
theorem aJW{i:Nat}(hi:i≤ls.length):(pW ls).getD i []∈pW ls:=by
 grind [pW]
theorem aQt{i:Nat}{l:ByteArray}(h:ls[i]?=some l):(pW ls).getD i []=oG l:=by grind [pW]
theorem aXt:(pW ls).getD ls.length []=lst ls:=by simp[pW,lst]
theorem aWu{i:Nat}(hi:i≤ls.length):fdL (rwO ls n i)=(pW ls).getD i []:=aKI (aAV _ (aJW hi))
theorem aWt(gl:∀ l∈ls,lnE l=0){i:Nat}(hi:i≤ls.length):okL (n+i) (rwO ls n i)=true:=aPG (aAV _ (aJW hi)) (aTY gl _ (aJW hi))
theorem aWs{i:Nat}(hi:i≤ls.length):rwL (bN (pgB ls n)) i=rwO ls n i:=by
 rw[aVE];unfold rwO
 grind [aQs,aWM,aAV]
theorem aTw:(pgB ls n).size=(ls.length+1)*45:=by
 grind [qZ,aVE,aTx,aAV,aQs]
theorem aWV(h1:1≤ls.length)(h5:ls.length≤5)(hn:n≤1000)(hz:s.size=(ls.length+1)*45) :
 mnV s (n:Int)=wR (FnS s (ls.length+1)) ls.length (bdS s n (ls.length+1)) (mdS s n (ls.length+1)):=by
 have e1:s.size%45=0:=AT
 have e2:s.size/45=ls.length+1:=AT
 have hb:(decide ((0:Int)≤(n:Int))&&decide ((n:Int)≤1000))=true:=by simp;omega
 unfold mnV
 grind
theorem bBB(hz:s.size=(ls.length+1)*45){i:Nat}(hi:i≤ls.length)(hr:rwL (bN s) i=rwO ls n i):gG (FnS s (ls.length+1)) i=(pW ls).getD i []:=by
 grind [aRE,aWu]
theorem aXb(gl:∀ l∈ls,lnE l=0){C:List Nat}(h:∀ i,i<ls.length→gG C i=(pW ls).getD i []):lns C ls.length=ls:=by
 unfold lns;apply I2;intro i;rw[C5];by_cases hi:i<ls.length
 ·obtain⟨l,hl⟩:=dD hi
  rw[List.getElem?_range hi,D2,h i hi,aQt hl,aTJ (gl l (B3 hl)),hl]
 grind
theorem aWN(gl:∀ l∈ls,lnE l=0){C:List Nat}{md:Nat}(h:∀ i,i<ls.length→gG C i=(pW ls).getD i []):aDG C ls.length md = .tup [.fs (rS ls),I (md:Nat),I 0]:=by
 unfold aDG;rw[aXb gl h];have hc:Lib.containsS ls emB=false:=by
  cases hx:Lib.containsS ls emB with
  | false=>rfl
  | true =>
    have:=(Lib.containsS_iff ls emB).1 hx;exact absurd rfl (aVB (gl _ this)).2.1
 rw[hc];rfl
theorem aOo{C:List Nat}(h:∀ i,i<ls.length→gG C i=(pW ls).getD i []):eJ C ls.length=lst ls:=by
 unfold lst;refine aOp fun i hi=>?_;obtain⟨l,hl⟩:=dD hi;rw[h i hi,aQt hl,aJY (B5 _) hi hl]
theorem aTE(gl:∀ l∈ls,lnE l=0)(h1:1≤ls.length)(h5:ls.length≤5)(hn:n≤1000)(hz:s.size=(ls.length+1)*45)(h:∀ i,i≤ls.length→rwL (bN s) i=rwO ls n i) :
 mnV s (n:Int) = .tup [.fs (rS ls),I 0,I 0]:=by
 rw[aWV h1 h5 hn hz];obtain⟨e1,e2⟩:=aIQ (s:=s) (n:=n) (k:=ls.length+1) fun i hi=>by
  grind [bBs,aWt]
 have hf:∀ i,i≤ls.length→gG (FnS s (ls.length+1)) i=(pW ls).getD i []:=fun i hi=>bBB hz hi (h i hi);unfold wR;rw[e1,e2,if_neg AT,if_neg,if_neg AT,aWN gl fun i hi=>hf i AT];·rfl
 ·rw[aOo fun i hi=>hf i AT,hf _ (B5 _),aXt]
  grind
end
section
variable{ls:List ByteArray}{n:Nat}
theorem aTD(gl:∀ l∈ls,lnE l=0)(h1:1≤ls.length)(h5:ls.length≤5)(hn:n≤1000):mnV (pgB ls n) (n:Int) = .tup [.fs (rS ls),I 0,I 0] :=
 aTE gl h1 h5 hn aTw fun i hi=>aWs hi
end
end
section
open Go Go.DL
theorem iP(a b:ByteArray):aN BinOp.eql a b=some (.bool (decide (a=b))):=by
 have:=oN a b
 simp_all [aN]
end
section
open Go Go.DL Go.ChangeShapes Go.WideShapes Go.ChangeAt Go.RowKit
theorem aDu{H:Type}{enc:TypeId×Value→H}{a:Assume}{C:Checked}{os:Os}{f:FuncId}{fn:Func}{s:ChangeSpec}{X:World→Array Value→Prop}
 (hX:∀(w w':World)(args:Array Value),w.heap=w'.heap→X w args→X w' args)
 (own:ownKnob C.prog.godebug=none) (started:os.Started) (noInit:C.prog.inits.idxOf? f=none) (hfn:C.prog.funcs[f]?=some fn)
 (witness:∃(w:World)(tape:Tape)(i:Input),w.os=os∧(w.forCall tape i).Shaped C.prog∧i.vars=[]∧Input.okWide C.prog (w.forCall tape i) .any w.heap.size f i ∧
  ((s.pre enc C.prog fn [] false (w.forCall tape i).memory i.args∧X (w.forCall tape i).memory i.args)∧sizedMet enc C.prog fn (OpenSpec.ofChange s) false (w.forCall tape i).memory i.args)∧a.holds C.prog (lone (Frame.enter C.prog f i.args .normal) [] (w.forCall tape i)))
 (contract:∀(W:World)(base:Nat)(args:Array Value)(ds gs:List (DataW H))(before:List MemPlace),
  (∀(j:Nat) t v,fn.params[j]?=some t→args[j]?=some v→Value.okWide C.prog W .any base t v) →
  DataW.Whole enc C.prog fn.params.toList s.vars false W args.toList ds gs before→X W args→W.ShapedOpen C.prog →
  Calls C.prog f args W fun e W'=>∃ v,e = .returned v∧s.post enc C.prog fn false true false false W args v W') :
 ReturnsInHanded a C os f .any (fun w args=>(s.pre enc C.prog fn [] false w args∧X w args)∧sizedMet enc C.prog fn (OpenSpec.ofChange s) false w args) (s.post enc C.prog fn false true false false):=by
 refine returnsInHanded_of_calls own started noInit witness ?_;rintro w tape i _ hsh _ ⟨_,_,_,fn',hfn',_,_,_,_,hval⟩ ⟨⟨⟨ds,gs,before,hw,_⟩,hx⟩,_⟩ _;cases hfn'.symm.trans hfn;exact(contract _ _ _ ds gs before hval (DataW.Whole.of_heap (by rfl) hw) (hX _ _ _ (by rfl) hx) hsh).mono fun e W' ⟨v,he,hp⟩=>by
  grind [ChangeSpec.post_blind]
theorem aHO{α:Type}{f:α→List AV}{r:List CT}(key:∀ row:List AV,row.length=r.length→(∀(i:Nat)(c:CT)(a:AV),r[i]?=some c→row[i]?=some a→Sh c a)→∃ x,row=f x):∀{rows:List (List AV)},(∀ row∈rows,row.length=r.length) →
 (∀ row∈rows,∀(i:Nat)(c:CT)(a:AV),r[i]?=some c→row[i]?=some a→Sh c a)→∃ l:List α,rows=l.map f
 | [],_,_=>⟨[],rfl⟩
 | a::rows,h1,h2=>by
   obtain⟨l,rfl⟩:=aHO key (rows:=rows) (fun row hr=>h1 row (by simp[hr])) (fun row hr=>h2 row (by simp[hr]));obtain⟨x,rfl⟩:=key a (h1 a (by simp)) (h2 a (by simp));exact⟨x::l,rfl⟩
theorem aYR{α:Type}{f:α→List AV}{r:List CT}(key:∀ row:List AV,row.length=r.length→(∀(i:Nat)(c:CT)(a:AV),r[i]?=some c→row[i]?=some a→Sh c a)→∃ x,row=f x){a:AV}(h:Sh (.sl r) a):∃ l:List α,a = .fs (l.map f)∧l.length≤maxLen:=by
 cases h with
 | sl _ rows h1 hn h2 =>
   obtain⟨l,rfl⟩:=aHO key h1 h2
   grind
theorem aRj{F:Nat→Prop}{w:World}:Args F w [] #[]:=⟨rfl,fun i a' v' h1 h2=>by simp at h1⟩
theorem aMX{F:Nat→Prop}{w:World}{a:AV}{v:Value}{xs:List AV}{vs:List Value}(h:Rv F w a v)(hs:Args F w xs vs.toArray):Args F w (a::xs) (v::vs).toArray:=by
 grind [Args]
theorem bBv:Flat Tryz.prog 9 [.str]:=.str Tryz.underlying9
theorem aXu:Flat Tryz.prog 22 [.sl [.str]]:=.sl Tryz.underlying22 bBv (by kernel_rfl) (by decide)
theorem aWj{a:AV}(h:Sh .str a):∃ s:ByteArray,a = .str s∧s.size≤9223372036854775807:=by
 cases h with
 | str s h=>exact⟨s,rfl,h⟩
theorem aYK:∀ row:List AV,row.length=([.str]:List CT).length→(∀(i:Nat)(c:CT)(a:AV),([.str]:List CT)[i]?=some c→row[i]?=some a→Sh c a)→∃ x:ByteArray,row=[.str x]:=by
 intro row hl h;match row,hl with
 | [a0],_ =>
   obtain⟨s,rfl,_⟩:=aWj (h 0 _ _ rfl rfl)
   grind
theorem aSE{a:AV}(h:Sh (.sl [.str]) a):∃ ls:List ByteArray,a = .fs (rS ls)∧ls.length≤9223372036854775807:=by
 obtain⟨ls,rfl,hn⟩:=aYR aYK h;exact⟨ls,rfl,hn⟩
end
section
open Go Go.DL
abbrev yW(B:List ByteArray):Option XB:=some (.blk true (.cells false (cO B)))
def lSs(i:Nat):AV:=if i=0 then .nilsl else .sl 3 0 40 i
def lGs(B ls:List ByteArray)(row i:Nat):XH:=if i=0 then [yW B,aa [.nilpt,.nilsl]] else
 [yW B,ab [.pt 1 0,.sb 2 (Bn ls row i).size],aa (dT (Bn ls row i)),aa (bO (Cn ls i))]
theorem bCf{B ls:List ByteArray}{row o:Nat}(hB:∀ i s,ls[i]?=some s→(cO B)[o+i]?=some (.str s))(h0:1≤ls.length)(h1:ls.length≤1000)(hr:row≤10000):runW aB 38 [.sl 0 o 1 ls.length,I (row:Int)] [yW B]=some (.str (Bn ls row ls.length++rwB (row+ls.length) (eJ (Cn ls ls.length) ls.length)),[yW B]):=by
 rw[qX 38 x38 rfl];unfold x38;dsimp only;have gB:=eP B;have l0:(bO (nf 0)).length=40:=by rfl
 have gz:=bM (nf 0);sym =>
  simp[Za,Zb,Zf,Zh,Zl,Zm,Zv,ZR,Yv,WY,Ve,V8,US,Tb,Te,Tf,Tj,Tl,TK,TL,SF,SK,SL,SV,SW,Pa]
  tactic =>
   rw[aVO];unfold aUO;rw[aJ ls.length (fun i=>[I (row:Int),.bp 1,lSs i,.sl 0 o 1 ls.length,I (ls.length:Nat),I (i:Nat)]) (fun i=>lGs B ls row i)]
   ·have hn0:¬ls.length=0:=AT
    have e0:((ls.length:Int)<(ls.length:Int))=False:=AAb;have s0:lSs ls.length = .sl 3 0 40 ls.length:=if_neg hn0;have g0:lGs B ls row ls.length=[yW B,ab [.pt 1 0,.sb 2 (Bn ls row ls.length).size],aa (dT (Bn ls row ls.length)),aa (bO (Cn ls ls.length))]:=if_neg hn0;have bz:=yF ls row ls.length;have lc:=lN (ls:=ls) (B5 _);have c1:=bCe (C:=Cn ls ls.length) (n:=ls.length) AT (aYb ls _) h1;have l3:=fI (C:=Cn ls ls.length) (n:=ls.length) AT ls.length (B5 _);have b3:=xI (C:=Cn ls ls.length) ls.length;have c2:=w77 (row:=row+ls.length) l3 b3 AT;have zs:=aAs (row:=row+ls.length) l3;have nr:nG (iY (row+ls.length) (eJ (Cn ls ls.length) ls.length))=rwB (row+ls.length) (eJ (Cn ls ls.length) ls.length):=rfl;rw[nr]at c2;rw[bP]at c1 c2;have c3:=aVW (s:=rwB (row+ls.length) (eJ (Cn ls ls.length) ls.length)) (a:=Bn ls row ls.length) AT AT AT;rw[zs]at c3;have sz:(Bn ls row ls.length++rwB (row+ls.length) (eJ (Cn ls ls.length) ls.length)).size=(Bn ls row ls.length).size+45:=by grind
    have c4:=w71 (a:=Bn ls row ls.length++rwB (row+ls.length) (eJ (Cn ls ls.length) ls.length)) AT AT;rw[sz]at c4;have r1:IntKind.i64.wrap ((row:Int)+(ls.length:Int))=((row+ls.length:Nat):Int):=by grind [aF]
    have m1:=bD (eJ (Cn ls ls.length) ls.length);rw[l3]at m1;have k5:=gR l3;have k6:=jU l3;have g5:=bM (eJ (Cn ls ls.length) ls.length);have gc:=bM (Cn ls ls.length);have fz:(ls.length*40≤(bO (Cn ls ls.length)).length)=True:=AAn (by rw[bD,lc];omega);have fl:=(bBF (C:=Cn ls ls.length) (n:=ls.length) AT).1;generalize Bn ls row ls.length++rwB (row+ls.length) (eJ (Cn ls ls.length) ls.length)=T at *;generalize rwB (row+ls.length) (eJ (Cn ls ls.length) ls.length)=R at *;generalize eJ (Cn ls ls.length) ls.length=f at *;generalize (Bn ls row ls.length).size=sz at *;generalize Bn ls row ls.length=B0 at *;generalize Cn ls ls.length=C0 at *;(sym=>(simp[Za,Zb,Zf,Zg,Zh,Zj,Zl,Zm,Zv,ZA,ZR,Ye,Yh,Ym,Yn,Yu,Y6,YG,Xx,Xz,XI,XL,XN,Wk,Wr,Wu,Wv,Ww,Wx,Wz,W9,WE,WI,WP,WV,WW,Va,Vd,V0,V3,V6,V7,V9,VA,VB,VC,VE,VG,VH,VJ,VK,VL,VM,VN,VO,VP,VQ,VS,VT,VU,VV,VW,VX,VY,Ub,Uc,Ud,Uf,Ug,Uh,Ui,Uo,Ur,Us,Ut,Uu,Uv,Uw,Ux,U8,U9,UA,UD,UE,UG,UH,UI,UJ,UK,UN,UO,UP,UQ,UT,UW,UY,Tc,Td,Te,Tf,Tg,Th,Ti,Tj,Tl,Tp,Ts,Tu,Tz,T3,T4,T6,T9,TA,TB,TC,TD,TE,TF,TI,TJ,Sr,SD,SF,SG,SJ,SL,SN,SS,SV,SW,R0,Qx,Qz,QA,QQ,QS,QU,QW,QX,QY,QZ,Pf,Pg,Ph,Pj,Pl,Pm,Pn,Po,Pp,Pu,Pv,Pw,Px,s0,g0,e0,fz,fl,c1,c2,c3,c4,r1,m1,k5,k6,g5,gc,zs,dV,dE,dQ,dW,eD,eM,eN,bU,bR,bT,gB];all_goals tactic=>exact rfl))
   ·rfl
   ·intro i hi
    have i1:((i:Int)<(ls.length:Int))=True:=AAa;have a2:=dU hi AT;obtain⟨s,hs⟩:=dD hi;have hx:=hB i s hs;have c1:=w44 s;rw[bP]at c1;have lf:=nQ s;have c2:=w77 (row:=row+i) lf (aAO s) AT;rw[bP]at c2;have r1:IntKind.i64.wrap ((row:Int)+(i:Int))=((row+i:Nat):Int):=by grind [aF]
    have m1:=bD (oG s);rw[lf]at m1;have k5:=gR lf;have k6:=jU lf;have g5:=bM (oG s);have c8:=jV (a:=nf 0) (b:=oG s) (by grind [qP]);have zs:=aAs (row:=row+i) lf;have nl:newF (bN s)=oG s:=rfl;have nr:nG (iY (row+i) (oG s))=rwB (row+i) (oG s):=rfl;rw[nl]at c1;rw[nr]at c2;by_cases hi0:i=0
    ·subst hi0
     have s0:lSs 0 = .nilsl:=rfl;have g0:lGs B ls row 0=[yW B,aa [.nilpt,.nilsl]]:=rfl;have cn:=aUL hs;have cn0:Cn ls 0=[]:=rfl;rw[cn0,H7]at cn;have bn:=aUN (row:=row) hs;have bn0:Bn ls row 0=⟨⟨[]⟩⟩:=rfl;rw[bn0,aUc]at bn;rw[J0]at c2 zs;have bn:Bn ls row (0+1)=rwB row (oG s):=bn;have c3:=aVX (s:=rwB row (oG s)) AT AT;rw[zs]at c3;have s1:lSs (0+1) = .sl 3 0 40 1:=rfl;have g1:lGs B ls row (0+1)=[yW B,ab [.pt 1 0,.sb 2 (Bn ls row (0+1)).size],aa (dT (Bn ls row (0+1))),aa (bO (Cn ls (0+1)))]:=rfl;rw[s1,g1,cn,bn,zs];have j1:((0:Int)<(ls.length:Int))=True:=AAa;rw[J0]at hx;have j3:IntKind.i64.wrap ((row:Int)+0)=(row:Int):=AT
     have j4:(0<ls.length)=True:=AAa;generalize hR:rwB row (oG s)=R at *;generalize oG s=f at *;(sym=>(simp[Za,Zb,Zd,Ze,Zf,Zg,Zh,Zj,Zl,Zm,Zo,Zv,Z8,ZA,ZH,ZV,Ye,Yh,Yl,Ym,Yn,Yy,Y6,YG,YO,YQ,YR,YU,Xx,Xz,XI,XM,XN,Wh,Wr,Wu,Wv,Ww,Wy,Wz,W9,WE,Va,Vp,V0,V1,V2,V3,V6,V7,V9,VA,VB,VC,VE,VF,VG,VH,VJ,VK,VL,VM,VN,VO,VP,VQ,VR,VS,VT,VU,VW,VX,VY,Ub,Uc,Ud,Uf,Ug,Uh,Ui,Ut,Uv,Uw,Ux,UT,UU,UV,UW,UX,Tc,Td,Te,Tf,Tg,Th,Ti,Tj,Tl,Tp,Ts,Tz,T3,T4,T5,T7,T8,T9,TA,TB,TC,TD,TN,TO,TP,TY,TZ,Sa,Sc,Sj,Sk,Sl,Sn,Ss,Su,Sx,Sy,S6,S8,S9,SC,SD,SF,SI,SK,SL,SP,SU,SV,SW,RC,RR,Qx,QQ,QS,QU,QW,QX,QY,QZ,Pf,Ph,Pl,Pm,Pn,Pp,Pu,Pv,Pw,Px,s0,g0,j1,j3,j4,hx,c1,c2,c3,m1,k5,k6,g5,c8,zs,l0,gz,dV,dE,dQ,dW,eD,eM,eN,bU,bR,bT,gB];all_goals tactic=>exact rfl))
    ·have s0:lSs i = .sl 3 0 40 i:=if_neg hi0
     have g0:lGs B ls row i=[yW B,ab [.pt 1 0,.sb 2 (Bn ls row i).size],aa (dT (Bn ls row i)),aa (bO (Cn ls i))]:=if_neg hi0;have s1:lSs (i+1) = .sl 3 0 40 (i+1):=if_neg AT;have g1:lGs B ls row (i+1)=[yW B,ab [.pt 1 0,.sb 2 (Bn ls row (i+1)).size],aa (dT (Bn ls row (i+1))),aa (bO (Cn ls (i+1)))]:=if_neg AT;have bn:=aUN (row:=row) hs;have bz:=yF ls row i;have bs1:(Bn ls row (i+1)).size=(Bn ls row i).size+45:=by grind
     have ap:=aNV (Cn ls i) (oG s);rw[←aUL hs]at ap;have ca:=bBR hs;have lc:=bD (Cn ls i);rw[lN AT]at lc;have lc1:=bD (Cn ls (i+1));rw[lN AT]at lc1;have gc:=bM (Cn ls i);have gc1:=bM (Cn ls (i+1));have c3:=aVW (s:=rwB (row+i) (oG s)) (a:=Bn ls row i) AT AT AT;rw[zs,←bn]at c3;rw[s1,g1,bs1];have z2:((i+1)*40≤1099511627776)=True:=AAa;have z3:(i+1≤1099511627776)=True:=AAa;have z4:((i:Int)<((i+1:Nat):Int))=True:=AAa;have z5:(i*40+40≤(i+1)*40)=True:=AAa;generalize (Bn ls row i).size=sz at *;generalize Bn ls row (i+1)=B1 at *;generalize Bn ls row i=B0 at *;generalize Cn ls (i+1)=C1 at *;generalize Cn ls i=C0 at *;generalize rwB (row+i) (oG s)=R at *;generalize oG s=f at *;(sym=>(simp[Za,Zb,Zd,Ze,Zf,Zg,Zh,Zj,Zl,Zm,Zo,Zv,Z8,ZA,ZH,ZV,Ye,Yh,Yl,Ym,Yn,Yy,Y6,YG,YL,YM,Xx,Xz,XI,XM,XN,Wh,Wr,Wu,Wv,Ww,Wy,Wz,W9,WE,Va,Vp,V0,V1,V2,V3,V6,V7,V9,VA,VB,VC,VE,VF,VG,VH,VJ,VK,VL,VM,VN,VO,VP,VQ,VR,VS,VT,VU,VV,VW,VX,VY,Ub,Uc,Ud,Uf,Ug,Uh,Ui,Ut,Uv,Uw,Ux,UT,UU,UV,UW,UX,Tc,Td,Te,Tf,Tg,Th,Ti,Tj,Tl,Tp,Ts,Tz,T3,T4,T5,T7,T8,T9,TA,TB,TC,TD,TN,TO,TP,TY,TZ,Sa,Sc,Sj,Sk,Sl,Sp,Sq,Ss,Su,Sx,Sy,S6,S7,S8,S9,SD,SF,SI,SK,SL,SP,SU,SV,SW,Rz,R0,RR,Qx,QQ,QS,QU,QW,QX,QY,QZ,Pf,Ph,Pl,Pm,Pn,Pp,Pu,Pv,Pw,Px,s0,g0,i1,a2,hx,c1,c2,c3,r1,m1,k5,k6,g5,c8,zs,l0,gz,ap,ca,lc,lc1,gc,gc1,z2,z3,z4,z5,dV,dE,dQ,dW,eD,eM,eN,bU,bR,bT,gB];all_goals tactic=>exact rfl))
   ·have e0:((ls.length:Int)<(ls.length:Int))=False:=AAb
    (exact cK e0)
end
section
open Go Go.DL
section
variable{ls:List ByteArray}{n:Nat}
end
end
section
open Go Go.DL
theorem q78{vs:List AV}{h:XH}(hl:vs.length≤9):runW aB 78 vs h=gN none x78.res x78.ownR h.length (execW aB 78 h.length none x78.body (aT (if x78.ownA then vs else kQ vs)) h):=cX rfl hl h rfl
theorem q79{vs:List AV}{h:XH}(hl:vs.length≤49):runW aB 79 vs h=gN none x79.res x79.ownR h.length (execW aB 79 h.length none x79.body (aT (if x79.ownA then vs else kQ vs)) h):=cX rfl hl h rfl
theorem lH(p:Nat→Bool):∀ n,∃ m,m≤n∧(∀ i,i<m→p i=true)∧(m=n∨(m<n∧p m=false))
 | 0=>⟨0,B5 _,fun i hi=>absurd hi AT,.inl rfl⟩
 | n+1=>by
   obtain⟨m,h1,h2,h3⟩:=lH p n
   grind
theorem aGb{s:ByteArray}{i:Nat}(h:i<s.size):∃ x,(bN s)[i]?=some x∧x<256∧((s.data.toList.getD i 0).toNat:Int)=(x:Int):=by
 have hl:i<s.data.toList.length:=by simp_all
 grind [UInt8.toNat_lt,bN]
def okB(x:Nat):Bool:=decide (32≤x)&&decide (x≤126)
def zI(i x:Nat):Bool:=(decide (97≤x)&&decide (x≤122))||(decide (i≠0)&&(decide (48≤x)&&decide (x≤57)))
def aU(s:ByteArray):Bool:=decide (1≤s.size)&&(decide (s.size≤10)&&(List.range s.size).all fun i=>zI i ((bN s).getD i 0))
theorem aVz{s:ByteArray}{m:Nat}(h1:m≤s.size)(h2:∀ i,i<m→zI i ((bN s).getD i 0)=true)(h3:m=s.size∨(m<s.size∧zI m ((bN s).getD m 0)=false)):((List.range s.size).all fun i=>zI i ((bN s).getD i 0))=decide (m=s.size):=by
 grind
theorem aSF{s:ByteArray}{i x:Nat}(h:i<s.size)(hx:((s.data.toList.getD i 0).toNat:Int)=(x:Int)):(dT s)[i]?=some (.int .u8 (x:Int)):=by
 simp_all [dT]
theorem w85{s:ByteArray}(hs:s.size≤1000000):runW aB 85 [.str s] []=some (.bool (aU s),[]):=by
 rw[qX 85 x85 rfl];unfold x85;dsimp only;have bl:=qZ s;obtain⟨m,m1,m2,m3⟩:=lH (fun i=>zI i ((bN s).getD i 0)) s.size;have hp:=aVz m1 m2 m3;have e0:((s.size:Int)<(s.size:Int))=False:=AAb;have at0:∀ i,i<s.size→∃ x,(bN s).getD i 0=x∧x<256∧(dT s)[i]?=some (.int .u8 (x:Int)):=fun i hi=>by
  grind [aGb,aSF]
 have bad:m<s.size→zI m ((bN s).getD m 0)=false:=fun h=>m3.elim (fun e=>by omega) fun h=>h.2;have lc:=aCP s;have gr:=fF s;have raw:=aOe s;have hv:aU s=(decide (1≤s.size)&&(decide (s.size≤10)&&decide (m=s.size))):=by unfold aU;rw[hp]
 rw[hv];sym =>
  simp[Za,Zb,Zf,Zh,Zl,Zm,Zo,Zv,ZR,ZU,Yv,Va,V8,US,Tb,Tf,Tl,TK,TL,S6,SF,SK,SL,SV,SW,Rs,Rt,raw]
  tactic =>
   unfold aUT;rw[aJ m (fun i=>[.str s,.sl 0 0 1 s.size,I (s.size:Nat),I (i:Nat)]) (fun _=>[aa (dT s)])]
   ·by_cases hm:m=s.size
    ·rw[AAj hm,hm]
     by_cases z:s.size=0
     ·have d1:decide (1≤s.size)=false:=AAk AT
      have z1:((0:Int)<(s.size:Int))=False:=AAb;rw[d1];(exact vB e0 z1 lc gr)
     ·have d1:decide (1≤s.size)=true:=AAj AT
      have z1:((0:Int)<(s.size:Int))=True:=AAa;rw[d1];by_cases z2:s.size≤10
      ·have d2:decide (s.size≤10)=true:=AAj z2
       have z3:((s.size:Int)≤10)=True:=AAa;rw[d2];(exact uJ e0 z1 z3 lc gr)
      ·have d2:decide (s.size≤10)=false:=AAk z2
       have z3:((s.size:Int)≤10)=False:=AAb;rw[d2];(exact uJ e0 z1 z3 lc gr)
    ·rw[AAk hm,aG0,aG0]
     have hm':m<s.size:=AT
     obtain⟨x,x1,x2,x3⟩:=at0 m hm';have hb:=bad hm';rw[x1]at hb;have i1:((m:Int)<(s.size:Int))=True:=AAa;have i2:(m<s.size)=True:=AAn hm';rcases oC ((x:Int)<97)with tA|tA<;>rcases oC ((122:Int)<(x:Int))with tB|tB<;>rcases oC ((m:Int)=0)with tC|tC<;>rcases oC ((x:Int)<48)with tD|tD<;>rcases oC ((57:Int)<(x:Int))with tE|tE<;>first|(exfalso;revert hb;simp[zI]at *<;>omega)|(exact jE i1 i2 x3 lc gr tA tB tC tD tE)
   ·rfl
   ·intro i hi
    have hi':i<s.size:=AT
    obtain⟨x,x1,x2,x3⟩:=at0 i hi';have hb:=m2 i hi;rw[x1]at hb;have i1:((i:Int)<(s.size:Int))=True:=AAa;have i2:(i<s.size)=True:=AAn hi';have a2:=dU (n:=s.size) (i:=i) AT AT;have n0:=eD s;rcases oC ((x:Int)<97)with tA|tA<;>rcases oC ((122:Int)<(x:Int))with tB|tB<;>rcases oC ((i:Int)=0)with tC|tC<;>rcases oC ((x:Int)<48)with tD|tD<;>rcases oC ((57:Int)<(x:Int))with tE|tE<;>first|(exfalso;revert hb;simp[zI]at *<;>omega)|(exact gF i1 i2 a2 x3 lc gr n0 tA tB tC tD tE aE)
   ·by_cases hm:m=s.size
    ·rw[hm]
     (exact cK e0)
    ·have hm':m<s.size:=AT
     obtain⟨x,x1,x2,x3⟩:=at0 m hm';have hb:=bad hm';rw[x1]at hb;have i1:((m:Int)<(s.size:Int))=True:=AAa;have i2:(m<s.size)=True:=AAn hm';rcases oC ((x:Int)<97)with tA|tA<;>rcases oC ((122:Int)<(x:Int))with tB|tB<;>rcases oC ((m:Int)=0)with tC|tC<;>rcases oC ((x:Int)<48)with tD|tD<;>rcases oC ((57:Int)<(x:Int))with tE|tE<;>first|(exfalso;revert hb;simp[zI]at *<;>omega)|(exact jE i1 i2 x3 lc gr tA tB tC tD tE)
theorem bCO{s:ByteArray}(hs:s.size≤1000000):runW aB 103 [.str s] []=some (.bool (aU s),[]):=by
 rw[qX 103 aSr rfl];unfold aSr;dsimp only;have bl:=qZ s;obtain⟨m,m1,m2,m3⟩:=lH (fun i=>zI i ((bN s).getD i 0)) s.size;have hp:=aVz m1 m2 m3;have e0:((s.size:Int)<(s.size:Int))=False:=AAb;have at0:∀ i,i<s.size→∃ x,(bN s).getD i 0=x∧x<256∧((s.data.toList.getD i 0).toNat:Int)=(x:Int):=fun i hi=>by
  grind [aGb]
 have bad:m<s.size→zI m ((bN s).getD m 0)=false:=fun h=>m3.elim (fun e=>by omega) fun h=>h.2;have hv:aU s=(decide (1≤s.size)&&(decide (s.size≤10)&&decide (m=s.size))):=by unfold aU;rw[hp]
 rw[hv];by_cases z:s.size=0
 ·have d1:decide (1≤s.size)=false:=AAk AT
  have z1:((s.size:Int)=0)=True:=AAa;rw[d1];(exact cK z1)
 ·have d1:decide (1≤s.size)=true:=AAj AT
  have z1:((s.size:Int)=0)=False:=AAb;rw[d1];by_cases z2:s.size≤10
  ·have d2:decide (s.size≤10)=true:=AAj z2
   have z3:((10:Int)<(s.size:Int))=False:=AAb;rw[d2,M7,M7];sym =>
    simp[Za,Zb,Zf,Zh,Zl,Zm,Zp,Zr,Zv,Zy,ZA,ZR,Yp,Yx,YE,YJ,Va,V8,US,UW,UY,Tb,Tl,T6,TK,TL,SD,SF,SI,SK,SL,SV,SW,z1,z3]
    tactic =>
     unfold aNB;rw[aJ m (fun i=>[.str s,I (i:Nat)]) (fun _=>[])]
     ·by_cases hm:m=s.size
      ·rw[AAj hm,hm]
       (exact cK e0)
      ·rw[AAk hm]
       have hm':m<s.size:=AT
       obtain⟨x,x1,x2,x3⟩:=at0 m hm';have hb:=bad hm';rw[x1]at hb;have i1:((m:Int)<(s.size:Int))=True:=AAa;rcases oC ((97:Int)≤(x:Int))with tA|tA<;>rcases oC ((x:Int)≤122)with tB|tB<;>rcases oC ((m:Int)=0)with tC|tC<;>rcases oC ((48:Int)≤(x:Int))with tD|tD<;>rcases oC ((x:Int)≤57)with tE|tE<;>first|(exfalso;revert hb;simp[zI]at *<;>omega)|(exact mK i1 x3 tA tB tC tD tE)
     ·rfl
     ·intro i hi
      have hi':i<s.size:=AT
      obtain⟨x,x1,x2,x3⟩:=at0 i hi';have hb:=m2 i hi;rw[x1]at hb;have i1:((i:Int)<(s.size:Int))=True:=AAa;have a2:=dU (n:=s.size) (i:=i) AT AT;rcases oC ((97:Int)≤(x:Int))with tA|tA<;>rcases oC ((x:Int)≤122)with tB|tB<;>rcases oC ((i:Int)=0)with tC|tC<;>rcases oC ((48:Int)≤(x:Int))with tD|tD<;>rcases oC ((x:Int)≤57)with tE|tE<;>first|(exfalso;revert hb;simp[zI]at *<;>omega)|(exact vA i1 a2 x3 tA tB tC tD tE aE)
     ·by_cases hm:m=s.size
      ·rw[hm]
       (exact cK e0)
      ·have hm':m<s.size:=AT
       obtain⟨x,x1,x2,x3⟩:=at0 m hm';have hb:=bad hm';rw[x1]at hb;have i1:((m:Int)<(s.size:Int))=True:=AAa;rcases oC ((97:Int)≤(x:Int))with tA|tA<;>rcases oC ((x:Int)≤122)with tB|tB<;>rcases oC ((m:Int)=0)with tC|tC<;>rcases oC ((48:Int)≤(x:Int))with tD|tD<;>rcases oC ((x:Int)≤57)with tE|tE<;>first|(exfalso;revert hb;simp[zI]at *<;>omega)|(exact mK i1 x3 tA tB tC tD tE)
  ·have d2:decide (s.size≤10)=false:=AAk z2
   have z3:((10:Int)<(s.size:Int))=True:=AAa;rw[d2];(exact pY z1 z3)
theorem yH(n:Int):runW aB 58 [.bool true,I n] []=some (.tup [],[]):=by
 rw[qX 58 x58 rfl];unfold x58;dsimp only;(exact yC)
theorem c58(n:Int)(h:XH):CalP Tryz.prog aB 58 [.bool false,I n] h (.ifc 110 (.agg [I n])) h:=fun B Y r H as' _ sh hA=>bCX progX_ok.mixed .i64 n sh hA
def ent(ks:List ByteArray)(es:List Nat):List (AV×AV):=List.zipWith (fun k e=>(AV.str k,AV.pt e 0)) ks es
def bK:List ByteArray→ByteArray→Option Nat
 | [],_=>none
 | k::r,x=>if k=x then some 0 else (bK r x).map (· + 1)
theorem cZ{x:ByteArray}:∀{ks:List ByteArray}{i:Nat},bK ks x=some i→ks[i]?=some x
 | [],_,h=>by cases h
 | k::r,i,h=>by
   unfold bK at h;split at h;·rename_i hk;cases h;rw[hk];rfl
   ·rw[B2]at h
    obtain⟨j,hj,rfl⟩:=h;rw[G8];exact cZ hj
theorem kC{x:ByteArray}:∀{ks:List ByteArray},bK ks x=none↔x∉ks
 | []=>by simp[bK]
 | k::r=>by
   unfold bK;split;·grind
   ·rename_i hk
    rw[O9,kC,C3,not_or]
    grind
theorem xQ{x:ByteArray}{ks:List ByteArray}(h:x∈ks):∃ i,bK ks x=some i:=by
 cases hn:bK ks x with
 | none=>grind [kC]
 | some i=>grind
theorem aHn(a b:ByteArray):(a==b)=decide (a=b):=by
 by_cases h:a=b;·grind [yA]
 ·rw[AAk h];exact aE3.2 fun e=>h ((yA a b).1 e)
theorem pH{x:ByteArray}:∀{ks:List ByteArray}{es:List Nat},ks.length=es.length→aQ true (.str x) (ent ks es)=some (((bK ks x).bind fun i=>es[i]?).map fun e=>.pt e 0)
 | [],[],_=>rfl
 | k::ks,e::es,h=>by
   have ih:=pH (x:=x) (ks:=ks) (es:=es) (by grind);show (match iD true (.str x) (.str k)with
    | some true=>some (some (AV.pt e 0))
    | some false=>aQ true (.str x) (ent ks es)
    | none=>none)=_
   have hk:iD true (.str x) (.str k)=some (decide (x=k)):=AAs some (aHn x k);rw[hk];unfold bK;by_cases hx:x=k;·grind
   ·rw[AAk hx,if_neg (fun e=>hx e.symm),ih]
    cases bK ks x<;>rfl
theorem aAA{x:ByteArray}{v:AV}:∀{ks:List ByteArray}{es:List Nat},ks.length=es.length→bK ks x=none→jY true (.str x) v (ent ks es)=some (ent ks es++[(.str x,v)])
 | [],[],_,_=>rfl
 | k::ks,e::es,h,hn=>by
   have hx:¬x=k:=fun e=>(kC.1 hn) (by simp[e]);have hn2:bK ks x=none:=kC.2 fun hm=>(kC.1 hn) (by simp[hm]);have ih:=aAA (x:=x) (v:=v) (ks:=ks) (es:=es) (by grind) hn2;show (match iD true (.str x) (.str k)with
    | some true=>some ((AV.str k,v)::ent ks es)
    | some false=>(jY true (.str x) v (ent ks es)).map ((AV.str k,AV.pt e 0) :: ·)
    | none=>none)=_
   have hk:iD true (.str x) (.str k)=some (decide (x=k)):=AAs some (aHn x k);rw[hk,AAk hx,ih];rfl
theorem wQ{ks:List ByteArray}{es:List Nat}(h:ks.length=es.length)(x:ByteArray)(e:Nat):ent (ks++[x]) (es++[e])=ent ks es++[(.str x,.pt e 0)]:=by
 unfold ent;rw[List.zipWith_append h];rfl
def iG(b n:Nat):AV:=if n=0 then .nilsl else .sl b 0 1 n
theorem w95{h:XH}{o m e:Nat}{g g2:Bool}{a b:AV}{es:List (AV×AV)}{x:ByteArray}(ho:hat h o=some (.blk g (.cells true [a,.mp m,b])))(hm:hat h m=some (.blk g2 (.map true es)))(hf:aQ true (.str x) es=some (some (.pt e 0))) :
 runW aB 95 [.pt o 0,.str x] h=some (.pt e 0,h):=by
 rw[qY 95 x95 rfl];unfold x95;dsimp only;have c:=yH 5;(exact vB ho hm hf c)
theorem c95{h:XH}{o m:Nat}{g g2:Bool}{a b:AV}{es:List (AV×AV)}{x:ByteArray}(ho:hat h o=some (.blk g (.cells true [a,.mp m,b])))(hm:hat h m=some (.blk g2 (.map true es)))(hf:aQ true (.str x) es=some none) :
 CalP Tryz.prog aB 95 [.pt o 0,.str x] h (.ifc 110 (.agg [I 5])) h:=by
 refine CalP.of (d:=x95) (e':=bB [] []) aA rfl (by simp[x95]) rfl ?_;unfold x95;dsimp only;refine PanX.seqR (K:=95) aA rfl [0,1] (vs:=[.pt o 0,.str x]) (h1:=h) (by (exact yC)) ?_;refine PanX.seqR (K:=95) aA rfl [5] (vs:=[.nilpt]) (h1:=h) (by (exact yK ho hm hf)) ?_;refine PanX.seqL ?_;exact PanX.reg (p:=[⟨0,some 12,.mv (.t 5),none⟩,⟨0,some 13,.eqn 3 true (.t 12) (.c .nilpt),none⟩]) (post:=[]) aA [] (g:=58) (first:=[]) (cap:=[]) (args:=[.bool false,I 5]) (vs:=[]) (h1:=h) rfl rfl (by rfl) (c58 5 h)
theorem w96{h:XH}{o m e:Nat}{g g2:Bool}{a b:AV}{es:List (AV×AV)}{x:ByteArray}(ho:hat h o=some (.blk g (.cells true [a,.mp m,b])))(hm:hat h m=some (.blk g2 (.map true es)))(hf:aQ true (.str x) es=some (some (.pt e 0))) :
 runW aB 96 [.pt o 0,.str x] h=some (.pt e 0,h):=by
 rw[qY 96 x96 rfl];unfold x96;dsimp only;have c:=yH 5;(exact vB ho hm hf c)
theorem c96{h:XH}{o m:Nat}{g g2:Bool}{a b:AV}{es:List (AV×AV)}{x:ByteArray}(ho:hat h o=some (.blk g (.cells true [a,.mp m,b])))(hm:hat h m=some (.blk g2 (.map true es)))(hf:aQ true (.str x) es=some none) :
 CalP Tryz.prog aB 96 [.pt o 0,.str x] h (.ifc 110 (.agg [I 5])) h:=by
 refine CalP.of (d:=x96) (e':=bB [] []) aA rfl (by simp[x96]) rfl ?_;unfold x96;dsimp only;refine PanX.seqR (K:=96) aA rfl [0,1] (vs:=[.pt o 0,.str x]) (h1:=h) (by (exact yC)) ?_;refine PanX.seqR (K:=96) aA rfl [5] (vs:=[.nilpt]) (h1:=h) (by (exact yK ho hm hf)) ?_;refine PanX.seqL ?_;exact PanX.reg (p:=[⟨0,some 12,.mv (.t 5),none⟩,⟨0,some 13,.eqn 3 true (.t 12) (.c .nilpt),none⟩]) (post:=[]) aA [] (g:=58) (first:=[]) (cap:=[]) (args:=[.bool false,I 5]) (vs:=[]) (h1:=h) rfl rfl (by rfl) (c58 5 h)
theorem w97{h:XH}{o m e:Nat}{g g2:Bool}{a b:AV}{es:List (AV×AV)}{x:ByteArray}(ho:hat h o=some (.blk g (.cells true [a,.mp m,b])))(hm:hat h m=some (.blk g2 (.map true es)))(hf:aQ true (.str x) es=some (some (.pt e 0))) :
 runW aB 97 [.pt o 0,.str x] h=some (.pt e 0,h):=by
 rw[qY 97 x97 rfl];unfold x97;dsimp only;have c:=yH 5;(exact vB ho hm hf c)
theorem c97{h:XH}{o m:Nat}{g g2:Bool}{a b:AV}{es:List (AV×AV)}{x:ByteArray}(ho:hat h o=some (.blk g (.cells true [a,.mp m,b])))(hm:hat h m=some (.blk g2 (.map true es)))(hf:aQ true (.str x) es=some none) :
 CalP Tryz.prog aB 97 [.pt o 0,.str x] h (.ifc 110 (.agg [I 5])) h:=by
 refine CalP.of (d:=x97) (e':=bB [] []) aA rfl (by simp[x97]) rfl ?_;unfold x97;dsimp only;refine PanX.seqR (K:=97) aA rfl [0,1] (vs:=[.pt o 0,.str x]) (h1:=h) (by (exact yC)) ?_;refine PanX.seqR (K:=97) aA rfl [5] (vs:=[.nilpt]) (h1:=h) (by (exact yK ho hm hf)) ?_;refine PanX.seqL ?_;exact PanX.reg (p:=[⟨0,some 12,.mv (.t 5),none⟩,⟨0,some 13,.eqn 3 true (.t 12) (.c .nilpt),none⟩]) (post:=[]) aA [] (g:=58) (first:=[]) (cap:=[]) (args:=[.bool false,I 5]) (vs:=[]) (h1:=h) rfl rfl (by rfl) (c58 5 h)
def uY(h:XH)(o m:Nat)(t:AV)(x:ByteArray)(es:List (AV×AV))(z:List AV):XH :=
 (h.set o (ab [.sl (h.length+1) 0 1 1,.mp m,t])).set m (some (.blk false (.map true (es++[(.str x,.pt (h.length+2) 0)]))))++[aa [.str x],aa [.str x],aa z]
def uZ(h:XH)(o m b:Nat)(t:AV)(x:ByteArray)(cs:List AV)(g3:Bool)(es:List (AV×AV))(z:List AV):XH :=
 ((h.set b none).set o (ab [.sl (h.length+1) 0 1 (cs.length+1),.mp m,t])).set m (some (.blk false (.map true (es++[(.str x,.pt (h.length+2) 0)]))))++[aa [.str x],some (.blk g3 (.cells true (cs++[.str x]))),aa z]
theorem bCa{h:XH}{o m e:Nat}{g g2:Bool}{a b:AV}{es:List (AV×AV)}{x:ByteArray}(ho:hat h o=some (.blk g (.cells true [a,.mp m,b])))(hm:hat h m=some (.blk g2 (.map true es)))(hf:aQ true (.str x) es=some (some (.pt e 0))) :
 runW aB 87 [.pt o 0,.str x] h=some (.bool false,h):=by
 rw[qY 87 x87 rfl];unfold x87;dsimp only;(exact yK ho hm hf)
theorem bBZ{h:XH}{o m:Nat}{g g2:Bool}{t:Int}{es:List (AV×AV)}{x:ByteArray}(ho:hat h o=some (.blk g (.cells true [.nilsl,.mp m,I t])))(hm:hat h m=some (.blk g2 (.map true es)))(hf:aQ true (.str x) es=some none)(ht:((0:Int)=t)=False) :
 runW aB 87 [.pt o 0,.str x] h=some (.bool false,h):=by
 rw[qY 87 x87 rfl];unfold x87;dsimp only;(exact vB ho hm hf ht)
theorem aYk{h:XH}{o m b n:Nat}{g g2:Bool}{t:Int}{es:List (AV×AV)}{x:ByteArray}{w:Bool}(ho:hat h o=some (.blk g (.cells true [.sl b 0 1 n,.mp m,I t])))(hm:hat h m=some (.blk g2 (.map true es)))(hf:aQ true (.str x) es=some none)(ht:((n:Int)=t)=if w then True else False) :
 runW aB 87 [.pt o 0,.str x] h=some (.bool w,h):=by
 rw[qY 87 x87 rfl];unfold x87;dsimp only;cases w<;>(exact vB ho hm hf ht)
theorem bBX{h:XH}{o m n:Nat}{g g2:Bool}{t:AV}{es:List (AV×AV)}{x:ByteArray}(hn:h.length=n)(on:(o<n)=True)(mn:(m<n)=True)(om:(o=m)=False)(mo:(m=o)=False)
 (ho:hat h o=some (.blk g (.cells true [.nilsl,.mp m,t]))) (hm:hat h m=some (.blk g2 (.map true es))) (hf:aQ true (.str x) es=some none) (hp:jY true (.str x) (.pt (n+2) 0) es=some (es++[(.str x,.pt (n+2) 0)])) (hf2:aQ true (.str x) (es++[(.str x,.pt (n+2) 0)])=some (some (.pt (n+2) 0))) :
 runW aB 89 [.pt o 0,.str x] h=some (.tup [.pt (n+2) 0,.bool true],uY h o m t x es [I 0]):=by
 rw[qY 89 x89 rfl];unfold x89 uY;dsimp only;(exact jE ho hm hf hn on mn om mo hp hf2)
theorem bBY{h:XH}{o m n b z:Nat}{g g2 g3:Bool}{t:AV}{cs:List AV}{es:List (AV×AV)}{x:ByteArray}(hn:h.length=n)(on:(o<n)=True)(mn:(m<n)=True)(bn:(b<n)=True)(om:(o=m)=False)(mo:(m=o)=False)(ob:(o=b)=False)(bo:(b=o)=False)(bm:(b=m)=False)(mb:(m=b)=False)
 (ho:hat h o=some (.blk g (.cells true [.sl b 0 1 z,.mp m,t]))) (hb:hat h b=some (.blk g3 (.cells true cs))) (hz:cs.length=z) (hz1:((z+1)*16≤1099511627776)=True) (hz2:(z+1≤1099511627776)=True) (hm:hat h m=some (.blk g2 (.map true es))) (hf:aQ true (.str x) es=some none) (hp:jY true (.str x) (.pt (n+2) 0) es=some (es++[(.str x,.pt (n+2) 0)])) (hf2:aQ true (.str x) (es++[(.str x,.pt (n+2) 0)])=some (some (.pt (n+2) 0))) :
 runW aB 89 [.pt o 0,.str x] h=some (.tup [.pt (n+2) 0,.bool true],uZ h o m b t x cs g3 es [I 0]):=by
 rw[qY 89 x89 rfl];unfold x89 uZ;dsimp only;(exact fN ho hm hf hn on mn om mo hp hf2 bn ob bo bm mb hb hz hz1 hz2 aE)
theorem aYz{h:XH}{o m e:Nat}{g g2:Bool}{a b:AV}{es:List (AV×AV)}{x:ByteArray}(ho:hat h o=some (.blk g (.cells true [a,.mp m,b])))(hm:hat h m=some (.blk g2 (.map true es)))(hf:aQ true (.str x) es=some (some (.pt e 0))) :
 runW aB 131 [.pt o 0,.str x] h=some (.bool false,h):=by
 rw[qY 131 aHw rfl];unfold aHw;dsimp only;(exact yK ho hm hf)
theorem aYy{h:XH}{o m:Nat}{g g2:Bool}{t:Int}{es:List (AV×AV)}{x:ByteArray}(ho:hat h o=some (.blk g (.cells true [.nilsl,.mp m,I t])))(hm:hat h m=some (.blk g2 (.map true es)))(hf:aQ true (.str x) es=some none)(ht:((0:Int)=t)=False) :
 runW aB 131 [.pt o 0,.str x] h=some (.bool false,h):=by
 rw[qY 131 aHw rfl];unfold aHw;dsimp only;(exact vB ho hm hf ht)
theorem aVh{h:XH}{o m b n:Nat}{g g2:Bool}{t:Int}{es:List (AV×AV)}{x:ByteArray}{w:Bool}(ho:hat h o=some (.blk g (.cells true [.sl b 0 1 n,.mp m,I t])))(hm:hat h m=some (.blk g2 (.map true es)))(hf:aQ true (.str x) es=some none)(ht:((n:Int)=t)=if w then True else False) :
 runW aB 131 [.pt o 0,.str x] h=some (.bool w,h):=by
 rw[qY 131 aHw rfl];unfold aHw;dsimp only;cases w<;>(exact vB ho hm hf ht)
theorem aYx{h:XH}{o m e:Nat}{g g2:Bool}{a b:AV}{es:List (AV×AV)}{x:ByteArray}(ho:hat h o=some (.blk g (.cells true [a,.mp m,b])))(hm:hat h m=some (.blk g2 (.map true es)))(hf:aQ true (.str x) es=some (some (.pt e 0))) :
 runW aB 133 [.pt o 0,.str x] h=some (.tup [.pt e 0,.bool false],h):=by
 rw[qY 133 aHv rfl];unfold aHv;dsimp only;(exact yK ho hm hf)
theorem aYv{h:XH}{o m n:Nat}{g g2:Bool}{t:AV}{es:List (AV×AV)}{x:ByteArray}(hn:h.length=n)(on:(o<n)=True)(mn:(m<n)=True)(om:(o=m)=False)(mo:(m=o)=False)
 (ho:hat h o=some (.blk g (.cells true [.nilsl,.mp m,t]))) (hm:hat h m=some (.blk g2 (.map true es))) (hf:aQ true (.str x) es=some none) (hp:jY true (.str x) (.pt (n+2) 0) es=some (es++[(.str x,.pt (n+2) 0)])) (hf2:aQ true (.str x) (es++[(.str x,.pt (n+2) 0)])=some (some (.pt (n+2) 0))) :
 runW aB 133 [.pt o 0,.str x] h=some (.tup [.pt (n+2) 0,.bool true],uY h o m t x es [I 0,I 0]):=by
 rw[qY 133 aHv rfl];unfold aHv uY;dsimp only;(exact jE ho hm hf hn on mn om mo hp hf2)
theorem aYw{h:XH}{o m n b z:Nat}{g g2 g3:Bool}{t:AV}{cs:List AV}{es:List (AV×AV)}{x:ByteArray}(hn:h.length=n)(on:(o<n)=True)(mn:(m<n)=True)(bn:(b<n)=True)(om:(o=m)=False)(mo:(m=o)=False)(ob:(o=b)=False)(bo:(b=o)=False)(bm:(b=m)=False)(mb:(m=b)=False)
 (ho:hat h o=some (.blk g (.cells true [.sl b 0 1 z,.mp m,t]))) (hb:hat h b=some (.blk g3 (.cells true cs))) (hz:cs.length=z) (hz1:((z+1)*16≤1099511627776)=True) (hz2:(z+1≤1099511627776)=True) (hm:hat h m=some (.blk g2 (.map true es))) (hf:aQ true (.str x) es=some none) (hp:jY true (.str x) (.pt (n+2) 0) es=some (es++[(.str x,.pt (n+2) 0)])) (hf2:aQ true (.str x) (es++[(.str x,.pt (n+2) 0)])=some (some (.pt (n+2) 0))) :
 runW aB 133 [.pt o 0,.str x] h=some (.tup [.pt (n+2) 0,.bool true],uZ h o m b t x cs g3 es [I 0,I 0]):=by
 rw[qY 133 aHv rfl];unfold aHv uZ;dsimp only;(exact fN ho hm hf hn on mn om mo hp hf2 bn ob bo bm mb hb hz hz1 hz2 aE)
theorem aYu{h:XH}{o m e:Nat}{g g2:Bool}{a b:AV}{es:List (AV×AV)}{x:ByteArray}(ho:hat h o=some (.blk g (.cells true [a,.mp m,b])))(hm:hat h m=some (.blk g2 (.map true es)))(hf:aQ true (.str x) es=some (some (.pt e 0))) :
 runW aB 134 [.pt o 0,.str x] h=some (.bool false,h):=by
 rw[qY 134 aHu rfl];unfold aHu;dsimp only;(exact yK ho hm hf)
theorem aYt{h:XH}{o m:Nat}{g g2:Bool}{t:Int}{es:List (AV×AV)}{x:ByteArray}(ho:hat h o=some (.blk g (.cells true [.nilsl,.mp m,I t])))(hm:hat h m=some (.blk g2 (.map true es)))(hf:aQ true (.str x) es=some none)(ht:((0:Int)=t)=False) :
 runW aB 134 [.pt o 0,.str x] h=some (.bool false,h):=by
 rw[qY 134 aHu rfl];unfold aHu;dsimp only;(exact vB ho hm hf ht)
theorem aVg{h:XH}{o m b n:Nat}{g g2:Bool}{t:Int}{es:List (AV×AV)}{x:ByteArray}{w:Bool}(ho:hat h o=some (.blk g (.cells true [.sl b 0 1 n,.mp m,I t])))(hm:hat h m=some (.blk g2 (.map true es)))(hf:aQ true (.str x) es=some none)(ht:((n:Int)=t)=if w then True else False) :
 runW aB 134 [.pt o 0,.str x] h=some (.bool w,h):=by
 rw[qY 134 aHu rfl];unfold aHu;dsimp only;cases w<;>(exact vB ho hm hf ht)
theorem aYs{h:XH}{o m e:Nat}{g g2:Bool}{a b:AV}{es:List (AV×AV)}{x:ByteArray}(ho:hat h o=some (.blk g (.cells true [a,.mp m,b])))(hm:hat h m=some (.blk g2 (.map true es)))(hf:aQ true (.str x) es=some (some (.pt e 0))) :
 runW aB 136 [.pt o 0,.str x] h=some (.tup [.pt e 0,.bool false],h):=by
 rw[qY 136 aHt rfl];unfold aHt;dsimp only;(exact yK ho hm hf)
theorem aYq{h:XH}{o m n:Nat}{g g2:Bool}{t:AV}{es:List (AV×AV)}{x:ByteArray}(hn:h.length=n)(on:(o<n)=True)(mn:(m<n)=True)(om:(o=m)=False)(mo:(m=o)=False)
 (ho:hat h o=some (.blk g (.cells true [.nilsl,.mp m,t]))) (hm:hat h m=some (.blk g2 (.map true es))) (hf:aQ true (.str x) es=some none) (hp:jY true (.str x) (.pt (n+2) 0) es=some (es++[(.str x,.pt (n+2) 0)])) (hf2:aQ true (.str x) (es++[(.str x,.pt (n+2) 0)])=some (some (.pt (n+2) 0))) :
 runW aB 136 [.pt o 0,.str x] h=some (.tup [.pt (n+2) 0,.bool true],uY h o m t x es [I 0]):=by
 rw[qY 136 aHt rfl];unfold aHt uY;dsimp only;(exact jE ho hm hf hn on mn om mo hp hf2)
theorem aYr{h:XH}{o m n b z:Nat}{g g2 g3:Bool}{t:AV}{cs:List AV}{es:List (AV×AV)}{x:ByteArray}(hn:h.length=n)(on:(o<n)=True)(mn:(m<n)=True)(bn:(b<n)=True)(om:(o=m)=False)(mo:(m=o)=False)(ob:(o=b)=False)(bo:(b=o)=False)(bm:(b=m)=False)(mb:(m=b)=False)
 (ho:hat h o=some (.blk g (.cells true [.sl b 0 1 z,.mp m,t]))) (hb:hat h b=some (.blk g3 (.cells true cs))) (hz:cs.length=z) (hz1:((z+1)*16≤1099511627776)=True) (hz2:(z+1≤1099511627776)=True) (hm:hat h m=some (.blk g2 (.map true es))) (hf:aQ true (.str x) es=some none) (hp:jY true (.str x) (.pt (n+2) 0) es=some (es++[(.str x,.pt (n+2) 0)])) (hf2:aQ true (.str x) (es++[(.str x,.pt (n+2) 0)])=some (some (.pt (n+2) 0))) :
 runW aB 136 [.pt o 0,.str x] h=some (.tup [.pt (n+2) 0,.bool true],uZ h o m b t x cs g3 es [I 0]):=by
 rw[qY 136 aHt rfl];unfold aHt uZ;dsimp only;(exact fN ho hm hf hn on mn om mo hp hf2 bn ob bo bm mb hb hz hz1 hz2 aE)
theorem aYC{h:XH}{o m e:Nat}{g g2:Bool}{a b:AV}{es:List (AV×AV)}{x:ByteArray}(ho:hat h o=some (.blk g (.cells true [a,.mp m,b])))(hm:hat h m=some (.blk g2 (.map true es)))(hf:aQ true (.str x) es=some (some (.pt e 0))) :
 runW aB 129 [.pt o 0,.str x] h=some (.tup [.pt e 0,.bool false],h):=by
 rw[qY 129 aHx rfl];unfold aHx;dsimp only;(exact yK ho hm hf)
theorem aYA{h:XH}{o m n:Nat}{g g2:Bool}{t:AV}{es:List (AV×AV)}{x:ByteArray}(hn:h.length=n)(on:(o<n)=True)(mn:(m<n)=True)(om:(o=m)=False)(mo:(m=o)=False)
 (ho:hat h o=some (.blk g (.cells true [.nilsl,.mp m,t]))) (hm:hat h m=some (.blk g2 (.map true es))) (hf:aQ true (.str x) es=some none) (hp:jY true (.str x) (.pt (n+2) 0) es=some (es++[(.str x,.pt (n+2) 0)])) (hf2:aQ true (.str x) (es++[(.str x,.pt (n+2) 0)])=some (some (.pt (n+2) 0))) :
 runW aB 129 [.pt o 0,.str x] h=some (.tup [.pt (n+2) 0,.bool true],uY h o m t x es [I 0]):=by
 rw[qY 129 aHx rfl];unfold aHx uY;dsimp only;(exact jE ho hm hf hn on mn om mo hp hf2)
theorem aYB{h:XH}{o m n b z:Nat}{g g2 g3:Bool}{t:AV}{cs:List AV}{es:List (AV×AV)}{x:ByteArray}(hn:h.length=n)(on:(o<n)=True)(mn:(m<n)=True)(bn:(b<n)=True)(om:(o=m)=False)(mo:(m=o)=False)(ob:(o=b)=False)(bo:(b=o)=False)(bm:(b=m)=False)(mb:(m=b)=False)
 (ho:hat h o=some (.blk g (.cells true [.sl b 0 1 z,.mp m,t]))) (hb:hat h b=some (.blk g3 (.cells true cs))) (hz:cs.length=z) (hz1:((z+1)*16≤1099511627776)=True) (hz2:(z+1≤1099511627776)=True) (hm:hat h m=some (.blk g2 (.map true es))) (hf:aQ true (.str x) es=some none) (hp:jY true (.str x) (.pt (n+2) 0) es=some (es++[(.str x,.pt (n+2) 0)])) (hf2:aQ true (.str x) (es++[(.str x,.pt (n+2) 0)])=some (some (.pt (n+2) 0))) :
 runW aB 129 [.pt o 0,.str x] h=some (.tup [.pt (n+2) 0,.bool true],uZ h o m b t x cs g3 es [I 0]):=by
 rw[qY 129 aHx rfl];unfold aHx uZ;dsimp only;(exact fN ho hm hf hn on mn om mo hp hf2 bn ob bo bm mb hb hz hz1 hz2 aE)
structure OL where
 o:Nat
 m:Nat
 b:Nat
 es:List Nat
def sBk(b:Nat)(cs:List AV):List (Nat×ABlk):=if cs.length=0 then [] else [(b,.cells true cs)]
def eB(es:List Nat)(vs:List (List AV)):List (Nat×ABlk):=List.zipWith (fun e v=>(e,ABlk.cells true v)) es vs
def zG(l:OL)(ks:List ByteArray)(vs:List (List AV))(t:Int):List (Nat×ABlk) :=
 (l.o,.cells true [iG l.b ks.length,.mp l.m,I t])::(l.m,.map true (ent ks l.es))::(sBk l.b (ks.map .str)++eB l.es vs)
def Hd(h:XH)(l:List (Nat×ABlk)):Prop:=(∀ p∈l,aG h p.1=some p.2)∧(l.map (·.1)).Nodup
structure Od(h:XH)(l:OL)(ks:List ByteArray)(vs:List (List AV))(t:Int):Prop where
 hd:Hd h (zG l ks vs t)
 ek:l.es.length=ks.length
 vk:vs.length=ks.length
structure Fr(J:List Nat)(h h':XH):Prop where
 keep:∀ b,b<h.length→b∉J→aG h' b=aG h b
 len:h.length≤h'.length
theorem Fr.refl(J:List Nat)(h:XH):Fr J h h:=⟨fun _ _ _=>rfl,B5 _⟩
theorem Fr.trans{J:List Nat}{h h1 h2:XH}(a:Fr J h h1)(b:Fr J h1 h2):Fr J h h2:=⟨fun x hx hn=>(b.keep x (D9 hx a.len) hn).trans (a.keep x hx hn),I1 a.len b.len⟩
theorem Fr.mono{J K:List Nat}{h h1:XH}(a:Fr J h h1)(s:∀ b,b∈J→b∈K):Fr K h h1:=⟨fun x hx hn=>a.keep x hx fun hm=>hn (s x hm),a.len⟩
theorem Fr.app(h k:XH):Fr [] h (h++k):=⟨fun b hb _=>by simp only[aG,cM];grind,by simp⟩
theorem aC{h:XH}{b:Nat}{x:ABlk}(hb:aG h b=some x):∃ g,hat h b=some (.blk g x):=by
 unfold aG at hb
 grind
theorem aQj{h:XH}{b:Nat}{g:Bool}{x:ABlk}(hb:hat h b=some (.blk g x)):aG h b=some x:=by
 unfold aG;rw[hb]
theorem aH{h:XH}{b:Nat}{x:ABlk}(hb:aG h b=some x):b<h.length:=by
 obtain⟨g,hg⟩:=aC hb;exact Classical.byContradiction fun hn=>by
  simp_all [hat]
theorem cQ{h:XH}{b j:Nat}{g:Bool}{x:ABlk}:aG (h.set b (some (.blk g x))) j=if j=b then (if b<h.length then some x else aG h j) else aG h j:=by
 simp only[aG,P9]
 grind
theorem aFI{h:XH}{b j:Nat}(hj:j≠b):aG (h.set b none) j=aG h j:=by
 simp only[aG,P9,if_neg hj]
theorem gI{h k:XH}{j:Nat}:aG (h++k) j=if j<h.length then aG h j else aG k (j-h.length):=by
 simp only[aG,PA]
 grind
theorem aXz{es:List Nat}:∀{vs:List (List AV)},es.length=vs.length→(eB es vs).map (·.1)=es:=by
 induction es with
 | nil=>simp[eB]
 | cons e r ih=>intro vs h;cases vs with
   | nil=>cases h
   | cons v w=>simp_all [eB]
theorem aQG{es:List Nat}{vs:List (List AV)}{i e:Nat}{v:List AV}(he:es[i]?=some e)(hv:vs[i]?=some v):(e,ABlk.cells true v)∈eB es vs:=by
 refine B3 (i:=i) ?_
 grind [eB]
theorem aUe{es:List Nat}{vs:List (List AV)}(h:es.length=vs.length)(e:Nat)(v:List AV):eB (es++[e]) (vs++[v])=eB es vs++[(e,.cells true v)]:=by
 unfold eB;rw[List.zipWith_append h];rfl
theorem aKe{es:List Nat}{vs:List (List AV)}{p:Nat×ABlk}(h:p∈eB es vs):∃(i:Nat)(e:Nat)(v:List AV),es[i]?=some e∧vs[i]?=some v∧p=(e,.cells true v):=by
 grind [List.getElem?_of_mem,eB]
def idx(l:OL)(n:Nat):List Nat:=l.o::l.m::((if n=0 then [] else [l.b])++l.es)
theorem rR{l:OL}{ks:List ByteArray}{vs:List (List AV)}{t:Int}(h:l.es.length=vs.length):(zG l ks vs t).map (·.1)=idx l ks.length:=by
 unfold zG idx sBk
 grind [aXz]
variable{h h':XH}{l:OL}{ks:List ByteArray}{vs:List (List AV)}{t:Int}{x:ByteArray}{i:Nat}
namespace Od
theorem ho(od:Od h l ks vs t):∃ g,hat h l.o=some (.blk g (.cells true [iG l.b ks.length,.mp l.m,I t])):=aC (od.hd.1 (l.o,_) (by simp[zG]))
theorem hm(od:Od h l ks vs t):∃ g,hat h l.m=some (.blk g (.map true (ent ks l.es))):=aC (od.hd.1 (l.m,_) (by simp[zG]))
theorem hb(od:Od h l ks vs t)(hk:0<ks.length):∃ g,hat h l.b=some (.blk g (.cells true (ks.map .str))):=aC (od.hd.1 (l.b,_) (by
 have:¬ks.length=0:=AT
 simp[zG,sBk,this]))
theorem he(od:Od h l ks vs t){e:Nat}{v:List AV}(he:l.es[i]?=some e)(hv:vs[i]?=some v):aG h e=some (.cells true v):=od.hd.1 (e,.cells true v) (by
 unfold zG
 grind [aQG])
theorem nd(od:Od h l ks vs t):(idx l ks.length).Nodup:=by
 rw[←rR (t:=t) (od.ek.trans od.vk.symm)];exact od.hd.2
theorem lt(od:Od h l ks vs t){b:Nat}(hb:b∈idx l ks.length):b<h.length:=by
 rw[←rR (ks:=ks) (t:=t) (od.ek.trans od.vk.symm)]at hb;obtain⟨p,hp,rfl⟩:=F7.1 hb;exact aH (od.hd.1 p hp)
theorem lts(od:Od h l ks vs t):l.o<h.length∧l.m<h.length∧(0<ks.length→l.b<h.length)∧∀ e∈l.es,e<h.length :=
 ⟨od.lt (by simp[idx]),od.lt (by simp[idx]),fun hk=>od.lt (by
  have:¬ks.length=0:=AT
  simp[idx,this]),fun e he=>od.lt (by simp[idx,he])⟩
theorem nes(od:Od h l ks vs t):l.o≠l.m∧(0<ks.length→l.o≠l.b∧l.m≠l.b∧l.b∉l.es)∧l.o∉l.es∧l.m∉l.es∧l.es.Nodup:=by
 have:=od.nd;unfold idx at this
 grind
theorem found(od:Od h l ks vs t)(hx:bK ks x=some i):∃ e v,l.es[i]?=some e∧vs[i]?=some v∧aQ true (.str x) (ent ks l.es)=some (some (.pt e 0))∧aG h e=some (.cells true v):=by
 have h1:=cZ hx;have h2:i<ks.length:=(B8.1 h1).1;have h3:=pH (x:=x) od.ek.symm;rw[hx]at h3;have k1:=B6 (l:=l.es) (i:=i) (by rw[od.ek];exact h2);have k2:=B6 (l:=vs) (i:=i) (by rw[od.vk];exact h2);rw[D8,k1]at h3;exact⟨_,_,k1,k2,h3,od.he k1 k2⟩
theorem miss(od:Od h l ks vs t)(hx:bK ks x=none):aQ true (.str x) (ent ks l.es)=some none:=by
 have h3:=pH (x:=x) od.ek.symm
 grind
theorem fr(od:Od h l ks vs t){J:List Nat}(f:Fr J h h')(hd:∀ b,b∈idx l ks.length→b∉J):Od h' l ks vs t:=by
 refine⟨⟨fun p hp=>?_,od.hd.2⟩,od.ek,od.vk⟩;have h1:=od.hd.1 p hp;have h2:p.1∈idx l ks.length:=by
  rw[←rR (ks:=ks) (t:=t) (od.ek.trans od.vk.symm)];grind
 rw[f.keep p.1 (aH h1) (hd _ h2)];exact h1
theorem upd(od:Od h l ks vs t){e:Nat}{v:List AV}{g:Bool}(he:l.es[i]?=some e):Od (h.set e (some (.blk g (.cells true v)))) l ks (vs.set i v) t∧Fr [e] h (h.set e (some (.blk g (.cells true v)))):=by
 have hi:i<l.es.length:=(B8.1 he).1;have hm:e∈l.es:=B3 he;obtain⟨n1,n2,n3,n4,n5⟩:=od.nes;obtain⟨t1,t2,t3,t4⟩:=od.lts;have el:=t4 e hm;refine⟨⟨⟨fun p hp=>?_,?_⟩,od.ek,by rw[G5];exact od.vk⟩,⟨fun b _ hb=>by rw[cQ,if_neg (by grind)],by simp⟩⟩
 ·unfold zG at hp
  rw[C3,C3,C7]at hp;have keep:∀ p,p∈zG l ks vs t→p.1≠e→aG (h.set e (some (.blk g (.cells true v)))) p.1=some p.2:=fun p hp hne=>by
   rw[cQ,if_neg hne];exact od.hd.1 p hp
  rcases hp with rfl|rfl|hp|hp;·exact keep _ (by simp[zG]) fun q=>n3 (by grind)
  ·exact keep _ (by simp[zG]) fun q=>n4 (by grind)
  ·have hz:0<ks.length:=Nat.pos_of_ne_zero fun q=>by simp[sBk,q]at hp
   have hb:p=(l.b,.cells true (ks.map .str)):=by
    have hz2:¬ks.length=0:=AT
    simpa [sBk,hz2]using hp
   subst hb;exact keep _ (by simp[zG,hp]) fun q=>(n2 hz).2.2 (by grind)
  ·obtain⟨j,e2,v2,k1,k2,rfl⟩:=aKe hp
   by_cases hj:j=i
   ·subst hj
    rw[he]at k1;cases k1;have hv:v2=v:=by
     grind
    subst hv;rw[cQ,if_pos rfl,if_pos el]
   ·rw[List.getElem?_set_ne (fun q=>hj q.symm)]at k2
    refine keep _ (by unfold zG;grind [aQG]) fun q=>hj ?_
    grind [List.getElem?_inj]
 ·have h1:=od.nd
  rw[rR (by rw[G5];exact od.ek.trans od.vk.symm)];exact h1
end Od
end
section
open Go Go.DL
variable{h h':XH}{l:OL}{ks:List ByteArray}{vs:List (List AV)}{t:Int}{x:ByteArray}{i:Nat}{z:List AV}
theorem xU{o m:Nat}{tv:AV}{es:List (AV×AV)}(ho:o<h.length)(hm:m<h.length)(om:o≠m)(j:Nat):aG (uY h o m tv x es z) j =
 if j=m then some (.map true (es++[(.str x,.pt (h.length+2) 0)])) else if j=o then some (.cells true [.sl (h.length+1) 0 1 1,.mp m,tv]) else if j<h.length then aG h j else
 if j=h.length then some (.cells true [.str x]) else if j=h.length+1 then some (.cells true [.str x]) else if j=h.length+2 then some (.cells true z) else none:=by
 unfold uY;rw[gI,cQ,cQ];simp only[G5];by_cases jm:j=m;·grind
 ·by_cases jo:j=o
  ·grind
  ·by_cases jl:j<h.length
   ·grind
   ·simp only[jm,jo,jl,AAd]
    by_cases j0:j=h.length;·subst j0;simp[aG,hat]
    ·by_cases j1:j=h.length+1
     ·subst j1;simp[aG,hat]
     ·by_cases j2:j=h.length+2
      ·subst j2;simp[aG,hat]
      ·simp only[j0,j1,j2,AAd]
       unfold aG hat
       grind
theorem xV{o m b:Nat}{tv:AV}{cs:List AV}{g3:Bool}{es:List (AV×AV)}(ho:o<h.length)(hm:m<h.length)(om:o≠m)(j:Nat)(jb:j≠b):aG (uZ h o m b tv x cs g3 es z) j =
 if j=m then some (.map true (es++[(.str x,.pt (h.length+2) 0)])) else if j=o then some (.cells true [.sl (h.length+1) 0 1 (cs.length+1),.mp m,tv]) else if j<h.length then aG h j else
 if j=h.length then some (.cells true [.str x]) else if j=h.length+1 then some (.cells true (cs++[.str x])) else if j=h.length+2 then some (.cells true z) else none:=by
 unfold uZ;rw[gI,cQ,cQ,aFI jb];simp only[G5];by_cases jm:j=m;·grind
 ·by_cases jo:j=o
  ·grind
  ·by_cases jl:j<h.length
   ·grind
   ·simp only[jm,jo,jl,AAd]
    by_cases j0:j=h.length;·subst j0;simp[aG,hat]
    ·by_cases j1:j=h.length+1
     ·subst j1;simp[aG,hat]
     ·by_cases j2:j=h.length+2
      ·subst j2;simp[aG,hat]
      ·simp only[j0,j1,j2,AAd]
       unfold aG hat
       grind
theorem Od.putG(od:Od h l ks vs t)(hl:h'.length=h.length+3)
 (hp:∀ j,(0<ks.length→j≠l.b)→aG h' j=if j=l.m then some (.map true (ent ks l.es++[(.str x,.pt (h.length+2) 0)])) else if j=l.o then some (.cells true [.sl (h.length+1) 0 1 (ks.length+1),.mp l.m,I t]) else if j<h.length then aG h j else
 if j=h.length then some (.cells true [.str x]) else if j=h.length+1 then some (.cells true (ks.map .str++[.str x])) else if j=h.length+2 then some (.cells true z) else none) :
 Od h' ⟨l.o,l.m,h.length+1,l.es++[h.length+2]⟩ (ks++[x]) (vs++[z]) t∧Fr (idx l ks.length) h h':=by
 obtain⟨n1,n2,n3,n4,n5⟩:=od.nes;obtain⟨t1,t2,t3,t4⟩:=od.lts;have ev:=od.ek.trans od.vk.symm;refine⟨⟨⟨fun p hp'=>?_,?_⟩,by simp[od.ek],by simp[od.vk]⟩,⟨fun b hb hn=>?_,by omega⟩⟩
 ·unfold zG at hp'
  rw[aUe ev,wQ od.ek.symm]at hp';rw[C3,C3,C7,C7]at hp';rcases hp' with rfl|rfl|hp'|hp'|hp'
  ·have:iG (h.length+1) (ks++[x]).length = .sl (h.length+1) 0 1 (ks.length+1):=by simp[iG]
   grind
  ·grind
  ·have hb:p=(h.length+1,.cells true (ks.map .str++[.str x])):=by simpa [sBk]using hp'
   grind
  ·obtain⟨j,e2,v2,k1,k2,rfl⟩:=aKe hp'
   have me:=B3 k1;have le:=t4 _ me;rw[hp e2 (fun hk q=>(n2 hk).2.2 (by grind)),if_neg (fun q:e2=l.m=>n4 (by grind)),if_neg (fun q:e2=l.o=>n3 (by grind)),if_pos le];exact od.he k1 k2
  grind
 ·rw[rR (by simp[ev])]
  unfold idx;simp only[F6,aA2,Nat.add_eq_zero_iff,Nat.succ_ne_self,and_false,AAd,J5,aE5,C7,D1,C3,not_or,G4,AAp,AAi,aA6,and_true]
  grind
 ·have hb1:b≠l.o∧b≠l.m∧(0<ks.length→b≠l.b):=by
   unfold idx at hn
   grind
  grind
theorem rV:∀{ks:List ByteArray},bK ks x=none→bK (ks++[x]) x=some ks.length
 | [],_=>by simp[bK]
 | k::r,h=>by
   unfold bK at h;split at h;·cases h
   ·rename_i hk
    rw[O9]at h;show (if k=x then some 0 else (bK (r++[x]) x).map (· + 1))=_;rw[if_neg hk,rV h];rfl
theorem aJM{α:Type}{l:List α}(h:¬0<l.length):l=[]:=by grind
theorem tru{p:Prop}(h:p):p=True:=AAn h
theorem yV{p:Prop}(h:¬p):p=False:=AAo h
theorem Od.getf(od:Od h l ks vs t)(hx:bK ks x=some i):∃ e v,l.es[i]?=some e∧vs[i]?=some v∧aG h e=some (.cells true v)∧runW aB 95 [.pt l.o 0,.str x] h=some (.pt e 0,h):=by
 obtain⟨g1,ho⟩:=od.ho;obtain⟨g2,hm⟩:=od.hm;obtain⟨e,v,k1,k2,k3,k4⟩:=od.found hx
 grind [w95]
theorem Od.nonef(od:Od h l ks vs t)(hx:bK ks x=none):CalP Tryz.prog aB 95 [.pt l.o 0,.str x] h (.ifc 110 (.agg [I 5])) h:=by
 obtain⟨g1,ho⟩:=od.ho;obtain⟨g2,hm⟩:=od.hm;exact c95 ho hm (od.miss hx)
theorem Od.fullf(od:Od h l ks vs t)(ht:0<t):runW aB 87 [.pt l.o 0,.str x] h=some (.bool (decide (bK ks x=none)&&decide ((ks.length:Int)=t)),h):=by
 obtain⟨g1,ho⟩:=od.ho;obtain⟨g2,hm⟩:=od.hm;cases hx:bK ks x with
 | some i =>
   obtain⟨e,v,k1,k2,k3,k4⟩:=od.found hx;rw[bCa ho hm k3];rfl
 | none =>
   by_cases hk:0<ks.length
   ·have hv:iG l.b ks.length = .sl l.b 0 1 ks.length:=by unfold iG;grind
    rw[hv]at ho;by_cases hw:(ks.length:Int)=t;·rw[aYk (w:=true) ho hm (od.miss hx) (by simp[hw])];simp[hw]
    ·rw[aYk (w:=false) ho hm (od.miss hx) (by simp[hw])];simp[hw]
   ·have h0:ks=[]:=aJM hk
    have hz:((0:Int)=t)=False:=AAb;subst h0;rw[bBZ (t:=t) (by simpa [iG]using ho) hm (od.miss hx) hz]
    simp_all
theorem Od.newf(od:Od h l ks vs t)(hx:bK ks x=none)(hk:ks.length≤1000):∃ h',runW aB 89 [.pt l.o 0,.str x] h=some (.tup [.pt (h.length+2) 0,.bool true],h')∧h'.length=h.length+3∧Od h' ⟨l.o,l.m,h.length+1,l.es++[h.length+2]⟩ (ks++[x]) (vs++[[I 0]]) t∧Fr (idx l ks.length) h h':=by
 obtain⟨n1,n2,n3,n4,n5⟩:=od.nes;obtain⟨t1,t2,t3,t4⟩:=od.lts;obtain⟨g1,ho⟩:=od.ho;obtain⟨g2,hm⟩:=od.hm;have hf:=od.miss hx;have hp:=aAA (v:=.pt (h.length+2) 0) od.ek.symm hx;have hf2:aQ true (.str x) (ent ks l.es++[(.str x,.pt (h.length+2) 0)])=some (some (.pt (h.length+2) 0)):=by
  rw[←wQ od.ek.symm,pH (by simp[od.ek])];rw[rV hx];simp[←od.ek]
 by_cases k0:0<ks.length
 ·have hv:iG l.b ks.length = .sl l.b 0 1 ks.length:=by unfold iG;grind
  rw[hv]at ho;obtain⟨g3,hb⟩:=od.hb k0;obtain⟨n6,n7,n8⟩:=n2 k0;have t5:=t3 k0;refine⟨_,bBY rfl (tru t1) (tru t2) (tru t5) (yV n1) (yV (Ne.symm n1)) (yV n6) (yV (Ne.symm n6)) (yV (Ne.symm n7)) (yV n7) ho hb (by simp) (tru AT) (tru AT) hm hf hp hf2,by simp[uZ],?_⟩;exact Od.putG od (by simp[uZ]) fun j hj=>by
   grind [xV]
 ·have h0:ks=[]:=aJM k0
  subst h0;refine⟨_,bBX rfl (tru t1) (tru t2) (yV n1) (yV (Ne.symm n1)) (by simpa [iG]using ho) hm hf hp hf2,by simp[uY],?_⟩;exact Od.putG od (by simp[uY]) fun j hj=>by
   grind [xU]
theorem Od.getm(od:Od h l ks vs t)(hx:bK ks x=some i):∃ e v,l.es[i]?=some e∧vs[i]?=some v∧aG h e=some (.cells true v)∧runW aB 96 [.pt l.o 0,.str x] h=some (.pt e 0,h):=by
 obtain⟨g1,ho⟩:=od.ho;obtain⟨g2,hm⟩:=od.hm;obtain⟨e,v,k1,k2,k3,k4⟩:=od.found hx
 grind [w96]
theorem Od.nonem(od:Od h l ks vs t)(hx:bK ks x=none):CalP Tryz.prog aB 96 [.pt l.o 0,.str x] h (.ifc 110 (.agg [I 5])) h:=by
 obtain⟨g1,ho⟩:=od.ho;obtain⟨g2,hm⟩:=od.hm;exact c96 ho hm (od.miss hx)
theorem Od.fullm(od:Od h l ks vs t)(ht:0<t):runW aB 131 [.pt l.o 0,.str x] h=some (.bool (decide (bK ks x=none)&&decide ((ks.length:Int)=t)),h):=by
 obtain⟨g1,ho⟩:=od.ho;obtain⟨g2,hm⟩:=od.hm;cases hx:bK ks x with
 | some i =>
   obtain⟨e,v,k1,k2,k3,k4⟩:=od.found hx;rw[aYz ho hm k3];rfl
 | none =>
   by_cases hk:0<ks.length
   ·have hv:iG l.b ks.length = .sl l.b 0 1 ks.length:=by unfold iG;grind
    rw[hv]at ho;by_cases hw:(ks.length:Int)=t;·rw[aVh (w:=true) ho hm (od.miss hx) (by simp[hw])];simp[hw]
    ·rw[aVh (w:=false) ho hm (od.miss hx) (by simp[hw])];simp[hw]
   ·have h0:ks=[]:=aJM hk
    have hz:((0:Int)=t)=False:=AAb;subst h0;rw[aYy (t:=t) (by simpa [iG]using ho) hm (od.miss hx) hz]
    simp_all
theorem Od.oldm(od:Od h l ks vs t)(hx:bK ks x=some i):∃ e v,l.es[i]?=some e∧vs[i]?=some v∧aG h e=some (.cells true v)∧runW aB 133 [.pt l.o 0,.str x] h=some (.tup [.pt e 0,.bool false],h):=by
 obtain⟨g1,ho⟩:=od.ho;obtain⟨g2,hm⟩:=od.hm;obtain⟨e,v,k1,k2,k3,k4⟩:=od.found hx
 grind [aYx]
theorem Od.newm(od:Od h l ks vs t)(hx:bK ks x=none)(hk:ks.length≤1000):∃ h',runW aB 133 [.pt l.o 0,.str x] h=some (.tup [.pt (h.length+2) 0,.bool true],h')∧h'.length=h.length+3∧Od h' ⟨l.o,l.m,h.length+1,l.es++[h.length+2]⟩ (ks++[x]) (vs++[[I 0,I 0]]) t∧Fr (idx l ks.length) h h':=by
 obtain⟨n1,n2,n3,n4,n5⟩:=od.nes;obtain⟨t1,t2,t3,t4⟩:=od.lts;obtain⟨g1,ho⟩:=od.ho;obtain⟨g2,hm⟩:=od.hm;have hf:=od.miss hx;have hp:=aAA (v:=.pt (h.length+2) 0) od.ek.symm hx;have hf2:aQ true (.str x) (ent ks l.es++[(.str x,.pt (h.length+2) 0)])=some (some (.pt (h.length+2) 0)):=by
  rw[←wQ od.ek.symm,pH (by simp[od.ek])];rw[rV hx];simp[←od.ek]
 by_cases k0:0<ks.length
 ·have hv:iG l.b ks.length = .sl l.b 0 1 ks.length:=by unfold iG;grind
  rw[hv]at ho;obtain⟨g3,hb⟩:=od.hb k0;obtain⟨n6,n7,n8⟩:=n2 k0;have t5:=t3 k0;refine⟨_,aYw rfl (tru t1) (tru t2) (tru t5) (yV n1) (yV (Ne.symm n1)) (yV n6) (yV (Ne.symm n6)) (yV (Ne.symm n7)) (yV n7) ho hb (by simp) (tru AT) (tru AT) hm hf hp hf2,by simp[uZ],?_⟩;exact Od.putG od (by simp[uZ]) fun j hj=>by
   grind [xV]
 ·have h0:ks=[]:=aJM k0
  subst h0;refine⟨_,aYv rfl (tru t1) (tru t2) (yV n1) (yV (Ne.symm n1)) (by simpa [iG]using ho) hm hf hp hf2,by simp[uY],?_⟩;exact Od.putG od (by simp[uY]) fun j hj=>by
   grind [xU]
theorem Od.getp(od:Od h l ks vs t)(hx:bK ks x=some i):∃ e v,l.es[i]?=some e∧vs[i]?=some v∧aG h e=some (.cells true v)∧runW aB 97 [.pt l.o 0,.str x] h=some (.pt e 0,h):=by
 obtain⟨g1,ho⟩:=od.ho;obtain⟨g2,hm⟩:=od.hm;obtain⟨e,v,k1,k2,k3,k4⟩:=od.found hx
 grind [w97]
theorem Od.nonep(od:Od h l ks vs t)(hx:bK ks x=none):CalP Tryz.prog aB 97 [.pt l.o 0,.str x] h (.ifc 110 (.agg [I 5])) h:=by
 obtain⟨g1,ho⟩:=od.ho;obtain⟨g2,hm⟩:=od.hm;exact c97 ho hm (od.miss hx)
theorem Od.fullp(od:Od h l ks vs t)(ht:0<t):runW aB 134 [.pt l.o 0,.str x] h=some (.bool (decide (bK ks x=none)&&decide ((ks.length:Int)=t)),h):=by
 obtain⟨g1,ho⟩:=od.ho;obtain⟨g2,hm⟩:=od.hm;cases hx:bK ks x with
 | some i =>
   obtain⟨e,v,k1,k2,k3,k4⟩:=od.found hx;rw[aYu ho hm k3];rfl
 | none =>
   by_cases hk:0<ks.length
   ·have hv:iG l.b ks.length = .sl l.b 0 1 ks.length:=by unfold iG;grind
    rw[hv]at ho;by_cases hw:(ks.length:Int)=t;·rw[aVg (w:=true) ho hm (od.miss hx) (by simp[hw])];simp[hw]
    ·rw[aVg (w:=false) ho hm (od.miss hx) (by simp[hw])];simp[hw]
   ·have h0:ks=[]:=aJM hk
    have hz:((0:Int)=t)=False:=AAb;subst h0;rw[aYt (t:=t) (by simpa [iG]using ho) hm (od.miss hx) hz]
    simp_all
theorem Od.oldp(od:Od h l ks vs t)(hx:bK ks x=some i):∃ e v,l.es[i]?=some e∧vs[i]?=some v∧aG h e=some (.cells true v)∧runW aB 136 [.pt l.o 0,.str x] h=some (.tup [.pt e 0,.bool false],h):=by
 obtain⟨g1,ho⟩:=od.ho;obtain⟨g2,hm⟩:=od.hm;obtain⟨e,v,k1,k2,k3,k4⟩:=od.found hx
 grind [aYs]
theorem Od.newp(od:Od h l ks vs t)(hx:bK ks x=none)(hk:ks.length≤1000):∃ h',runW aB 136 [.pt l.o 0,.str x] h=some (.tup [.pt (h.length+2) 0,.bool true],h')∧h'.length=h.length+3∧Od h' ⟨l.o,l.m,h.length+1,l.es++[h.length+2]⟩ (ks++[x]) (vs++[[I 0]]) t∧Fr (idx l ks.length) h h':=by
 obtain⟨n1,n2,n3,n4,n5⟩:=od.nes;obtain⟨t1,t2,t3,t4⟩:=od.lts;obtain⟨g1,ho⟩:=od.ho;obtain⟨g2,hm⟩:=od.hm;have hf:=od.miss hx;have hp:=aAA (v:=.pt (h.length+2) 0) od.ek.symm hx;have hf2:aQ true (.str x) (ent ks l.es++[(.str x,.pt (h.length+2) 0)])=some (some (.pt (h.length+2) 0)):=by
  rw[←wQ od.ek.symm,pH (by simp[od.ek])];rw[rV hx];simp[←od.ek]
 by_cases k0:0<ks.length
 ·have hv:iG l.b ks.length = .sl l.b 0 1 ks.length:=by unfold iG;grind
  rw[hv]at ho;obtain⟨g3,hb⟩:=od.hb k0;obtain⟨n6,n7,n8⟩:=n2 k0;have t5:=t3 k0;refine⟨_,aYr rfl (tru t1) (tru t2) (tru t5) (yV n1) (yV (Ne.symm n1)) (yV n6) (yV (Ne.symm n6)) (yV (Ne.symm n7)) (yV n7) ho hb (by simp) (tru AT) (tru AT) hm hf hp hf2,by simp[uZ],?_⟩;exact Od.putG od (by simp[uZ]) fun j hj=>by
   grind [xV]
 ·have h0:ks=[]:=aJM k0
  subst h0;refine⟨_,aYq rfl (tru t1) (tru t2) (yV n1) (yV (Ne.symm n1)) (by simpa [iG]using ho) hm hf hp hf2,by simp[uY],?_⟩;exact Od.putG od (by simp[uY]) fun j hj=>by
   grind [xU]
theorem Od.oldw(od:Od h l ks vs t)(hx:bK ks x=some i):∃ e v,l.es[i]?=some e∧vs[i]?=some v∧aG h e=some (.cells true v)∧runW aB 129 [.pt l.o 0,.str x] h=some (.tup [.pt e 0,.bool false],h):=by
 obtain⟨g1,ho⟩:=od.ho;obtain⟨g2,hm⟩:=od.hm;obtain⟨e,v,k1,k2,k3,k4⟩:=od.found hx
 grind [aYC]
theorem Od.neww(od:Od h l ks vs t)(hx:bK ks x=none)(hk:ks.length≤1000):∃ h',runW aB 129 [.pt l.o 0,.str x] h=some (.tup [.pt (h.length+2) 0,.bool true],h')∧h'.length=h.length+3∧Od h' ⟨l.o,l.m,h.length+1,l.es++[h.length+2]⟩ (ks++[x]) (vs++[[I 0]]) t∧Fr (idx l ks.length) h h':=by
 obtain⟨n1,n2,n3,n4,n5⟩:=od.nes;obtain⟨t1,t2,t3,t4⟩:=od.lts;obtain⟨g1,ho⟩:=od.ho;obtain⟨g2,hm⟩:=od.hm;have hf:=od.miss hx;have hp:=aAA (v:=.pt (h.length+2) 0) od.ek.symm hx;have hf2:aQ true (.str x) (ent ks l.es++[(.str x,.pt (h.length+2) 0)])=some (some (.pt (h.length+2) 0)):=by
  rw[←wQ od.ek.symm,pH (by simp[od.ek])];rw[rV hx];simp[←od.ek]
 by_cases k0:0<ks.length
 ·have hv:iG l.b ks.length = .sl l.b 0 1 ks.length:=by unfold iG;grind
  rw[hv]at ho;obtain⟨g3,hb⟩:=od.hb k0;obtain⟨n6,n7,n8⟩:=n2 k0;have t5:=t3 k0;refine⟨_,aYB rfl (tru t1) (tru t2) (tru t5) (yV n1) (yV (Ne.symm n1)) (yV n6) (yV (Ne.symm n6)) (yV (Ne.symm n7)) (yV n7) ho hb (by simp) (tru AT) (tru AT) hm hf hp hf2,by simp[uZ],?_⟩;exact Od.putG od (by simp[uZ]) fun j hj=>by
   grind [xV]
 ·have h0:ks=[]:=aJM k0
  subst h0;refine⟨_,aYA rfl (tru t1) (tru t2) (yV n1) (yV (Ne.symm n1)) (by simpa [iG]using ho) hm hf hp hf2,by simp[uY],?_⟩;exact Od.putG od (by simp[uY]) fun j hj=>by
   grind [xU]
end
end Go.Proofs.YtmapgnepfgnphaaGreatDoor
