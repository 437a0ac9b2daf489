/- Parts of a proof, joined. No statement of the seed is proved here. -/
import Derived.Shelf.Strings.OnBuilder
import Derived.Shelf.Strings.Trim
import Derived.Shelf.Small.Wraps
import Derived.Shelf.Strings.BuilderK
import Derived.Shelf.Strconv.Itoa3
import Derived.Shelf.Strconv.AtoiAll
import Derived.Shelf.Strings.Shaped
import Derived.Shelf.GgClosure.StringsRunes
import Derived.Shelf.Strings.SplitShaped
import Derived.Shelf.Strings.Runes
import Derived.Shelf.Strings.AsciiSet
import Derived.Shelf.Strings.Explode
import Derived.Shelf.Strings.Repeat
import Derived.Shelf.Strings.FuncGrows
import Derived.Shelf.Slices.Turned
import Derived.Test.YtfcdcgplogojbaaGreatDoorH5
set_option linter.unusedSimpArgs false
set_option linter.unusedVariables false
set_option linter.unusedSectionVars false
set_option maxRecDepth 100000
set_option maxHeartbeats 4000000
namespace Go.Proofs.YtfcdcgplogojbaaGreatDoor
open Go Go.DL Go.Proofs.Tryz
def aYT:List (Nat×XFn):=[(3,x3),(4,x4),(5,x5),(6,x6),(7,x7),(9,x9),(10,x10),(11,x11),(12,x12),(13,x13),(14,x14),(15,x15),(16,x16),(17,x17),(19,x19),(20,x20),(21,x21),(24,x24),(25,x25),(26,x26),(27,oX),(28,zB),(29,x29),(30,x30),(31,x31),(32,vZ),(33,x33),(34,x34),(35,x35),(36,x36),(37,x37),(39,x39),(40,x40),(41,x41),(43,x43),(44,x44),(45,x45),(46,x46),(47,x47),(49,x49),(50,x50),(51,x51),(52,x52),(54,x54),(55,x55),(56,x56),(57,x57),(58,x58),(61,x61),(62,x62),(64,x64),(65,x65),(66,x66),(67,x67),(68,x68),(69,x69),(70,x70),(71,x71),(72,x72),(73,x73),(74,x74),(75,x75),(77,x77),(78,x78),(79,x79),(80,x80),(81,x81),(82,x82),(83,x83),(84,x84),(85,x85),(86,x86),(87,x87),(88,x88),(89,x89),(90,x90),(91,x91),(93,x93),(94,x94),(95,x95),(96,x96),(98,x98),(103,x103),(108,aEV),(109,aIh),(110,aSM),(111,aIg),(112,aMx),(113,aIf),(114,aIe),(115,aMw),(116,aId),(117,aSK),(119,aSJ),(121,x121),(139,aSI),(140,aSH),(142,aSG),(143,aSF),(144,aSE),(154,aYr),(162,aSD),(163,aSC),(164,aOc),(165,aSB),(166,aSA),(168,aSz),(169,aSy),(175,aYq),(176,aYp),(184,aSx),(185,aSw),(186,aSv),(187,aSu),(188,aSt),(189,aSs),(196,aSr),(197,aSq),(198,aSp),(199,aSo),(200,aSn),(219,aNU),(220,aSm),(221,aSl),(222,aSk),(227,aSj),(228,aSi),(229,aSh),(230,aSg)]
def aPT:Nat->Option XFn:=aJk aYT
theorem aCM:∀ p∈aYT,aO prog p :=
 aQ (cZ call3 func3) (aQ (cZ call4 func4) (aQ (cZ call5 func5) (aQ (cZ call6 func6) (aQ (cZ call7 func7) (aQ (cZ call9 func9) (aQ bEO (aQ (cZ call11 func11) (aQ (cZ call12 func12) (aQ (cZ call13 func13) (aQ (cZ call14 func14) (aQ (cZ call15 func15) (aQ (cZ call16 func16) (aQ (cZ call17 func17) (aQ (cZ call19 func19) (aQ (cZ call20 func20) (aQ (cZ call21 func21) (aQ (cZ call24 func24) (aQ (cZ call25 func25) (aQ (cZ call26 func26) (aQ (cZ call27 func27) (aQ (cZ call28 func28) (aQ (cZ call29 func29) (aQ (cZ call30 func30) (aQ (cZ call31 func31) (aQ (cZ call32 func32) (aQ (cZ call33 func33) (aQ (cZ call34 func34) (aQ (cZ call35 func35) (aQ (cZ call36 func36) (aQ (cZ call37 func37) (aQ (cZ call39 func39) (aQ (cZ call40 func40) (aQ (cZ call41 func41) (aQ (cZ call43 func43) (aQ (cZ call44 func44) (aQ (cZ call45 func45) (aQ (cZ call46 func46) (aQ (cZ call47 func47) (aQ (cZ call49 func49) (aQ (cZ call50 func50) (aQ (cZ call51 func51) (aQ (cZ call52 func52) (aQ (cZ call54 func54) (aQ (cZ call55 func55) (aQ (cZ call56 func56) (aQ (cZ call57 func57) (aQ (cZ call58 func58) (aQ (cZ call61 func61) (aQ (cZ call62 func62) (aQ (cZ call64 func64) (aQ (cZ call65 func65) (aQ (cZ call66 func66) (aQ (cZ call67 func67) (aQ (cZ call68 func68) (aQ (cZ call69 func69) (aQ (cZ call70 func70) (aQ (cZ call71 func71) (aQ (cZ call72 func72) (aQ (cZ call73 func73) (aQ (cZ call74 func74) (aQ (cZ call75 func75) (aQ (cZ call77 func77) (aQ (cZ call78 func78) (aQ (cZ call79 func79) (aQ (cZ call80 func80) (aQ (cZ call81 func81) (aQ (cZ call82 func82) (aQ (cZ call83 func83) (aQ (cZ call84 func84) (aQ (cZ call85 func85) (aQ (cZ call86 func86) (aQ (cZ call87 func87) (aQ (cZ call88 func88) (aQ (cZ call89 func89) (aQ (cZ call90 func90) (aQ (cZ call91 func91) (aQ (cZ call93 func93) (aQ (cZ call94 func94) (aQ (cZ call95 func95) (aQ (cZ call96 func96) (aQ (cZ call98 func98) (aQ (cZ call103 func103) (aQ (cZ call108 func108) (aQ (cZ call109 func109) (aQ (cZ call110 func110) (aQ (cZ call111 func111) (aQ (cZ call112 func112) (aQ (cZ call113 func113) (aQ (cZ call114 func114) (aQ (cZ call115 func115) (aQ (cZ call116 func116) (aQ (cZ call117 func117) (aQ (cZ call119 func119) (aQ (cZ call121 func121) (aQ (cZ call139 func139) (aQ (cZ call140 func140) (aQ (cZ call142 func142) (aQ (cZ call143 func143) (aQ (cZ call144 func144) (aQ (cZ call154 func154) (aQ (cZ call162 func162) (aQ (cZ call163 func163) (aQ bAI (aQ (cZ call165 func165) (aQ (cZ call166 func166) (aQ (cZ call168 func168) (aQ (cZ call169 func169) (aQ (cZ call175 func175) (aQ (cZ call176 func176) (aQ (cZ call184 func184) (aQ (cZ call185 func185) (aQ (cZ call186 func186) (aQ (cZ call187 func187) (aQ (cZ call188 func188) (aQ (cZ call189 func189) (aQ (cZ call196 func196) (aQ (cZ call197 func197) (aQ (cZ call198 func198) (aQ (cZ call199 func199) (aQ (cZ call200 func200) (aQ bAq (aQ (cZ call220 func220) (aQ (cZ call221 func221) (aQ (cZ call222 func222) (aQ (cZ call227 func227) (aQ (cZ call228 func228) (aQ (cZ call229 func229) (aQ (cZ call230 func230) (bFl)))))))))))))))))))))))))))))))))))))))))))))))))))))))))))))))))))))))))))))))))))))))))))))))))))))))))))))))))))))))))))))))))
theorem aWS{k:Nat}{d:XFn}(h:aPT k=some d):d.prm=none:=(aCM _ (tH h)).2.2.2
theorem progX_ok:XOk prog aPT:=⟨rfl,λk d h _=>(aCM _ (tH h)).1,λk d f h hp=>(by rw[aWS h]at hp;cases hp),λk d h=>(aCM _ (tH h)).2.1,λk d h=>(aCM _ (tH h)).2.2.1⟩
end Go.Proofs.YtfcdcgplogojbaaGreatDoor
namespace Go.Proofs
open Go.Shelf
def Tryz.lays156_ren:Go.Shelf.Ren:=⟨fun|156=>76|165=>118|166=>35|169=>38|240=>92|241=>141|276=>120|277=>167|n=>n,fun|31=>22|9=>9|3=>3|4=>4|0=>0|20=>20|72=>77|76=>80|70=>74|37=>75|75=>79|127=>145|164=>183|5=>5|80=>33|n=>n,fun|n=>n⟩
theorem Tryz.lays156:Go.Proofs.Lays.n156 Tryz.prog Tryz.lays156_ren:=by constructor<;>(intros;kernel_rfl)
theorem Tryz.Builder_Extra_156:Builder.Extra Tryz.prog Tryz.lays156_ren:={
 sizeBuilder:=by kernel_rfl
 liesBuilder:=by kernel_rfl
 t5:=Tryz.underlying5
 a5:=Tryz.isAgg5
 z5:=Tryz.sizeOf5
 v5:=Tryz.zeroValue5
 infoByte:=by kernel_rfl
 cellsByte:=by kernel_rfl
 sizeByte:=by kernel_rfl
 neB5:=by decide }
open Go.RowKit in
theorem Tryz.strings_Join_none(a:Option Addr)(c:Nat)(sep:ByteArray)(w:World) :
 Calls Tryz.prog 76 #[.slice a 0 c,.string sep] w λe w'=>e = .returned (.string ⟨#[]⟩)/\w'=w:=Any.strings_Join_none Tryz.lays156 Tryz.Builder_Extra_156 a c sep w
open Go.RowKit in
theorem Tryz.strings_Join(bk o c:Nat)(xs:List ByteArray)(sep:ByteArray)(w:World)(hcells:∀(j:Nat) x,xs[j]?=some x->w.cell? ⟨bk,o+j,none⟩=some (.string x))(hbk:bk<w.heap.size)(hN:xs.length<=140737488355328)(hcap:xs.length<=c)(hlen:(Lib.join (xs.map (·.data.toList)) sep.data.toList).length<=140737488355328) :
 Calls Tryz.prog 76 #[.slice (some ⟨bk,o,none⟩) xs.length c,.string sep] w λe w'=>e = .returned (.string ⟨(Lib.join (xs.map (·.data.toList)) sep.data.toList).toArray⟩)/\Below w.heap.size w w':=Any.strings_Join Tryz.lays156 Tryz.Builder_Extra_156 bk o c xs sep w hcells hbk hN hcap hlen
def Tryz.lays162_ren:Go.Shelf.Ren:=⟨fun|162=>100|232=>123|227=>124|234=>125|236=>126|228=>147|271=>148|151=>149|120=>173|197=>156|152=>174|260=>177|137=>192|119=>193|224=>180|225=>179|217=>178|266=>194|n=>n,fun|9=>9|4=>4|3=>3|5=>5|117=>189|116=>188|0=>0|124=>192|21=>21|105=>220|46=>210|119=>265|139=>268|138=>267|n=>n,fun|3=>6|4=>7|n=>n⟩
theorem Tryz.lays162:Go.Proofs.Lays.n162 Tryz.prog Tryz.lays162_ren:=by constructor<;>(intros;kernel_rfl)
open Go.RowKit in
theorem Tryz.strings_TrimRight_one(s:ByteArray)(c:UInt8)(hc:c.toNat<128)(w:World)(hs:s.size<=9223372036854775807) :
 Calls Tryz.prog 100 #[.string s,.string ⟨#[c]⟩] w λe w'=>e = .returned (.string ⟨(Lib.trimRightB s.data.toList c).toArray⟩)/\w'=w:=Any.strings_TrimRight_one Tryz.lays162 s c hc w hs
def Tryz.lays103_ren:Go.Shelf.Ren:=⟨fun|103=>18|210=>53|206=>102|n=>n,fun|9=>9|4=>4|24=>43|3=>3|n=>n,fun|n=>n⟩
theorem Tryz.lays103:Go.Proofs.Lays.n103 Tryz.prog Tryz.lays103_ren:=by constructor<;>(intros;kernel_rfl)
open Go.RowKit in
theorem Tryz.strings_CutPrefix(s p:ByteArray)(w:World) :
 Calls Tryz.prog 18 #[.string s,.string p] w λe w'=>e = .returned (.tuple #[.string ⟨(Lib.trimPrefix s.data.toList p.data.toList).toArray⟩,.bool (Lib.hasPrefix s.data.toList p.data.toList)])/\w'=w:=Any.strings_CutPrefix Tryz.lays103 s p w
def Tryz.laysM171_ren:Go.Shelf.Ren:=⟨fun|171=>23|243=>59|246=>104|283=>127|284=>128|285=>129|286=>130|129=>151|317=>150|318=>152|319=>153|320=>154|337=>175|338=>176|n=>n,fun|3=>3|9=>9|2=>2|4=>4|171=>193|0=>0|53=>194|37=>75|5=>5|173=>197|212=>224|51=>225|20=>20|213=>226|46=>210|232=>263|233=>264|n=>n,fun|17=>0|18=>4|19=>5|n=>n⟩
theorem Tryz.laysM171:Go.Proofs.LaysM.n171 Tryz.prog Tryz.laysM171_ren:=by constructor<;>(intros;first|kernel_rfl|(constructor<;>(intros;first|kernel_rfl|(constructor<;>(intros;kernel_rfl)))))
open Go.RowKit Go.Sort Go.Lib in
theorem Tryz.strconv_Itoa (n:Int) (h0 : -9223372036854775808<=n) (h1:n<=9223372036854775807) (w:World) (htab:Lib.TabIs Tryz.prog w "internal/strconv.uint64pow10" .u64 Lib.pow10Tab) :
 Calls Tryz.prog 23 #[.int .i64 n] w λe w'=>e = .returned (.string ⟨(Lib.itoa n).toArray⟩)/\∃ k os,w'=grow (w.drewN k) os:=Any.strconv_Itoa Tryz.laysM171 n h0 h1 w htab
def Tryz.laysC172_ren:Go.Shelf.Ren:=⟨fun|172=>63|244=>106|245=>107|247=>134|279=>135|280=>136|281=>137|282=>138|287=>159|316=>160|171=>23|205=>161|321=>182|322=>183|243=>59|246=>104|283=>127|284=>128|285=>129|286=>130|129=>151|317=>150|318=>152|319=>153|320=>154|337=>175|338=>176|n=>n,fun|9=>9|3=>3|75=>79|76=>80|4=>4|5=>5|167=>201|37=>75|0=>0|85=>202|2=>2|168=>204|53=>194|175=>230|46=>210|210=>233|127=>145|145=>253|143=>251|21=>21|171=>193|173=>197|212=>224|51=>225|20=>20|213=>226|232=>263|233=>264|80=>33|n=>n,fun|15=>1|16=>2|17=>0|18=>4|19=>5|n=>n⟩
theorem Tryz.laysC172:Go.Proofs.LaysC.n172 Tryz.prog Tryz.laysC172_ren:=by constructor<;>(intros;first|kernel_rfl|(constructor<;>(intros;first|kernel_rfl|(constructor<;>(intros;kernel_rfl)))))
open Go.RowKit in
theorem Tryz.strconv_Atoi_ok(s:ByteArray)(hmax:s.size<=9223372036854775806)(v:Int)(h:Lib.atoiAll s.data.toList = .ok v)(w:World) :
 Calls Tryz.prog 63 #[.string s] w λe w'=>e = .returned (.tuple #[.int .i64 v,.nilIface])/\(w'=w\/∃ t,w'=Lib.bytesWorld w 5 t):=Any.strconv_Atoi_ok Tryz.laysC172 s hmax v h w
open Go.RowKit in
theorem Tryz.strconv_Atoi_syntax(s:ByteArray)(hlim:s.size<=281474976710656)(h:Lib.atoiAll s.data.toList=Lib.NumEnd.syntax)(ev:Value)(w:World)(hv:w.cell? ⟨1,0,none⟩=some ev)(hev:ev = .nilIface\/∃ te pe,ev = .iface te pe) :
 Calls Tryz.prog 63 #[.string s] w λe w'=>∃ N,e = .returned (.tuple #[.int .i64 (0),.iface 204 (.pointer (some ⟨N,0,none⟩))])/\w.heap.size<=N/\w'.heap[N]?=some (.cells #[.string ⟨#[65,116,111,105]⟩,.string s,ev] 233 (0,0))/\Below w.heap.size w w':=Any.strconv_Atoi_syntax Tryz.laysC172 s hlim h ev w hv hev
open Go.RowKit in
theorem Tryz.strconv_Atoi_range(s:ByteArray)(hlim:s.size<=281474976710656)(h:Lib.atoiAll s.data.toList = .range)(ev:Value)(w:World)(hv:w.cell? ⟨2,0,none⟩=some ev)(hev:ev = .nilIface\/∃ te pe,ev = .iface te pe) :
 Calls Tryz.prog 63 #[.string s] w λe w'=>∃ N,e = .returned (.tuple #[.int .i64 (Lib.atoiSat s.data.toList),.iface 204 (.pointer (some ⟨N,0,none⟩))])/\w.heap.size<=N/\w'.heap[N]?=some (.cells #[.string ⟨#[65,116,111,105]⟩,.string s,ev] 233 (0,0))/\Below w.heap.size w w':=Any.strconv_Atoi_range Tryz.laysC172 s hlim h ev w hv hev
def Tryz.laysGw17_ren:Go.Shelf.Ren:=⟨fun|17=>97|15=>122|20=>146|n=>n,fun|9=>9|23=>148|4=>4|3=>3|0=>0|21=>21|n=>n,fun|n=>n⟩
theorem Tryz.laysGw17:Go.Proofs.LaysGw.n17 Tryz.prog Tryz.laysGw17_ren:=by constructor<;>(intros;kernel_rfl)
open Go.RowKit Go.Lib in
theorem Tryz.strings_ContainsFunc_runes(g:Nat)(lb:Array Value)(eg:∀ args w,(callFunc g args).run Tryz.prog w = .ok (.enter g args) w)(p:Nat->Bool)(s:ByteArray)(w:World)(hp:PredAtRunes Tryz.prog g lb p w) :
 Calls Tryz.prog 97 #[.string s,.func (.func g) #[] lb] w λe w'=>e = .returned (.bool (decide (0<=Lib.idxFunc p true s)))/\Below w.heap.size w w':=Any.strings_ContainsFunc_runes Tryz.laysGw17 g lb eg p s w hp
def Tryz.lays100_ren:Go.Shelf.Ren:=⟨fun|100=>42|207=>99|n=>n,fun|9=>9|4=>4|3=>3|n=>n,fun|n=>n⟩
theorem Tryz.lays100:Go.Proofs.Lays.n100 Tryz.prog Tryz.lays100_ren:=by constructor<;>(intros;kernel_rfl)
open Go.RowKit Go.Lib in
theorem Tryz.strings_HasSuffix(s p:ByteArray)(w:World)(hs:s.size<=9223372036854775807) :
 Calls Tryz.prog 42 #[.string s,.string p] w λe w'=>e = .returned (.bool (Lib.hasSuffix s.data.toList p.data.toList))/\w'=w:=Any.strings_HasSuffix Tryz.lays100 s p w hs
def Tryz.lays146_ren:Go.Shelf.Ren:=⟨fun|146=>60|221=>105|268=>131|138=>132|143=>133|195=>155|197=>156|218=>157|219=>158|260=>177|217=>178|225=>179|224=>180|267=>181|266=>194|314=>195|n=>n,fun|9=>9|31=>22|3=>3|4=>4|0=>0|105=>220|21=>21|5=>5|46=>210|119=>265|139=>268|138=>267|146=>259|51=>225|n=>n,fun|1=>3|3=>6|4=>7|n=>n⟩
theorem Tryz.lays146:Go.Proofs.Lays.n146 Tryz.prog Tryz.lays146_ren:=by constructor<;>(intros;kernel_rfl)
open Go.RowKit Go.Lib in
theorem Tryz.strings_Split(s sep:ByteArray)(m:Int)(w:World)(hs:s.size<4294967281)(hm:w.cell? ⟨3,0,none⟩=some (.int .i64 m))(h1:1<=sep.size) :
 Calls Tryz.prog 60 #[.string s,.string sep] w λe w' =>
  e = .returned (.slice (some ⟨w.heap.size,0,none⟩) (Lib.countB s sep+1) (Lib.countB s sep+1))/\w'=w.alloc (.cells ((Lib.splitB sep 0 (Lib.countB s sep) s).map Value.string).toArray 9):=Any.strings_Split Tryz.lays146 (by kernel_rfl) s sep m w hs hm h1
def Tryz.lays105_ren:Go.Shelf.Ren:=⟨fun|105=>145|212=>170|99=>171|165=>118|166=>35|170=>172|169=>38|263=>190|264=>191|206=>102|240=>92|241=>141|276=>120|277=>167|n=>n,fun|9=>9|3=>3|4=>4|20=>20|0=>0|46=>210|109=>245|5=>5|72=>77|76=>80|51=>225|146=>259|53=>194|148=>261|70=>74|37=>75|75=>79|127=>145|164=>183|80=>33|n=>n,fun|n=>n⟩
theorem Tryz.lays105:Go.Proofs.Lays.n105 Tryz.prog Tryz.lays105_ren:=by constructor<;>(intros;kernel_rfl)
theorem Tryz.Builder_Extra_105:Builder.Extra Tryz.prog Tryz.lays105_ren:={
 sizeBuilder:=by kernel_rfl
 liesBuilder:=by kernel_rfl
 t5:=Tryz.underlying5
 a5:=Tryz.isAgg5
 z5:=Tryz.sizeOf5
 v5:=Tryz.zeroValue5
 infoByte:=by kernel_rfl
 cellsByte:=by kernel_rfl
 sizeByte:=by kernel_rfl
 neB5:=by decide }
open Go.RowKit Go.Lib in
theorem Tryz.strings_Repeat(s:ByteArray)(c:Nat)(w:World)(hc:c<=9223372036854775807)(hlen:s.size*c<=140737488355328) :
 Calls Tryz.prog 145 #[.string s,.int .i64 c] w λe w'=>e = .returned (.string ⟨(Lib.repeatL s.data.toList c).toArray⟩)/\Below w.heap.size w w':=Any.strings_Repeat Tryz.lays105 Tryz.Builder_Extra_105 s c w hc hlen
def Tryz.lays110_ren:Go.Shelf.Ren:=⟨fun|110=>48|109=>101|n=>n,fun|31=>22|9=>9|4=>4|3=>3|0=>0|n=>n,fun|n=>n⟩
theorem Tryz.lays110:Go.Proofs.Lays.n110 Tryz.prog Tryz.lays110_ren:=by constructor<;>(intros;kernel_rfl)
open Go.Lib in
theorem Tryz.slices_Contains_string(b off n c:Nat)(zs:List ByteArray)(x:ByteArray)(w:World)(hz:n<=zs.length)(hbig:n<=9223372036854775807)(hc:∀ j,j<zs.length->w.cell? ⟨b,off+j,none⟩=some (.string (zs.getD j ByteArray.empty))) :
 Calls Tryz.prog 48 #[.slice (some ⟨b,off,none⟩) n c,.string x] w λe w'=>e = .returned (.bool (Lib.containsS (zs.take n) x))/\w'=w:=Any.slices_Contains_string Tryz.lays110 b off n c zs x w hz hbig hc
open Go.Lib in
theorem Tryz.slices_Contains_string_empty(a:Option Addr)(c:Nat)(x:ByteArray)(w:World) :
 Calls Tryz.prog 48 #[.slice a 0 c,.string x] w λe w'=>e = .returned (.bool false)/\w'=w:=Any.slices_Contains_string_empty Tryz.lays110 a c x w
end Go.Proofs
namespace Go.Proofs.YtfcdcgplogojbaaGreatDoor
section
open Go Go.DL Go.RowKit Go.Proofs.Tryz
variable{D:Nat->Option XFn}{Y:Nat->Option YI}{r:Nat->Option Nat}{h:XH}{H:Hp}{B:Base}
def iB(D:Nat->Option XFn)(K:Nat)(f:List AV->XH->Option (AV×XH)):Prop :=
 ∀(B:Base)(Y:Nat->Option YI)(r:Nat->Option Nat)(h:XH)(H:Hp)(xs ys:List AV)(v:AV)(h':XH),SH D Y r h H->RnL D Y r xs ys->f xs h=some (v,h')->FnW B Tryz.prog K ys H (fO D Y r v h')
def xA:List AV->XH->Option (AV×XH):=λxs h=>match xs with
 | [.str s,.int .i64 n]=>if 0<=n/\n<=1000000/\s.size<=1000 then some (.str ⟨⟨Go.Lib.repeatL s.data.toList n.toNat⟩⟩,h) else none
 | _=>none
theorem aJZ{s:ByteArray}{k:IntKind}{n:Int}{as':List AV}(hr:RnL D Y r [.str s,.int k n] as'):as'=[.str s,.int k n]:=by
 obtain⟨a,as1,rfl,h1,h2⟩:=hr.inv;obtain⟨b,as2,rfl,h3,h4⟩:=h2.inv
 grind [dM,eU,RnL]
theorem aPW:iB D 145 xA:=by
 intro B Y r h H xs ys v h' sh hr hx;unfold xA at hx;split at hx
 .rename_i s n
  split at hx
  .rename_i hn
   cases hx;rw[aJZ hr];have hc:Calls Tryz.prog 145 #[.string s,.int .i64 (n.toNat:Int)]=Calls Tryz.prog 145 #[.string s,.int .i64 n]:=by grind
   refine FnW.shelf (r:=λ_=>.string ⟨(Go.Lib.repeatL s.data.toList n.toNat).toArray⟩) (λvs w=>call145 vs w) (λF w vs=>.str _) (λF w vs hl ha=>?_) ⟨r,Sub.refl r,sh,.str _⟩;rw[ha.strInt,<-hc];exact Tryz.strings_Repeat s n.toNat w AS (by
    have h1:n.toNat<=1000000:=AS
    have:=O6 hn.2.2 h1;omega)
  .cases hx
 .cases hx
def wI:List (List AV)->Option (List ByteArray)
 | []=>some []
 | [.str x]::l=>(wI l).map (x :: ·)
 | _=>none
theorem aBB:∀{rows:List (List AV)}{xs:List ByteArray},wI rows=some xs->xs.length=rows.length/\∀(j:Nat)(x:ByteArray),xs[j]?=some x->rows[j]?=some [.str x]
 | [],xs,h=>by grind [wI]
 | row::l,xs,h=>by
   unfold wI at h;split at h;·rename_i h0;cases h0
   .rename_i x l' h0
    cases h0;cases hl:wI l with
    | none=>rw[hl]at h;cases h
    | some ys =>
      rw[hl]at h;simp only[D1,oSI]at h;subst h;obtain⟨h1,h2⟩:=aBB hl;refine⟨by simp[h1],λj y hj=>?_⟩;cases j with
      | zero=>simp at hj;subst hj;rfl
      | succ j=>exact h2 j y (by simpa using hj)
   .cases h
def aDS:List AV->XH->Option (AV×XH):=λxs h=>match xs with
 | [.fs rows,.str sep]=>match wI rows with
   | some l=>if l.length<=1000/\(Go.Lib.join (l.map (·.data.toList)) sep.data.toList).length<=100000 then some (.str ⟨⟨Go.Lib.join (l.map (·.data.toList)) sep.data.toList⟩⟩,h) else none
   | none=>none
 | _=>none
theorem aVC:iB D 76 aDS:=by
 intro B Y r h H xs ys v h' sh hr hx;unfold aDS at hx;split at hx
 .rename_i rows sep
  split at hx
  .rename_i l hl
   split at hx
   .rename_i hn
    cases hx;obtain⟨a,as1,rfl,h1,h2⟩:=hr.inv;obtain⟨b,as2,rfl,h3,h4⟩:=h2.inv;rw[(aAT h1).1,dM h3,h4.nil_inv];obtain⟨hlen,hget⟩:=aBB hl;refine FnW.shelf (r:=λ_=>.string ⟨(Go.Lib.join (l.map (·.data.toList)) sep.data.toList).toArray⟩) (λvs w=>call76 vs w) (λF w vs=>.str _) (λF w vs hlt ha=>?_) ⟨r,Sub.refl r,sh,.str _⟩;obtain⟨v1,vs1,rfl,k1,k2⟩:=ha.cons1;obtain⟨v2,vs2,rfl,k3,k4⟩:=k2.cons1;rw[k4.nil1];cases k3;have none:∀(a:Option Addr)(c:Nat),rows=[]->Calls Tryz.prog 76 #[.slice a 0 c,.string sep] w λe w'=>e = .returned (.string ⟨(Go.Lib.join (l.map (·.data.toList)) sep.data.toList).toArray⟩)/\Below w.heap.size w w':=λa c h0=>by
     subst h0;have:l=[]:=D0 AS;subst this;exact(Tryz.strings_Join_none a c sep w).mono λe w' ⟨he,hw⟩=>⟨by rw[he];rfl,hw▸Below.refl _ _⟩
    cases k1 with
    | fs0 a cap=>grind
    | fs rows blk off s cap g hcap hF hs hc ho hv =>
      by_cases h0:rows=[];·grind
      .have hs1:s=1:=by
        obtain⟨row,rest,rfl⟩:=aD8 h0;have hl0:l.length=rest.length+1:=AS
        obtain⟨x,hx0⟩:∃ x,l[0]?=some x:=⟨_,B7 AS⟩
        grind [List.getElem?_cons_zero]
       subst hs1;rw[<-hlen];refine Tryz.strings_Join blk off cap l sep w (λj x hj=>?_) (hlt _ hF) AS AS AS;have h5:=hget j x hj;have h6:=hc j _ 0 _ h5 rfl;have h7:=hv j _ 0 _ h5 rfl;generalize g j 0=y at h6 h7;cases h7
       grind
   .cases hx
  .cases hx
 .cases hx
def eC(c:UInt8):List UInt8->List (List UInt8)
 | []=>[[]]
 | b::r=>if b=c then []::eC c r else match eC c r with
   | x::l=>(b::x)::l
   | []=>[[b]]
theorem aDn(c:UInt8):∀ s:List UInt8,Lib.splitK [c] 0 (Lib.count s [c]) s=eC c s
 | []=>by rfl
 | b::l=>by
   have ih:=aDn c l;by_cases h:b=c
   .subst h
    have hix:Lib.index (b::l) [b]=0:=by rw[Lib.index];grind
    rw[Lib.count_cons_eq,Nat.add_comm,Lib.splitK,hix]
    grind [eC]
   .have hp:([c]:List UInt8).isPrefixOf (b::l)=false:=by grind
    have hix:Lib.index (b::l) [c]=if Lib.index l [c] == -1 then -1 else Lib.index l [c]+1:=by rw[Lib.index,hp];simp
    rw[Lib.count_cons_ne b c l h];simp only[eC,if_neg h,<-ih];cases hk:Lib.count l [c]with
    | zero=>rfl
    | succ k =>
      simp only[Lib.splitK];by_cases hm:Lib.index l [c] = -1;·grind
      .have hge:=Lib.index_ge l [c]
       obtain⟨j,hj⟩:∃ j:Nat,Lib.index l [c]=j:=⟨(Lib.index l [c]).toNat,by omega⟩;rw[hix,if_neg (λe=>hm (beq_iff_eq.1 e)),hj];rfl
def aAW:List AV->XH->Option (AV×XH):=λxs h=>match xs with
 | [.str s,.str ⟨⟨[c]⟩⟩]=>if s.size<=100000 then some (.fs ((eC c s.data.toList).map λl=>[.str ⟨⟨l⟩⟩]),h) else none
 | _=>none
theorem aVE:iB D 60 aAW:=by
 intro B Y r h H xs ys v h' sh hr hx;unfold aAW at hx;split at hx
 .rename_i s c
  split at hx
  .rename_i hn
   cases hx;obtain⟨a,as1,rfl,h1,h2⟩:=hr.inv;obtain⟨b,as2,rfl,h3,h4⟩:=h2.inv;rw[dM h1,dM h3,h4.nil_inv];have hv:∀ x∈(eC c s.data.toList).map (λl=>[AV.str ⟨⟨l⟩⟩]),∀ z∈x,Gd z:=λx hx z hz=>by
    obtain⟨l,_,rfl⟩:=F8.1 hx;simp only[D2]at hz;subst hz;exact .str _
   refine FnW.shelfG (λvs w=>call60 vs w) (λF w vs gi hl ha=>?_) ⟨r,DL.Sub.refl r,sh,(Gd.fs _ hv).rn⟩;obtain⟨hF3,m,hm⟩:=gi.2.1 3 (by simp[aEt]);rw[ha.strStr];refine(Tryz.strings_Split s ⟨#[c]⟩ m w AS hm (by simp[ByteArray.size])).mono ?_;rintro e w' ⟨rfl,rfl⟩;have hsp:((Lib.splitB ⟨#[c]⟩ 0 (Lib.countB s ⟨#[c]⟩) s).map (·.data.toList))=eC c s.data.toList:=by
    grind [Lib.splitB_data,aDn]
   have hlen:(Lib.splitB ⟨#[c]⟩ 0 (Lib.countB s ⟨#[c]⟩) s).length=Lib.countB s ⟨#[c]⟩+1:=Lib.splitB_all _ (by simp[ByteArray.size]) 0 _ _ rfl;obtain⟨L,hL⟩:∃ L,L=Lib.splitB ⟨#[c]⟩ 0 (Lib.countB s ⟨#[c]⟩) s:=⟨_,rfl⟩;rw[<-hL]at hsp hlen ⊢;have hrows:(eC c s.data.toList).map (λl=>[AV.str ⟨⟨l⟩⟩])=L.map λx=>[AV.str x]:=by
    rw[<-hsp,aB0];rfl
   rw[hrows];refine⟨_,λb=>F b\/b=w.heap.size,rfl,(Below.refl _ w).alloc (B5 _) _,λb hb=>.inl hb,λb hb=>hb.elim .inl λe=>.inr AS,λb hb=>?_,?_⟩
   .rcases hb with hb|rfl
    .have:=hl b hb;simp;omega
    .simp
   .have hcell:∀(j:Nat)(x:ByteArray),L[j]?=some x->(w.alloc (.cells (L.map Value.string).toArray 9)).cell? ⟨w.heap.size,j,none⟩=some (.string x):=λj x hj=>by
     simp_all
    have hlen':(L.map λx=>[AV.str x]).length=Lib.countB s ⟨#[c]⟩+1:=by grind
    rw[<-hlen'];refine .fs _ w.heap.size 0 1 _ (λi _=>.string (L.getD i ByteArray.empty)) AS (.inr rfl) (λx hx=>?_) (λi x j z hi hj=>?_) (λ_ _=>rfl) (λi x j z hi hj=>?_);·grind
    .grind
    .rw[C3,B2]at hi
     obtain⟨y,hy,rfl⟩:=hi;cases j with
     | zero =>
       simp only[F6,oSI]at hj;subst hj;rw[C7,hy];exact .str _
     | succ j=>simp at hj
  .cases hx
 .cases hx
theorem aSW {F:Nat->Prop} {w:World} (gi:GI F w):Lib.TabIs prog w "internal/strconv.uint64pow10" IntKind.u64 Lib.pow10Tab:=by
 obtain⟨_,e,fr,h2⟩:=gi.2.2.1 (0,(List.range 20).map λi=>Value.int .u64 ((10^i:Nat):Int)) (by simp[aEu])
 have hg:prog.globalNamed "internal/strconv.uint64pow10" = some 0:=by kernel_rfl
 unfold Lib.TabIs World.var?;rw[hg];simp only[D9];dsimp only at h2;rw[h2];rfl
def aBJ:List AV->XH->Option (AV×XH):=λxs h=>match xs with
 | [.int .i64 n]=>if -9223372036854775808<=n/\n<=9223372036854775807 then some (.str ⟨⟨Lib.itoa n⟩⟩,h) else none
 | _=>none
theorem aTB{k:IntKind}{n:Int}{as':List AV}(hr:RnL D Y r [.int k n] as'):as'=[.int k n]:=by
 obtain⟨b,as2,rfl,h3,h4⟩:=hr.inv
 grind [eU,RnL]
theorem aVJ:iB D 23 aBJ:=by
 intro B Y r h H xs ys v h' sh hr hx;unfold aBJ at hx;split at hx
 .rename_i n
  split at hx
  .rename_i hn
   cases hx;rw[aTB hr];refine FnW.shelfG (λvs w=>call23 vs w) (λF w vs gi hl ha=>?_) ⟨r,DL.Sub.refl r,sh,.str _⟩;obtain⟨b,bs,rfl,h3,h4⟩:=ha.cons1;cases h3;rw[h4.nil1];refine(Tryz.strconv_Itoa n hn.1 hn.2 w (aSW gi)).mono ?_;rintro e w' ⟨rfl,k,os,rfl⟩;have hbel:Below w.heap.size w («Sort».grow (w.drewN k) os):=by
    have h0:(w.drewN k).heap=w.heap:=rfl;refine⟨rfl,rfl,rfl,?_,λj hj=>?_⟩;·simp_all
    .simp only[«Sort».grow,h0]
     grind
   exact⟨_,F,rfl,hbel,λ_ h=>h,λ_ h=>.inl h,λb hb=>E5 (hl b hb) hbel.size,.str _⟩
  .cases hx
 .cases hx
theorem aYZ(b g cap:Nat)(p:Value)(cur:Array Value)(fr fz:Nat×Nat)(l:List UInt8)(w:World)(hbk:w.heap[b]?=some (.cells #[p,.slice (some ⟨g,0,none⟩) l.length cap] 77 fr))(hg:w.heap[g]?=some (.cells cur 5 fz))
 (h0:l≠[]) (hnc:l.length<=cap) (hcs:l.length<=cur.size) (h63:l.length<=9223372036854775807) (hcell:∀(j:Nat)(x:UInt8),l[j]?=some x->cur[j]?=some (.int .u8 x.toNat)) :
 Calls prog 38 #[.pointer (some ⟨b,0,none⟩)] w λe w'=>e = .returned (.string ⟨l.toArray⟩)/\w'=w.drew.freeze ⟨g,0,none⟩ l.length:=by
 have hl0:l.length≠0:=by simpa using h0
 have c1:w.drew.cell? ⟨b,1,none⟩=some (.slice (some ⟨g,0,none⟩) l.length cap):=by
  have:w.drew.heap[b]?=some (.cells #[p,.slice (some ⟨g,0,none⟩) l.length cap] 77 fr):=hbk;rw[Lib.cell_of_heap this];rfl
 have hSD:(Builtin.unsafeSliceData_ #[75] 145 #[.slice (some ⟨g,0,none⟩) l.length cap]).run prog w.drew = .ok (.pointer (some ⟨g,0,none⟩)) w.drew :=
  Lib.run_unsafeSliceData_row _ _ _ _ _ _ AS
 have hUS:(Builtin.unsafeString_ #[145,3] 9 #[.pointer (some ⟨g,0,none⟩),.int .i64 l.length]).run prog w.drew = .ok (.string ⟨l.toArray⟩) (w.drew.freeze ⟨g,0,none⟩ l.length):=by
  refine Lib.run_unsafeString_row w.drew 145 3 9 5 underlying145 (by kernel_rfl) g cur.size (by have hg':w.drew.heap[g]?=some (.cells cur 5 fz):=hg;simp[World.shape?,hg']) l h0 hcs h63 ?_;intro j x hx;have hg':w.drew.heap[g]?=some (.cells cur 5 fz):=hg;have:=hcell j x hx;have e:(⟨g,0,none⟩:Addr).add j=⟨g,j,none⟩:=by
   by_cases hj:j=0;·subst hj;simp[Addr.add]
   .simp[Addr.add,hj]
  rw[e];unfold World.cell?;dsimp only;rw[hg'];simpa using this
 have mixed:prog.follows .mixedOrders=true:=rfl;have u126:=run_underlying underlying77;have u124:=run_underlying underlying74;have u59:=run_underlying underlying75;have u183:=run_underlying underlying145;have u3:=run_underlying underlying3;have u9:=run_underlying underlying9;have u5:=run_underlying underlying5
 go_enter func38,ntmps38
 go_wp2
 go_region_o
 all_goals (go_wp2;go_ret;exact⟨rfl,rfl⟩)
theorem aLl:∃ j,prog.info? 77=some j/\j.size=2:=B2.1 (by kernel_rfl:(prog.info? 77).map (·.size)=some 2)
theorem aTX:liesAt prog prog.depth 77 (2/prog.cellsOf 77) 0 77 1=true:=by kernel_rfl
theorem aFr(b:Nat)(w:World)(h0:w.cell? ⟨b,0,none⟩=some (.pointer none))(hsh:w.shape? b=some (77,2))(hfz:w.frozen? ⟨b,0,none⟩=false) :
 Calls prog 92 #[.pointer (some ⟨b,0,none⟩)] w λe w'=>e = .returned (.tuple #[])/\w'=w.setCell ⟨b,0,none⟩ (.pointer (some ⟨b,0,none⟩)):=by
 obtain⟨j,hj,hjs⟩:=aLl;have mixed:prog.follows .mixedOrders=true:=rfl;have u126:=run_underlying underlying77;have u124:=run_underlying underlying74;have u215:=run_underlying underlying183;have u9:=run_underlying underlying9;have u4:=run_underlying underlying4
 go_enter func92,ntmps92
 go_wp2
 rw[Lib.run_to_unsafe w ⟨b,0,none⟩ underlying74 underlying183 hj (by rw[hjs];decide) hsh (Nat.zero_lt_succ 1)];simp only[Result.andThen];rw[Oper.upon_value]
 go_wp2
 rw[run_callFunc_extern func120 (by kernel_rfl) (by kernel_rfl) (by kernel_rfl) (e:=Extern.AbiNoEscape.same) (by kernel_rfl)];rw[Lib.run_noEscape];simp only[Result.andThen];rw[Oper.upon_value]
 go_wp2
 rw[Lib.run_from_unsafe w ⟨b,0,none⟩ underlying183 underlying74 hj hsh aTX];simp only[Result.andThen];rw[Oper.upon_value]
 go_wp2
 go_end0
 exact⟨rfl,rfl⟩
theorem aHJ(b:Nat)(w:World)(h0:w.cell? ⟨b,0,none⟩=some (.pointer (some ⟨b,0,none⟩))) :
 Calls prog 92 #[.pointer (some ⟨b,0,none⟩)] w λe w'=>e = .returned (.tuple #[])/\w'=w:=by
 obtain⟨j,hj,hjs⟩:=aLl;have mixed:prog.follows .mixedOrders=true:=rfl;have u126:=run_underlying underlying77;have u124:=run_underlying underlying74;have u215:=run_underlying underlying183;have u9:=run_underlying underlying9;have u4:=run_underlying underlying4
 go_enter func92,ntmps92
 go_wp2
 rw[Lib.run_neq_ptr_same w _ underlying74 hj]
 go_wp2
 go_end0
 exact⟨rfl,rfl⟩
section
variable{D:Nat->Option XFn}{Y:Nat->Option YI}{r:Nat->Option Nat}{h:XH}{H:Hp}{B:Base}
def aHl:List AV->XH->Option (AV×XH):=λxs h=>match xs with
 | [.bp b]=>match hat h b with
   | some (.blk _ (.cells true (.nilpt::l)))=>some (.tup [],h.set b (ab (.pt b 0::l)))
   | some (.blk _ (.cells true (.pt b' 0::_)))=>if b'=b then some (.tup [],h) else none
   | _=>none
 | _=>none
theorem aHF{b:Nat}{g:Bool}{x:ABlk}(h0:hat h b=some (.blk g x)):aH h b=some x:=by unfold aH;rw[h0]
theorem aJv{b:Nat}{w:World}{c:Array Value}{e:TypeId}{fr:Nat×Nat}{v:Value}(hb:w.heap[b]?=some (.cells c e fr))(j:Nat)(hv:c[j]?=some v):w.cell? ⟨b,j,none⟩=some v:=by
 unfold World.cell?
 grind
theorem aPX:iB D 92 aHl:=by
 intro B Y r h H xs ys v h' sh hr hx;unfold aHl at hx;split at hx
 .rename_i b
  obtain⟨y,as1,rfl,h1,h2⟩:=hr.inv;obtain⟨c,rfl,hrb⟩:=aPF h1;rw[h2.nil_inv];split at hx
  .rename_i g l hb
   cases hx;obtain⟨g',cs',_,k2,k3,_⟩:=sh.cells hrb (aHF hb);obtain⟨z,l',rfl,k4,k5⟩:=k3.inv;rw[aDI k4]at k2;refine⟨λvs w=>call92 vs w,λF w vs hB st ha=>?_⟩;obtain⟨v1,vs1,rfl,a1,a2⟩:=ha.cons1;rw[a2.nil1];cases a1 with
   | bp _ carr fr hcb hsz =>
   obtain⟨o,ho,hrb'⟩:=st.blk c _ k2;rw[hcb]at ho;simp only[oSI]at ho;subst ho;cases hrb' with
   | cells _ _ _ _ _ hfr hl hone hcells =>
   have hlt:c<w.heap.size:=(F9.1 hcb).1;obtain⟨v0,hv0⟩:∃ v0,carr[0]?=some v0:=⟨carr[0]'AS,E8 _⟩;have hn:=hcells 0 _ v0 rfl hv0;cases hn;refine callsIn_wide.2 ((aFr c w (aJv hcb 0 hv0) (by simp[World.shape?,hcb,hsz,aUE]) (by
    have:=hfr 0 AS;unfold World.frozen?
    grind)).mono ?_)
   rintro e w' ⟨rfl,rfl⟩;have hheap:(w.setCell ⟨c,0,none⟩ (.pointer (some ⟨c,0,none⟩))).heap=w.heap.setIfInBounds c (.cells (carr.setIfInBounds 0 (.pointer (some ⟨c,0,none⟩))) aUE fr):=by
    apply aD1;intro j;rw[H8];simp only[World.setCell,Array.getElem?_modify]
    grind
   obtain⟨e1,e2⟩:=nE (w':=w.setCell ⟨c,0,none⟩ (.pointer (some ⟨c,0,none⟩))) (y:=.cells true (.pt c 0::l')) st k2 rfl hcb hheap ⟨rfl,rfl,rfl⟩ (λc1 e1 fr1 hh=>by grind) (λF1 w1 hu=>by
    refine .cells true _ _ _ fr (λi hi=>hfr i (by grind)) (by grind) (λi v hv=>?_) (λi a v ha hv=>?_)
    .rw[H8]at hv
     split at hv
     .split at hv
      .cases hv;rfl
      .cases hv
     grind
    .rw[H8]at hv
     split at hv
     .rename_i hi0
      subst hi0;split at hv
      .cases hv
       simp only[F6,oSI]at ha;subst ha;exact .pt _ _
      .cases hv
     .rename_i hi0
      obtain⟨m,rfl⟩:∃ m,i=m+1:=⟨i-1,by omega⟩;exact(hcells (m+1) a v (by grind) hv).up hu)
   refine⟨.tuple #[],.tup [],F,_,rfl,e1,e2,.tup _ _ rfl (by simp),r,DL.Sub.refl r,sh.turn hb hrb (.cells c false true _ _ (RnL.cons (.pt _ _ _ hrb) k5) (by simp)),.tup _ _ rfl (by simp)⟩
  .rename_i g b' l hb
   split at hx
   .rename_i hbb
    cases hx;subst hbb;obtain⟨g',cs',_,k2,k3,_⟩:=sh.cells hrb (aHF hb);obtain⟨z,l',rfl,k4,k5⟩:=k3.inv;obtain⟨c',rfl,hr'⟩:=oA k4;rw[hrb]at hr';cases hr';refine⟨λvs w=>call92 vs w,λF w vs hB st ha=>?_⟩;obtain⟨v1,vs1,rfl,a1,a2⟩:=ha.cons1;rw[a2.nil1];cases a1 with
    | bp _ carr fr hcb hsz =>
    obtain⟨o,ho,hrb'⟩:=st.blk c _ k2;rw[hcb]at ho;simp only[oSI]at ho;subst ho;cases hrb' with
    | cells _ _ _ _ _ hfr hl hone hcells =>
    obtain⟨v0,hv0⟩:∃ v0,carr[0]?=some v0:=⟨carr[0]'AS,E8 _⟩;have hn:=hcells 0 _ v0 rfl hv0;cases hn;refine callsIn_wide.2 ((aHJ c w (aJv hcb 0 hv0)).mono ?_);rintro e w' ⟨rfl,rfl⟩;exact⟨.tuple #[],.tup [],F,H,rfl,Ext.refl _ _ _,st,.tup _ _ rfl (by simp),r,DL.Sub.refl r,sh,.tup _ _ rfl (by simp)⟩
   .cases hx
  .cases hx
 .cases hx
def aCw:List AV->Option (List UInt8)
 | []=>some []
 | .int .u8 n::r=>if 0<=n/\n<256 then (aCw r).map (UInt8.ofNat n.toNat :: ·) else none
 | _=>none
theorem aJz:∀{bs:List AV}{l:List UInt8},aCw bs=some l->l.length=bs.length/\∀(j:Nat)(x:UInt8),l[j]?=some x->bs[j]?=some (.int .u8 x.toNat)
 | [],l,h=>by grind [aCw]
 | v::bs,l,h=>by
   unfold aCw at h;split at h;·rename_i h0;cases h0
   .rename_i n r h0
    cases h0;split at h
    .rename_i hn
     cases hl:aCw bs with
     | none=>rw[hl]at h;cases h
     | some l' =>
       rw[hl]at h;simp only[D1,oSI]at h;subst h;obtain⟨h1,h2⟩:=aJz hl;refine⟨by simp[h1],λj x hj=>?_⟩;cases j with
       | zero =>
         simp only[F6,oSI]at hj;subst hj;have:((UInt8.ofNat n.toNat).toNat:Int)=n:=by
          rw[aD9];have:n.toNat%2^8=n.toNat:=M4 AS;rw[this];omega
         rw[this];rfl
       | succ j=>exact h2 j x (by simpa using hj)
    .cases h
   .cases h
def aIG:List AV->XH->Option (AV×XH):=λxs h=>match xs with
 | [.bp b]=>match hat h b with
   | some (.blk _ (.cells _ [_,.sb g n]))=>match hat h g with
     | some (.blk _ (.cells true bs))=>match aCw (bs.take n)with
       | some (x::l)=>if n<=bs.length/\g≠b/\n<=1000000 then some (.str ⟨⟨x::l⟩⟩,h.set g none) else none
       | _=>none
     | _=>none
   | _=>none
 | _=>none
theorem xK{w:World}{g n:Nat}{c:Array Value}{e:TypeId}{fr:Nat×Nat}(hg:w.heap[g]?=some (.cells c e fr)):∃ fr',(w.drew.freeze ⟨g,0,none⟩ n).heap[g]?=some (.cells c e fr')/\(∀ j,j≠g->(w.drew.freeze ⟨g,0,none⟩ n).heap[j]?=w.heap[j]?) /\
 (w.drew.freeze ⟨g,0,none⟩ n).heap.size=w.heap.size/\SameIO w (w.drew.freeze ⟨g,0,none⟩ n):=by
 unfold World.freeze;split;·exact⟨fr,hg,λ_ _=>rfl,rfl,⟨rfl,rfl,rfl⟩⟩
 .have h0:w.drew.heap=w.heap:=rfl
  refine⟨if fr.1==fr.2 then (0,0+n) else (min fr.1 0,max fr.2 (0+n)),?_,λj hj=>?_,by simp[h0],⟨rfl,rfl,rfl⟩⟩;all_goals grind
theorem aVI:iB D 38 aIG:=by
 intro B Y r h H xs ys v h' sh hr hx;unfold aIG at hx;split at hx
 .rename_i b
  obtain⟨y,as1,rfl,h1,h2⟩:=hr.inv;obtain⟨c,rfl,hrb⟩:=aPF h1;rw[h2.nil_inv];split at hx
  .rename_i fl wr a0 g n hb
   split at hx
   .rename_i fl2 bs hg
    split at hx
    .rename_i x l hbl
     split at hx
     .rename_i hc
      cases hx;obtain⟨_,cs',_,k2,k3,_⟩:=sh.cells hrb (aHF hb);obtain⟨z0,l0,rfl,k4,k5⟩:=k3.inv;obtain⟨z1,l1,rfl,k6,k7⟩:=k5.inv;rw[k7.nil_inv]at k2;obtain⟨gc,rfl,hrg⟩:=aPD k6;obtain⟨_,bs',_,m2,m3,_⟩:=sh.cells hrg (aHF hg);obtain⟨hbl1,hbl2⟩:=aJz hbl;have hlen:(x::l).length=n:=by grind
      have hne:gc≠c:=λe=>hc.2.1 (sh.inj g b c _ _ hg hb (e▸hrg) hrb);refine⟨λvs w=>call38 vs w,λF w vs hB st ha=>?_⟩;obtain⟨v1,vs1,rfl,a1,a2⟩:=ha.cons1;rw[a2.nil1];cases a1 with
      | bp _ carr fr hcb hsz =>
      obtain⟨o,ho,hrb'⟩:=st.blk c _ k2;rw[hcb]at ho;simp only[oSI]at ho;subst ho;cases hrb' with
      | cells _ _ _ _ _ hfr hl hone hcells =>
      obtain⟨v0,hv0⟩:∃ v0,carr[0]?=some v0:=⟨carr[0]'AS,E8 _⟩;obtain⟨v1,hv1⟩:∃ v1,carr[1]?=some v1:=⟨carr[1]'AS,E8 _⟩;have hs:=hcells 1 _ v1 rfl hv1;cases hs with
      | sb _ _ cap gcur gfr hgb hcap hle =>
      have hcarr:carr = #[v0,.slice (some ⟨gc,0,none⟩) n cap]:=by
       grind
      rw[hcarr]at hcb;obtain⟨o2,ho2,hrg'⟩:=st.blk gc _ m2;rw[hgb]at ho2;simp only[oSI]at ho2;subst ho2;cases hrg' with
      | cells _ _ _ _ _ hfr2 hl2 hone2 hcells2 =>
      have hl2':bs.length=bs'.length:=m3.1;rw[<-hlen]at hcb;refine callsIn_wide.2 ((aYZ c gc cap v0 gcur fr gfr (x::l) w hcb hgb (by simp) AS AS AS (λj u hj=>?_)).mono ?_)
      .have hb1:=hbl2 j u hj
       rw[List.getElem?_take]at hb1;split at hb1
       .obtain⟨u',hu1,hu2⟩:=m3.get hb1
        have hlt:j<bs'.length:=(B6.1 hu1).1;obtain⟨q,hq⟩:∃ q,gcur[j]?=some q:=⟨gcur[j]'AS,E8 _⟩;have h9:=hcells2 j u' q hu1 hq;rw[eU hu2]at h9;cases h9;exact hq
       .cases hb1
      .rintro e w' ⟨rfl,rfl⟩
       obtain⟨fr',f1,f2,f3,f4⟩:=xK (n:=(x::l).length) hgb;have hE:Ext F w H F (w.drew.freeze ⟨gc,0,none⟩ (x::l).length) (pP H gc):=by
        refine⟨λ_ h=>h,λ_ h=>.inl h,λj hj=>?_,λj hj=>?_,by omega,λj hj hw=>?_,λj c1 e1 fr1 hj=>?_,f4⟩
        .unfold pP at hj
         grind
        .left
         unfold wE at hj ⊢;unfold pP at hj
         grind
        .refine f2 j λe=>?_
         subst e;unfold wE at hw;rw[m2]at hw;simp[ABlk.wr]at hw
        grind
       have hU:=hE.up st;refine⟨.string ⟨(x::l).toArray⟩,.str ⟨⟨x::l⟩⟩,F,pP H gc,rfl,hE,⟨λj hj=>by rw[f3];exact st.lt j hj,λj y hj=>?_,λj y hj=>?_⟩,.str _,r,DL.Sub.refl r,⟨λb1 c1 hb1=>by simpa using sh.dom b1 c1 hb1,λb1 b2 c1 x1 x2 q1 q2 q3 q4=>?_,λb1 x1 q1=>?_,sh.gh.elim λG hG=>⟨_,hG.drop hg hrg⟩⟩,.str _⟩
       .unfold pP at hj
        split at hj;·cases hj
        .exact st.dis j y hj
       .unfold pP at hj
        split at hj;·cases hj
        .rename_i hjg
         obtain⟨o,o1,o2⟩:=st.blk j y hj;exact⟨o,by grind,o2.up hU⟩
       .have live:∀ b z,hat (h.set g none) b=some z->hat h b=some z:=λb z hz=>by
         grind [gO]
        exact sh.inj b1 b2 c1 x1 x2 (live _ _ q1) (live _ _ q2) q3 q4
       .rw[gO]at q1
        split at q1;·cases q1
        .rename_i hcd
         obtain⟨c2,y2,w1,w2,w3⟩:=sh.blk b1 x1 q1;refine⟨c2,y2,w1,?_,w3⟩;unfold pP;rw[if_neg];·exact w2
         .intro e
          subst e;exact hcd ⟨sh.inj b1 g _ x1 _ q1 hg w1 hrg,uL hg⟩
     .cases hx
    .cases hx
   .cases hx
  .cases hx
 .cases hx
theorem aAc{s t:ByteArray}{as':List AV}(hr:RnL D Y r [.str s,.str t] as'):as'=[.str s,.str t]:=by
 obtain⟨a,as1,rfl,h1,h2⟩:=hr.inv;obtain⟨b,as2,rfl,h3,h4⟩:=h2.inv
 grind [dM,RnL]
def aDR:List AV->XH->Option (AV×XH):=λxs h=>match xs with
 | [.str s,.str p]=>if s.size<=1000000 then some (.bool (Lib.hasSuffix s.data.toList p.data.toList),h) else none
 | _=>none
theorem aVL:iB D 42 aDR:=by
 intro B Y r h H xs ys v h' sh hr hx;unfold aDR at hx;split at hx
 .rename_i s p
  split at hx
  .rename_i hn
   cases hx;rw[aAc hr];refine FnW.shelf (r:=λ_=>.bool (Lib.hasSuffix s.data.toList p.data.toList)) (λvs w=>call42 vs w) (λF w vs=>.bool _) (λF w vs hl ha=>?_) ⟨r,DL.Sub.refl r,sh,.bool _⟩;rw[ha.strStr];exact(Tryz.strings_HasSuffix s p w AS).mono λe w' ⟨he,hw⟩=>⟨he,hw▸Below.refl _ _⟩
  .cases hx
 .cases hx
def sL:List AV->XH->Option (AV×XH):=λxs h=>match xs with
 | [.str s,.str p]=>some (.tup [.str ⟨⟨Lib.trimPrefix s.data.toList p.data.toList⟩⟩,.bool (Lib.hasPrefix s.data.toList p.data.toList)],h)
 | _=>none
theorem aVH:iB D 18 sL:=by
 intro B Y r h H xs ys v h' sh hr hx;unfold sL at hx;split at hx
 .rename_i s p
  cases hx;rw[aAc hr];have two:∀(F:Nat->Prop)(w:World),Rv F w (.tup [.str ⟨⟨Lib.trimPrefix s.data.toList p.data.toList⟩⟩,.bool (Lib.hasPrefix s.data.toList p.data.toList)]) (.tuple #[.string ⟨(Lib.trimPrefix s.data.toList p.data.toList).toArray⟩,.bool (Lib.hasPrefix s.data.toList p.data.toList)]):=λF w =>
   .tup _ _ rfl λi x y hx hy=>by
    match i with
    | 0=>simp at hx hy;subst hx hy;exact .str _
    | 1=>simp at hx hy;subst hx hy;exact .bool _
    | k+2=>simp at hx
  refine FnW.shelf (r:=λ_=>.tuple #[.string ⟨(Lib.trimPrefix s.data.toList p.data.toList).toArray⟩,.bool (Lib.hasPrefix s.data.toList p.data.toList)]) (λvs w=>call18 vs w) (λF w vs=>two F w) (λF w vs hl ha=>?_) ⟨r,DL.Sub.refl r,sh,(Gd.tup _ (λc hc=>by
   simp only[C4,H6,AAh]at hc;rcases hc with rfl|rfl;·exact .str _
   .exact .bool _)).rn⟩
  rw[ha.strStr];exact(Tryz.strings_CutPrefix s p w).mono λe w' ⟨he,hw⟩=>⟨he,hw▸Below.refl _ _⟩
 .cases hx
def aDQ:List AV->XH->Option (AV×XH):=λxs h=>match xs with
 | [.str s,.str ⟨⟨[c]⟩⟩]=>if c.toNat<128/\s.size<=1000000 then some (.str ⟨⟨Lib.trimRightB s.data.toList c⟩⟩,h) else none
 | _=>none
theorem aVF:iB D 100 aDQ:=by
 intro B Y r h H xs ys v h' sh hr hx;unfold aDQ at hx;split at hx
 .rename_i s c
  split at hx
  .rename_i hn
   cases hx;rw[aAc hr];refine FnW.shelf (r:=λ_=>.string ⟨(Lib.trimRightB s.data.toList c).toArray⟩) (λvs w=>call100 vs w) (λF w vs=>.str _) (λF w vs hl ha=>?_) ⟨r,DL.Sub.refl r,sh,.str _⟩;rw[ha.strStr];exact(Tryz.strings_TrimRight_one s c hn.1 w AS).mono λe w' ⟨he,hw⟩=>⟨he,hw▸Below.refl _ _⟩
  .cases hx
 .cases hx
def aIH:List AV->XH->Option (AV×XH):=λxs h=>match xs with
 | [.fs rows,.str x]=>match wI rows with
   | some l=>if l.length<=1000000 then some (.bool (Lib.containsS l x),h) else none
   | none=>none
 | _=>none
theorem aVK:iB D 48 aIH:=by
 intro B Y r h H xs ys v h' sh hr hx;unfold aIH at hx;split at hx
 .rename_i rows x
  split at hx
  .rename_i l hl
   split at hx
   .rename_i hn
    cases hx;obtain⟨a,as1,rfl,h1,h2⟩:=hr.inv;obtain⟨b,as2,rfl,h3,h4⟩:=h2.inv;rw[(aAT h1).1,dM h3,h4.nil_inv];obtain⟨hlen,hget⟩:=aBB hl;refine FnW.shelf (r:=λ_=>.bool (Lib.containsS l x)) (λvs w=>call48 vs w) (λF w vs=>.bool _) (λF w vs hlt ha=>?_) ⟨r,DL.Sub.refl r,sh,.bool _⟩;obtain⟨v1,vs1,rfl,k1,k2⟩:=ha.cons1;obtain⟨v2,vs2,rfl,k3,k4⟩:=k2.cons1;rw[k4.nil1];cases k3;have none:∀(a:Option Addr)(c:Nat),rows=[]->Calls Tryz.prog 48 #[.slice a 0 c,.string x] w λe w'=>e = .returned (.bool (Lib.containsS l x))/\Below w.heap.size w w':=λa c h0=>by
     subst h0;have:l=[]:=D0 AS;subst this;exact(Tryz.slices_Contains_string_empty a c x w).mono λe w' ⟨he,hw⟩=>⟨by rw[he];rfl,hw▸Below.refl _ _⟩
    cases k1 with
    | fs0 a cap=>grind
    | fs rows blk off s cap g hcap hF hs hc ho hv =>
      by_cases h0:rows=[];·grind
      .have hs1:s=1:=by
        obtain⟨row,rest,rfl⟩:=aD8 h0;have hl0:l.length=rest.length+1:=AS
        obtain⟨y,hy0⟩:∃ y,l[0]?=some y:=⟨_,B7 AS⟩
        grind [List.getElem?_cons_zero]
       subst hs1;have hcl:=Tryz.slices_Contains_string blk off l.length cap l x w (B5 _) AS (λj hj=>by
        obtain⟨y,hy⟩:∃ y,l[j]?=some y:=⟨_,B7 hj⟩;have h5:=hget j y hy;have h6:=hc j _ 0 _ h5 rfl;have h7:=hv j _ 0 _ h5 rfl;rw[C7,hy];generalize g j 0=z at h6 h7;cases h7
        grind)
       rw[List.take_length]at hcl;rw[<-hlen];exact hcl.mono λe w' ⟨he,hw⟩=>⟨he,hw▸Below.refl _ _⟩
   .cases hx
  .cases hx
 .cases hx
end
def p75(r:Nat):Bool:=decide (r<32)||decide (126<r)
theorem bEV(x:Nat)(hx:x<=1114111)(W:World):FnGives prog 98 #[] #[encR x] (.bool (p75 x)) W:=by
 unfold FnGives;have u21:=run_underlying underlying21;have u4:=run_underlying underlying4;show Calls prog 98 (#[encR x] ++ #[]) W _;by_cases h1:x<32
 .have e:p75 x=true:=by simp[p75,h1]
  rw[e];have h1':(x:Int)<32:=AS
  go_enter func98,ntmps98
  go_wp2
  all_goals (go_ret;exact⟨rfl,0,rfl⟩)
 .by_cases h2:126<x
  .have e:p75 x=true:=by simp[p75,h2]
   rw[e];have h1':¬(x:Int)<32:=AS
   have h2':(126:Int)<x:=AS
   go_enter func98,ntmps98
   go_wp2
   all_goals (go_ret;exact⟨rfl,0,rfl⟩)
  .have e:p75 x=false:=by simp[p75];omega
   rw[e];have h1':¬(x:Int)<32:=AS
   have h2':¬(126:Int)<x:=AS
   go_enter func98,ntmps98
   go_wp2
   all_goals (go_ret;exact⟨rfl,0,rfl⟩)
def zD:List UInt8->Bool
 | []=>false
 | b::r=>decide (b.toNat<32)||(decide (126<b.toNat)||zD r)
theorem aNq(s:ByteArray)(pos:Nat)(h:128<=(s.get! pos).toNat):126<(Utf8.decode s pos).1:=by
 have h0:¬(s.get! (pos+0)).toNat<128:=by
  grind
 unfold Utf8.decode;dsimp only;rw[if_neg h0];split
 .split
  .omega
  .decide
 .split
  .split
   .grind
   .decide
  .split
   .split
    .grind
    .decide
   .decide
theorem aNp(s:ByteArray)(pos:Nat)(h:(s.get! pos).toNat<128):Utf8.decode s pos=((s.get! pos).toNat,1):=by
 have h0:(s.get! (pos+0)).toNat<128:=h;unfold Utf8.decode
 grind
theorem aQN{s:ByteArray}{pos:Nat}{b:UInt8}{l:List UInt8}(h:s.data.toList.drop pos=b::l):s.get! pos=b/\pos<s.size/\s.data.toList.drop (pos+1)=l:=by
 have hlt:pos<s.data.toList.length:=by
  grind [List.drop_eq_nil_of_le]
 have hsz:s.size=s.data.toList.length:=by rfl
 rw[N6 hlt]at h;simp only[aF8]at h;refine⟨?_,by omega,h.2⟩;rw[<-h.1];have:pos<s.data.size:=AS
 show s.data[pos]! = _
 grind
theorem aLN(s:ByteArray):∀(l:List UInt8)(f pos:Nat),s.data.toList.drop pos=l->l.length<=f->decide (0<=Lib.idxFuncFrom p75 true s f pos)=zD l
 | [],f,pos,h,hf=>by
   have hsz:s.size=s.data.toList.length:=by rfl
   grind [Lib.idxFuncFrom_end,zD]
 | b::l,0,pos,h,hf=>by simp at hf
 | b::l,f+1,pos,h,hf=>by
   obtain⟨h1,h2,h3⟩:=aQN h;unfold Lib.idxFuncFrom;rw[if_pos h2];by_cases hb:b.toNat<128
   .rw[aNp s pos (by grind),h1]
    dsimp only;by_cases hp:p75 b.toNat=true;·grind [p75,zD]
    .rw[if_neg hp,aLN s l f (pos+1) h3 (by grind)]
     grind [zD,p75]
   .have hd:=aNq s pos (by grind)
    grind [p75,zD]
section
variable{D:Nat->Option XFn}{Y:Nat->Option YI}{r:Nat->Option Nat}{h:XH}{H:Hp}{B:Base}
def aLv:List AV->XH->Option (AV×XH):=λxs h=>match xs with
 | [.str s,.fn (.func 98) [] []]=>some (.bool (zD s.data.toList),h)
 | _=>none
theorem aVG:iB D 97 aLv:=by
 intro B Y r h H xs ys v h' sh hr hx;unfold aLv at hx;split at hx
 .rename_i s
  cases hx;obtain⟨a,as1,rfl,h1,h2⟩:=hr.inv;obtain⟨b,as2,rfl,h3,h4⟩:=h2.inv;rw[dM h1,h4.nil_inv];have hb:b = .fn (.func 98) [] []:=by
   cases h3 with
   | fn _ _ ys _ vs _ hl1 _ hl2 _ =>
     grind
  rw[hb];refine FnW.shelf (r:=λ_=>.bool (zD s.data.toList)) (λvs w=>call97 vs w) (λF w vs=>.bool _) (λF w vs hl ha=>?_) ⟨r,DL.Sub.refl r,sh,.bool _⟩;obtain⟨v1,vs1,rfl,k1,k2⟩:=ha.cons1;obtain⟨v2,vs2,rfl,k3,k4⟩:=k2.cons1;rw[k4.nil1];cases k1;cases k3 with
  | fn _ _ _ fv cv hl1 hl2 _ _ =>
    have e1:fv = #[]:=by
     grind
    have e2:cv = #[]:=by
     grind
    rw[e1,e2];have hc:=Tryz.strings_ContainsFunc_runes 98 #[] (λvs w=>call98 vs w) p75 s w (λW x hx _=>bEV x hx W);have he:decide (0<=Lib.idxFunc p75 true s)=zD s.data.toList:=aLN s s.data.toList s.size 0 rfl (by simp_all)
    grind
 .cases hx
end
end
section
open Go Go.DL Go.Proofs.Tryz
noncomputable def ops56:Array Oper:=match f22.body with
 | some (.seq (.region _ ops _) _)=>ops
 | _ => #[]
noncomputable def rest56:Code:=match f22.body with
 | some (.seq (.region _ _ _) c)=>c
 | _=>.skip
theorem aXX:f22.body=some (.seq (.region 0 ops56 false) rest56):=rfl
theorem aXd:∃ o,ops56[0]?=some o/\o.dst=some 4/\o.guard=none/\o.op = .call { callee:=.builtin .recover,args := #[],argTypes := #[] }:=⟨_,rfl,rfl,rfl,rfl⟩
theorem aXc:∃ o,ops56[1]?=some o/\o.dst=some 5/\o.guard=none/\o.op = .typeAssert (.tmp 4) 20 48 true:=⟨_,rfl,rfl,rfl,rfl⟩
def pN:List DOper:=[⟨0,some 3,.mv (.t 5),none⟩,⟨0,some 6,.ext (.t 3) 0,none⟩,⟨0,some 7,.ext (.t 3) 1,none⟩,⟨0,some 1,.alloc [.int .i64 0],none⟩,⟨0,none,.store 1 (.t 1) (.t 6) [],none⟩,⟨0,some 2,.mv (.t 7),none⟩]
def aAl:List DOper:=[⟨0,some 8,.mv (.t 2),none⟩]
def yS:List DOper:=[⟨0,some 9,.fld 0 (.t 1),none⟩,⟨0,some 10,.load false 1 (.t 9),none⟩,⟨0,some 11,.callf false (.c (.fn (.func 23) [] [])) [.t 10] [],none⟩,
 ⟨0,some 12,.bin .add (.c (.str ⟨#[110,111,32]⟩)) (.t 11),none⟩,⟨0,none,.store 1 (.t 0) (.t 12) [],none⟩]
noncomputable def ops56m:Array Oper:=match f22.body with
 | some (.seq _ (.seq (.region _ ops _) _))=>ops
 | _ => #[]
noncomputable def ops56l:Array Oper:=match f22.body with
 | some (.seq _ (.seq _ (.cond _ (.region _ ops _) _)))=>ops
 | _ => #[]
theorem aMS:rest56 = .seq (.region 1 ops56m false) (.cond (.tmp 8) (.region 2 ops56l false) .skip):=rfl
theorem aTC:((ops56.toList.drop 2).mapM (aGm prog ops56))=some pN:=by kernel_rfl
theorem aXO:xW prog 13 ops56m false=some aAl:=by kernel_rfl
theorem aUx:xW prog 13 ops56l false=some yS:=by kernel_rfl
theorem aWH:ops56.size=8:=rfl
theorem aZo:f22.results = #[]:=rfl
theorem aZM:f22.ntmps=13:=rfl
noncomputable def code21:Code:=match f8.body with
 | some (.seq _ (.seq _ c))=>c
 | _=>.skip
noncomputable def r21_0:Array Oper:=match f8.body with
 | some (.seq (.region _ ops _) _)=>ops
 | _ => #[]
noncomputable def r21_1:Array Oper:=match f8.body with
 | some (.seq _ (.seq (.region _ ops _) _))=>ops
 | _ => #[]
theorem aXY:f8.body=some (.seq (.region 0 r21_0 false) (.seq (.region 1 r21_1 false) code21)):=rfl
theorem aZz:xW prog 41 r21_0 false=some [⟨0,some 4,.alloc [.str ⟨#[]⟩],none⟩]:=by kernel_rfl
theorem aZP:∃ o,r21_1[0]?=some o/\aGm prog r21_1 o=some ⟨0,some 7,.mkf (.func 22) [] [.t 4],none⟩:=⟨_,rfl,by kernel_rfl⟩
theorem bEY:∃ o,r21_1[1]?=some o/\o.dst=none/\o.guard=none/\o.op = .defer { callee:=.value (.tmp 7),args := #[],argTypes := #[] }:=⟨_,rfl,rfl,rfl,rfl⟩
theorem bCz:r21_1.size=2:=rfl
theorem aZN:f8.ntmps=41:=rfl
theorem aZp:f8.results.toList.mapM (aCF prog)=some [(4,some (false,1))]:=by kernel_rfl
section
variable{D:Nat->Option XFn}{B:Base}{Y:Nat->Option YI}{r:Nat->Option Nat}{h:XH}{H:Hp}{F:Nat->Prop}{w:World}
theorem aHG:∀(j:Nat)(d:DOper),pN[j]?=some d->Reads prog ops56 (2+j) d:=by
 intro j d hj;obtain⟨h1,h2⟩:=aBN aTC
 grind [qO]
theorem aNd:∀ d∈pN,aGl 13 d:=by
 intro d hd;simp only[pN,C4,H6,AAh]at hd;rcases hd with rfl|rfl|rfl|rfl|rfl|rfl<;>exact⟨by grind,rfl⟩
theorem aWw{run:fC}{runY:gR}(hf:FnS prog B D Y run)(hy:YS prog B D Y runY)(hm:prog.follows .mixedOrders=true)(hB:B.Up F w)(st:St F w H)(sh:SH D Y r h H){c o b:Nat}(hrc:r c=some b)
 {i:aSb} (hi1:i.hops=pN++aAl) (hi2:i.hlast=yS) (hi3:i.is=8) {v v':AV} {t:Bool} (hv:Rn D Y r v v') {h3:XH} (hx:zR i run runY (.pt c o) v t h=some h3)
 {x vv:Value} (hta:(Instr.typeAssert x 20 48 true).run prog w = .ok (.tuple #[vv,.bool t]) w) (hvv:Rv F w v' vv) {cs:List Frame} {Q:Exit->Act->List Frame->World->Prop} {a:Act} (ha:a.tmps.size=13) (hdf:a.defers=[])
 (ha4:a.eval (.tmp 4)=x) (ha0:a.tmps.getD 0 undef = .pointer (some ⟨b,o,none⟩)) (gi:GI F w)
 (hQ:∀ a' F' w' H' r',a'.defers=[]->Ext F w H F' w' H'->St F' w' H'->Sub r r'->SH D Y r' h3 H'->Q .normal a' cs w') :
 wpOpsIn Fence.wide 0 prog ops56 (λe a w=>Exit.thenS (rest56.wpSIn Fence.wide 0 prog Q) Q e a cs w) (List.range' 1 7) a w:=by
 obtain⟨o1,g1,g2,g3,g4⟩:=aXc;rw[aA9,wpOpsIn_cons];unfold wpOpIn;simp only[g1];have hw:Region.wanted o1 (yielded ops56 a.tmps)=true:=by unfold Region.wanted;rw[g3]
 rw[if_pos hw];refine⟨λ_ _=>trivial,?_⟩;have hs:(o1.semAt Fence.wide.round a.eval).run prog w = .ok (.value (.tuple #[vv,.bool t])) w:=by
  rw[Oper.semAt_eq _ _ _ (by grind)];simp[execOp,g4,ha4,hta]
 rw[hs,Oper.uponIn_value,g2];have hsr:SR D Y r (aCq (.pt c o) v t) h (aCq (.pt b o) v' t) H:=⟨sh,λj=>by
  unfold aCq;split;·exact .pt _ _ _ hrc
  .split
   .exact .tup _ _ rfl λi x y hx hy=>by
     match i with
     | 0=>grind
     | 1=>simp at hx hy;subst hx hy;exact .bool _
     | k+2=>simp at hx
   .exact .any _⟩
 have hre:RE F w (aCq (.pt b o) v' t) (a.put (some 5) (.tuple #[vv,.bool t])):=⟨λk=>by
  unfold aCq;have hsz5:5<a.tmps.size:=AS
  split
  .rename_i hk;subst hk
   simp only[Act.put,F7,H8]at ha0 ⊢;simp only[show ¬(5=0) by omega,AAd];rw[ha0];exact .pt _ _
  .split
   .rename_i hk;subst hk
    simp only[Act.put,F7,H8,AAe,hsz5,G5];exact .tup _ _ rfl λi x y hx hy=>by
     match i with
     | 0=>grind
     | 1=>simp at hx hy;subst hx hy;exact .bool _
     | k+2=>simp at hx
   .exact .any _,gi⟩
 unfold zR at hx;split at hx
 .rename_i e1 h1 hx1
  rw[hi1]at hx1;have R:=aMQ (lW (P:=prog) (B:=B) hf hy (pN++aAl) r _ h _ H e1 h1 (λenv' H'=>∃ r',Sub r r'/\SR D Y r' e1 h1 env' H') rfl hsr hx1 (λr' env' H' hs sr'=>⟨r',hs,sr'⟩));refine aDN (r:=none) (B:=B) (N:=13) pN 2 aHG aNd F w H _ _ (by simp_all) hB st hre R ?_;intro a3 F3 w3 env3 H3 s1 s2 s3 s4 s5 s6;show rest56.wpSIn Fence.wide 0 prog Q a3 cs w3;rw[aMS];have hB3:=hB.step st s3;refine wpSIn_seq (wpSIn_of_wpIn rfl (oZ (B:=B) (r:=none) (F:=F3) (H:=H3) (env:=env3) (N:=13) (draw:=false) hm aXO s1 hB3 s4 s5 s6 ?_));rintro a4 F4 w4 env4 H4 q1 q2 q3 q4 q5 ⟨r4,q6,q7⟩;show (Code.cond (.tmp 8) (.region 2 ops56l false) .skip).wpSIn Fence.wide 0 prog Q a4 cs w4;have hd4:a4.defers=[]:=by simp_all
  have E4:=s3.trans q3;have h8:=q7.re i.is;rw[hi3]at h8 hx;split at hx
  .rename_i h8t
   rw[h8t]at h8;have hev:a4.eval (.tmp 8) = .bool true:=by
    have:=q5.rv 8;rw[gN h8]at this;show a4.tmps.getD 8 undef=_;generalize a4.tmps.getD 8 undef=z at this;cases this;rfl
   refine wpSIn_cond (t:=true) hev ?_;simp only[B2]at hx;obtain⟨⟨e5,h5⟩,hx5,rfl⟩:=hx;rw[hi2]at hx5
   refine wpSIn_of_wpIn rfl (oZ (B:=B) (r:=none) (F:=F4) (H:=H4) (env:=env4) (N:=13) (draw:=false) hm aUx q1 (hB3.step s4 q3) q4 q5
    (lW (P:=prog) (B:=B) hf hy yS r4 _ h1 _ H4 e5 h5 (λenv' H'=>∃ r',Sub r r'/\SR D Y r' e5 h5 env' H') rfl q7 hx5 (λr' env' H' hs sr'=>⟨r',q6.trans hs,sr'⟩)) ?_)
   rintro a5 F5 w5 env5 H5 p1 p2 p3 p4 p5 ⟨r5,p6,p7⟩;exact hQ a5 F5 w5 H5 r5 (by grind) (E4.trans p3) p4 p6 p7.sh
  .rename_i h8t
   rw[h8t]at h8;simp only[oSI]at hx;subst hx;have hev:a4.eval (.tmp 8) = .bool false:=by
    have:=q5.rv 8;rw[gN h8]at this;show a4.tmps.getD 8 undef=_;generalize a4.tmps.getD 8 undef=z at this;cases this;rfl
   refine wpSIn_cond (t:=false) hev ?_;exact wpSIn_of_wpIn rfl (wpIn_skip (hQ a4 F4 w4 H4 r4 hd4 E4 q4 q6 q7.sh))
  .simp at hx
 .simp at hx
theorem aJB(vv:Value):(Instr.typeAssert (.iface 48 vv) 20 48 true).run prog w = .ok (.tuple #[vv,.bool true]) w:=by
 rfl
theorem aKU:(Instr.typeAssert .nilIface 20 48 true).run prog w = .ok (.tuple #[.agg #[.int .i64 0],.bool false]) w:=by
 rfl
theorem aXt{run:fC}{runY:gR}(hf:FnS prog B D Y run)(hy:YS prog B D Y runY)(hm:prog.follows .mixedOrders=true)(hB:B.Up F w)(st:St F w H)(sh:SH D Y r h H){c o b:Nat}(hrc:r c=some b)
 {i:aSb} (hi1:i.hops=pN++aAl) (hi2:i.hlast=yS) (hi3:i.is=8) {v v':AV} {t:Bool} (hv:Rn D Y r v v') {h3:XH} (hx:zR i run runY (.pt c o) v t h=some h3) {u:FrameMode} {R:Ending->FrameMode->World->Prop} {cval:Value}
 (hu:(t=true/\u = .panicking (pnc cval)/\Rv F w (.ifc 48 v') cval)\/(t=false/\u = .returning/\v' = .agg [.int .i64 0]))
 (hR:∀ F' w' H' r' u',settle u' = .returning->Ext F w H F' w' H'->St F' w' H'->Sub r r'->SH D Y r' h3 H'->R (.returned (.tuple #[])) u' w') :
 CallsDIn Fence.wide 0 prog 22 #[.pointer (some ⟨b,o,none⟩)] u w R:=by
 refine callsDIn_of_wpSIn func22 aXX trivial λc₀ cs hc0=>?_;rw[aZM];obtain⟨o0,g1,g2,g3,g4⟩:=aXd;refine wpSIn_seq (aEW g1 g3 (λ_ _=>trivial) (by simp[execOp,resolve,g4,invoke,builtin]) rfl ?_)
 have fin:∀(x vv:Value)(cs':List Frame)(u':FrameMode),cs'={ c₀ with mode:=u' }::cs->settle u' = .returning->(Instr.typeAssert x 20 48 true).run prog w = .ok (.tuple #[vv,.bool t]) w->Rv F w v' vv ->
  wpOpsIn Fence.wide 0 prog ops56 (λe a w=>Exit.thenS (rest56.wpSIn Fence.wide 0 prog (bodyPostS prog f22 c₀ cs R)) (bodyPostS prog f22 c₀ cs R) e a cs' w) (List.range' 1 (ops56.size-1))
   (Act.put { tmps := #[.pointer (some ⟨b,o,none⟩)]++Array.replicate (13 - #[Value.pointer (some ⟨b,o,none⟩)].size) undef,defers:=[] } o0.dst x) w:=by
  intro x vv cs' u' hcs hset hta hvv;rw[g2,aWH];refine aWw hf hy hm hB st sh hrc hi1 hi2 hi3 hv hx hta hvv (by simp[Act.put]) rfl (by simp[Act.put,Act.eval]) (by simp[Act.put]) (B.gi.up hB) ?_;intro a' F' w' H' r' k1 k2 k3 k4 k5;refine⟨k1,u',hcs,.tuple #[],?_,hR F' w' H' r' u' hset k2 k3 k4 k5⟩;simp[results,aZo]
 rcases hu with ⟨rfl,rfl,hc⟩|⟨rfl,rfl,rfl⟩
 .cases hc with
  | ifc _ _ vv hvv =>
  have hrec:recoverD (c₀::cs)=some (.iface 48 vv,{ c₀ with mode:=.panicking [{ v:=.iface 48 vv,recovered:=true }] }::cs):=by
   simp[recoverD,hc0,pnc]
  rw[hrec];exact fin _ vv _ _ rfl rfl (aJB vv) hvv
 .have hrec:recoverD (c₀::cs)=none:=by simp[recoverD,hc0]
  rw[hrec];exact fin _ (.agg #[.int .i64 0]) _ .returning (by rw[<-hc0]) rfl aKU (.agg _ _ rfl (λi v hv=>by
   match i with
   | 0=>simp at hv;subst hv;rfl
   | k+1=>simp at hv) (λi x y hx hy=>by
   match i with
   | 0=>simp at hx hy;subst hx hy;exact .int _ _
   | k+1=>simp at hx))
def b21:XCode:=(.seq (.reg [(0,false)] false [⟨0,(some 8),(.mv (.t 0)),none⟩,⟨0,(some 9),(.callf false (.c (.fn (.func 25) [] [])) [(.t 8)] []),none⟩,⟨0,(some 10),
 (.not (.t 9)),none⟩,⟨0,(some 11),(.callf false (.c (.fn (.func 24) [] [])) [(.t 10),(.c (.int .i64 9))] []),none⟩]) (.seq (.reg [(1,false)] false
 [⟨0,(some 12),(.mv (.t 1)),none⟩,⟨0,(some 13),(.callf false (.c (.fn (.func 26) [] [])) [(.t 12)] []),none⟩,⟨0,(some 5),(.alloc [(.str ⟨#[]⟩),
 .nilsl,.nilsl]),none⟩,⟨0,none,(.store 3 (.t 5) (.t 13) []),none⟩]) (.seq (.reg [(0,false),(5,true)] false [⟨0,(some 14),(.mv (.t 0)),none⟩,⟨0,
 (some 15),(.load true 3 (.t 5)),none⟩,⟨0,(some 16),(.callf false (.c (.fn (.func 27) [] [])) [(.t 14),(.t 15)] []),none⟩,⟨0,(some 6),(.mv (.t
 16)),none⟩]) (.seq (.seq (.reg [] false [⟨0,(some 17),(.mv (.t 6)),none⟩,⟨0,(some 18),(.eqn 2 false (.t 17) (.c .nilfn)),none⟩]) (.cond (.t 18)
 (.seq (.reg [(0,false),(5,true)] false [⟨0,(some 19),(.mv (.t 0)),none⟩,⟨0,(some 20),(.load true 3 (.t 5)),none⟩,⟨0,(some 21),(.callf false (.c
 (.fn (.func 28) [] [])) [(.t 19),(.t 20)] []),none⟩,⟨0,none,(.store 1 (.t 4) (.t 21) []),none⟩]) .ret) .skip)) (.seq (.reg [] false [⟨0,(some 22),
 (.mv (.t 0)),none⟩,⟨0,(some 23),(.nilck (.t 22)),none⟩,⟨0,(some 24),(.fld 6 (.t 23)),none⟩,⟨0,(some 25),(.load false 1 (.t 24)),none⟩,⟨0,
 (some 26),(.len false (.t 25)),none⟩,⟨0,(some 27),(.bin .lss (.t 26) (.c (.int .i64 300))),none⟩,⟨0,(some 28),(.callf false (.c (.fn (.func 24) []
 [])) [(.t 27),(.c (.int .i64 15))] []),none⟩]) (.seq (.reg [] false [⟨0,(some 29),(.mv (.t 6)),none⟩,⟨0,(some 30),(.callf false (.t 29) [] []),
 none⟩]) (.seq (.reg [(1,false)] false [⟨0,(some 31),(.mv (.t 0)),none⟩,⟨0,(some 32),(.mv (.t 0)),none⟩,⟨0,(some 33),(.nilck (.t 32)),none⟩,⟨0,
 (some 34),(.fld 6 (.t 33)),none⟩,⟨0,(some 35),(.load false 1 (.t 34)),none⟩,⟨0,(some 36),(.mv (.t 1)),none⟩,⟨0,(some 37),(.bslice 1 1 [(.str
 ⟨#[]⟩)] [(0,(1,(.t 36)))]),none⟩,⟨0,(some 38),(.app 1 16 (.t 35) (.t 37)),none⟩,⟨0,(some 39),(.nilck (.t 31)),none⟩,⟨0,(some 40),(.fld 6 (.t
 39)),none⟩,⟨0,none,(.store 1 (.t 40) (.t 38) []),none⟩]) (.seq (.reg [] false [⟨0,none,(.store 1 (.t 4) (.c (.str ⟨#[111,107]⟩)) []),none⟩])
 .ret))))))))
def saySay:aSb:=⟨41,[(4,some (false,1))],[⟨0,some 4,.alloc [.str ⟨#[]⟩],none⟩],4,7,b21,110,.agg [.int .i64 0],pN++aAl,8,yS⟩
theorem aGn:eS prog 41 code21=some b21.erase:=by kernel_rfl
theorem aZK:tQ b21=true:=by kernel_rfl
theorem aZO:xD b21=true:=by kernel_rfl
end
noncomputable def m58a:Array Oper:=match f24.body with
 | some (.seq (.region _ ops _) _)=>ops
 | _ => #[]
noncomputable def m58b:Array Oper:=match f24.body with
 | some (.seq _ (.cond _ (.region _ ops _) _))=>ops
 | _ => #[]
theorem aXW:f24.body=some (.seq (.region 0 m58a false) (.cond (.tmp 5) (.region 1 m58b false) .skip)):=rfl
def aXq:List DOper:=[⟨0,some 4,.mv (.t 0),none⟩,⟨0,some 5,.not (.t 4),none⟩]
def l58b:List DOper:=[⟨0,some 6,.mv (.t 1),none⟩,⟨0,some 7,.build [.int .i64 0] [(0,(1,.t 6))],none⟩,⟨0,some 8,.mkifc 48 (.t 7),none⟩]
theorem aRy:xW prog 9 m58a false=some aXq:=by kernel_rfl
theorem aRx:((m58b.toList.take 3).mapM (aGm prog m58b))=some l58b:=by kernel_rfl
theorem p58:∃ o,m58b[3]?=some o/\o.guard=none/\o.op = .panic (.tmp 8):=⟨_,rfl,rfl,rfl⟩
theorem s58:m58b.size=4:=rfl
section
variable{D:Nat->Option XFn}{B:Base}{Y:Nat->Option YI}{r:Nat->Option Nat}{h:XH}{H:Hp}
def aLA:fC:=λ_ _ _=>none
def aHq:gR:=λ_ _ _=>none
theorem aIM:FnS prog B D Y aLA:=λ_ _ _ _ _ _ _ _ _ _ hx=>by simp[aLA]at hx
theorem aFV:YS prog B D Y aHq:=λ_ _ _ _ _ _ _ _ _ _ _ _ hx=>by simp[aHq]at hx
theorem bBK(k:IntKind)(n:Int):∃ e1,fP aLA aHq aXq (aX [.bool false,.int k n]) h=some (e1,h)/\e1 5 = .bool true/\e1 1 = .int k n:=⟨_,rfl,rfl,rfl⟩
theorem bBJ{e:aJ}{k:IntKind}{n:Int}(he:e 1 = .int k n):∃ e1,fP aLA aHq l58b e h=some (e1,h)/\e1 8 = .ifc 48 (.agg [.int k n]):=by
 refine⟨bD (bD (bD e (some 6) (.int k n)) (some 7) (.agg [.int k n])) (some 8) (.ifc 48 (.agg [.int k n])),?_,rfl⟩;have h0:aK e (.t 1) = .int k n:=he;simp only[l58b,fP,gd,dJ,aD,h0,D9];rfl
theorem aMT{P:Program}{ops:Array Oper}{r:Option Nat}{N:Nat}{Q:Exit->Act->World->Prop}{tl:List Nat}{K:aJ->Hp->Prop}:∀(l:List DOper)(i:Nat),(∀ j d,l[j]?=some d->Reads P ops (i+j) d)->(∀ d∈l,aGl N d) ->
 ∀(F:Nat->Prop)(w:World)(H:Hp)(env:aJ)(a:Act),a.tmps.size=N->B.Up F w->St F w H->RE F w env a->RS B P l K env H->DL.Ends N a F w H K (λa' w'=>wpOpsIn (FW r) 0 P ops Q tl a' w') ->
 wpOpsIn (FW r) 0 P ops Q (List.range' i l.length++tl) a w:=by
 intro l;induction l with
 | nil=>intro i _ _ F w H env a hsz hB st re h hQ;exact hQ a F w env H hsz rfl (Ext.refl _ _ _) st re h
 | cons d l ih =>
   intro i hr hd F w H env a hsz hB st re h hQ;rw[D7,aA9,M5,wpOpsIn_cons];refine aDo (hr 0 d rfl) (hd d (by simp)).2 (hd d (by simp)).1 hsz hB st re h ?_;intro a' F' w' env' H' h1 h2 h3 h4 h5 h6;exact ih (i+1) (λj d' hj=>by have:=hr (j+1) d' (by grind);grind) (λd' hd'=>hd d' (by simp[hd'])) F' w' H' env' a' h1 (hB.step st h3) h4 h5 h6 (hQ.step h2 h3)
theorem bCG(hm:prog.follows .mixedOrders=true)(k:IntKind)(n:Int){as':List AV}(sh:SH D Y r h H)(hA:RnL D Y r [.bool false,.int k n] as'):FnP B prog 24 as' H (fO D Y r (.ifc 48 (.agg [.int k n])) h):=by
 have hl:as'.length=2:=by simp_all [RnL]
 refine⟨λvs w=>call24 vs w,λF w vs hB st hAr=>?_⟩;have hsz:(vs++Array.replicate (f24.ntmps-vs.size) undef).size=9:=by
  have h1:=hAr.1
  simp_all
 have hre:=aDd (N:=9) (nt:=f24.ntmps-vs.size) hB hAr;obtain⟨e1,hx1,he5,he1⟩:=bBK (h:=h) k n;have RS0:=lW (P:=prog) (B:=B) aIM aFV aXq r _ h _ H e1 h (λenv' H'=>∃ r',DL.Sub r r'/\SR D Y r' e1 h env' H') rfl ⟨sh,tN hA⟩ hx1 (λr' env' H' hs sr'=>⟨r',hs,sr'⟩);refine callsIn_of_wp_marks func24 aXW trivial (wpIn_seq (oZ (B:=B) (r:=none) (N:=9) (draw:=false) hm aRy hsz hB st hre RS0 ?_));rintro a1 F1 w1 env1 H1 p1 p2 p3 p4 p5 ⟨r1,p6,p7⟩;show (Code.cond (.tmp 5) (.region 1 m58b false) .skip).wpIn Fence.wide 0 prog _ a1 w1;have hev:a1.eval (.tmp 5) = .bool true:=by
  have h5:=p7.re 5;rw[he5]at h5;have:=p5.rv 5;rw[gN h5]at this;show a1.tmps.getD 5 undef=_;generalize a1.tmps.getD 5 undef=z at this;cases this;rfl
 refine wpIn_cond (t:=true) hev (wpIn_region ?_);rw[s58,show List.range 4=List.range' 0 l58b.length++[3] from rfl];obtain⟨e2,hx2,he8⟩:=bBJ (h:=h) he1;have RS1:=lW (P:=prog) (B:=B) aIM aFV l58b r1 _ h _ H1 e2 h (λenv' H'=>∃ r',DL.Sub r r'/\SR D Y r' e2 h env' H') rfl p7 hx2 (λr' env' H' hs sr'=>⟨r',p6.trans hs,sr'⟩);refine aMT (r:=none) (B:=B) (N:=9) l58b 0 (λj d hj=>?_) (λd hd=>?_) F1 w1 H1 env1 a1 p1 (hB.step st p3) p4 p5 RS1 ?_
 .obtain⟨h1,h2⟩:=aBN aRx
  obtain⟨o,h3,h4⟩:=h2 j d hj;rw[J6]
  grind [qO]
 .simp only[l58b,C4,H6,AAh]at hd
  rcases hd with rfl|rfl|rfl<;>exact⟨by grind,rfl⟩
 rintro a2 F2 w2 env2 H2 q1 q2 q3 q4 q5 ⟨r2,q6,q7⟩;obtain⟨o,g1,g2,g3⟩:=p58;rw[wpOpsIn_cons];unfold wpOpIn;simp only[g1];have hw:Region.wanted o (yielded m58b a2.tmps)=true:=by unfold Region.wanted;rw[g2]
 rw[if_pos hw];refine⟨λ_ _=>trivial,?_⟩;have h8:=q7.re 8;rw[he8]at h8;have hrv:=q5.rv 8;cases hz:env2 8<;>rw[hz]at h8<;>cases h8
 rename_i v8 h8;rw[hz]at hrv;obtain⟨cv,hcv⟩:∃ cv,a2.tmps.getD 8 undef=cv:=⟨_,rfl⟩;rw[hcv]at hrv;have hev8:a2.eval (.tmp 8)=cv:=hcv;have hrv0:=hrv;cases hrv with
 | ifc _ _ vv hvv =>
 have hsem:(o.semAt (FW none).round a2.eval).run prog w2 = .halt (.panic (.iface 48 vv)) w2:=by
  rw[Oper.semAt_eq _ _ _ (by grind)];simp[execOp,g3,hev8,Instr.panic,goPanic]
 rw[hsem,Oper.uponIn_panic];show LeavesInM Fence.wide 0 prog f24 a2.tmps _ a2.defers (.panicking _) w2;have hd2:a2.defers=[]:=by rw[q2,p2]
 rw[hd2];exact⟨.iface 48 vv,_,F2,H2,rfl,p3.trans q3,q4,hrv0,r2,q6,q7.sh,.ifc _ _ _ h8⟩
end
end
section
open Go Go.DL Go.Proofs.Tryz
def iO(f:List AV->XH->Option (AV×XH)):XFn:=⟨10,[],false,false,.skip,none,some f⟩
def aZA(n:Nat):XFn:=⟨n,[],false,false,.skip,none,some λ_ _=>none⟩
def aPU(K:Nat):Option XFn:=match K with
 | 42=>some (iO aDR)
 | 48=>some (iO aIH)
 | 23=>some (iO aBJ)
 | 38=>some (iO aIG)
 | 18=>some (iO sL)
 | 97=>some (iO aLv)
 | 100=>some (iO aDQ)
 | 60=>some (iO aAW)
 | 76=>some (iO aDS)
 | 92=>some (iO aHl)
 | 145=>some (iO xA)
 | 8=>some (aZA 41)
 | K=>aPT K
theorem aVB{D:Nat->Option XFn}{K:Nat}:iB D K (λ_ _=>none):=λ_ _ _ _ _ _ _ _ _ _ _ hx=>by cases hx
theorem XOk.over{D D':Nat->Option XFn}(ok:XOk prog D)(h:∀ K d,D' K=some d->(D K=some d/\d.prm=none)\/∃ n f,d=⟨n,[],false,false,.skip,none,some f⟩/\iB D' K f):XOk prog D' where
 mixed:=ok.mixed
 is K d hd hp:=by
  rcases h K d hd with ⟨h1,_⟩|⟨n,f,rfl,_⟩;·exact ok.is K d h1 hp
  .cases hp
 prm K d f hd hp B Y _ r hh H xs ys v h' sh hr hx:=by
  rcases h K d hd with ⟨_,h2⟩|⟨n,f',rfl,h2⟩;·grind
  .cases hp
   exact h2 B Y r hh H xs ys v h' sh hr hx
 ok K d hd:=by
  rcases h K d hd with ⟨h1,_⟩|⟨n,f,rfl,_⟩;·exact ok.ok K d h1
  .rfl
 sites K d hd:=by
  rcases h K d hd with ⟨h1,_⟩|⟨n,f,rfl,_⟩;·exact ok.sites K d h1
  .trivial
end
section
open Go Go.DL Go.RowKit Go.Proofs.Tryz
variable{D:Nat->Option XFn}{Y:Nat->Option YI}{r:Nat->Option Nat}{h:XH}{H:Hp}{B:Base}
def tM(s:ByteArray):AV:=match Lib.atoiAll s.data.toList with
 | .ok v=>.tup [.int .i64 v,.nilifc]
 | Lib.NumEnd.syntax=>.tup [.int .i64 0,.ifc 204 .any]
 | .range=>.tup [.int .i64 (Lib.atoiSat s.data.toList),.ifc 204 .any]
def aDT:List AV->XH->Option (AV×XH):=λxs h=>match xs with
 | [.str s]=>if s.size<=100000 then some (tM s,h) else none
 | _=>none
theorem aGG{F:Nat->Prop}{w:World}{a b:AV}{x y:Value}(h1:Rv F w a x)(h2:Rv F w b y):Rv F w (.tup [a,b]) (.tuple #[x,y]):=by
 refine .tup _ _ rfl λi c v hc hv=>?_
 grind
theorem aGH{a b x y:AV}(h1:Rn D Y r a x)(h2:Rn D Y r b y):Rn D Y r (.tup [a,b]) (.tup [x,y]):=by
 refine .tup _ _ rfl λi c v hc hv=>?_
 grind
theorem aVD:iB D 63 aDT:=by
 intro B Y r h H xs ys v h' sh hr hx;unfold aDT at hx;split at hx
 .rename_i s
  split at hx
  .rename_i hn
   cases hx;obtain⟨a,as1,rfl,h1,h2⟩:=hr.inv;rw[dM h1,h2.nil_inv];have hrn:Rn D Y r (tM s) (tM s):=by
    unfold tM;split;·exact aGH (.int _ _) .nilifc
    .exact aGH (.int _ _) (.ifc _ _ _ (.any _))
    .exact aGH (.int _ _) (.ifc _ _ _ (.any _))
   refine FnW.shelfG (λvs w=>call63 vs w) (λF w vs gi hl ha=>?_) ⟨r,DL.Sub.refl r,sh,hrn⟩;obtain⟨b,bs,rfl,h3,h4⟩:=ha.cons1;cases h3;rw[h4.nil1];obtain⟨_,ev1,hv1,he1⟩:=gi.2.2.2 1 (by simp[aCX]);obtain⟨_,ev2,hv2,he2⟩:=gi.2.2.2 2 (by simp[aCX]);unfold tM;cases hA:Lib.atoiAll s.data.toList with
   | ok v =>
     refine(Tryz.strconv_Atoi_ok s AS v hA w).mono ?_;rintro e w' ⟨rfl,hw⟩;have hbel:Below w.heap.size w w':=by
      grind [Below.refl,Lib.bytesWorld_below]
     exact⟨_,F,rfl,hbel,λ_ h=>h,λ_ h=>.inl h,λb hb=>E5 (hl b hb) hbel.size,aGG (.int _ _) .nilifc⟩
   | range =>
     refine(Tryz.strconv_Atoi_range s AS hA ev2 w hv2 he2).mono ?_;rintro e w' ⟨N,rfl,_,_,hbel⟩;exact⟨_,F,rfl,hbel,λ_ h=>h,λ_ h=>.inl h,λb hb=>E5 (hl b hb) hbel.size,aGG (.int _ _) (.ifc _ _ _ (.any _))⟩
   | _ =>
     refine(Tryz.strconv_Atoi_syntax s AS hA ev1 w hv1 he1).mono ?_;rintro e w' ⟨N,rfl,_,_,hbel⟩;exact⟨_,F,rfl,hbel,λ_ h=>h,λ_ h=>.inl h,λb hb=>E5 (hl b hb) hbel.size,aGG (.int _ _) (.ifc _ _ _ (.any _))⟩
  .cases hx
 .cases hx
end
section
open Go Go.DL Go.Proofs.Tryz
def aB(K:Nat):Option XFn:=match K with
 | 63=>some (iO aDT)
 | K=>aPU K
theorem aA:XOk prog aB:=by
 refine XOk.over progX_ok λK d hd=>?_;unfold aB at hd;split at hd;·cases hd;exact .inr ⟨_,_,rfl,aVD⟩
 .unfold aPU at hd
  split at hd;·cases hd;exact .inr ⟨_,_,rfl,aVL⟩
  .cases hd;exact .inr ⟨_,_,rfl,aVK⟩
  .cases hd;exact .inr ⟨_,_,rfl,aVJ⟩
  .cases hd;exact .inr ⟨_,_,rfl,aVI⟩
  .cases hd;exact .inr ⟨_,_,rfl,aVH⟩
  .cases hd;exact .inr ⟨_,_,rfl,aVG⟩
  .cases hd;exact .inr ⟨_,_,rfl,aVF⟩
  .cases hd;exact .inr ⟨_,_,rfl,aVE⟩
  .cases hd;exact .inr ⟨_,_,rfl,aVC⟩
  .cases hd;exact .inr ⟨_,_,rfl,aPX⟩
  .cases hd;exact .inr ⟨_,_,rfl,aPW⟩
  .cases hd;exact .inr ⟨_,_,rfl,aVB⟩
  .exact .inl ⟨hd,aWS hd⟩
theorem qX(K:Nat)(d:XFn)(hD:aB K=some d){vs:List AV}{h:XH}(hl:vs.length<=d.N:=by exact aB6 rfl)(hdf:d.dfr=none:=by rfl)(hpr:d.prm=none:=by rfl)(hg:lU K=false:=by rfl):runW aB K vs h=eY none d.res d.ownR h.length (execW aB K h.length none d.body (aX (if d.ownA then vs else kI vs)) h):=cJ hD hl h hdf hpr hg
theorem qY(K:Nat)(d:XFn)(hD:aB K=some d){vs:List AV}{h:XH}(hl:vs.length<=d.N:=by exact aB6 rfl)(hdf:d.dfr=none:=by rfl)(hg:lU K=true:=by rfl)(hpr:d.prm=none:=by rfl):runW aB K vs h=aFl d.res (execW aB K h.length none d.body (aX (if d.ownA then vs else kI vs)) h):=aPo hD hl h hdf hg hpr
end
section
open Go Go.DL
def iM(x:Nat):Nat:=(x+224)%256
def newF(s:List Nat):List Nat:=s.take 40++List.replicate (40-s.length) 32
def aEJ:Nat->List Nat->Nat
 | _,[]=>0
 | i,x::r=>(i+1)*iM x+aEJ (i+1) r
def chk(row:Nat)(f:List Nat):Nat:=(row+aEJ 0 f)%9973
def xU(c:Nat):List Nat:=[48+c/1000,48+c/100%10,48+c/10%10,48+c%10]
def qG(row:Nat)(f:List Nat):List Nat:=xU (chk row f)++(f++[10])
def dA(times:Nat):List Nat->List Nat->List Nat
 | a::f,b::o=>(32+(iM a+times*iM b)%95)::dA times f o
 | _,_=>[]
def bN(s:ByteArray):List Nat:=s.data.toList.map UInt8.toNat
def kZ(l:List Nat):ByteArray:=⟨⟨l.map UInt8.ofNat⟩⟩
def xY(l:List Nat):AV:=.agg (l.map λ(n:Nat)=>.int .u8 (n:Int))
end
section
open Go Go.DL
abbrev U(n:Nat):AV:=.int .u8 (n:Int)
theorem mC(p:Prop):p=True\/p=False:=by
 grind
theorem dO{α:Type}{l:List α}{i:Nat}(h:i<l.length):∃ x,l[i]?=some x:=by simp_all
theorem cV{n i:Nat}(h:i<n)(hn:n<=9223372036854775807):IntKind.i64.wrap ((i:Int)+1)=(i:Int)+1:=aE AS AS
theorem p57{xs:List AV}{h:XH}:runW aB 23 xs h=aBJ xs h:=cM rfl rfl xs h
theorem bCH{xs:List AV}{h:XH}:runW aB 145 xs h=xA xs h:=cM rfl rfl xs h
theorem q44{vs:List AV}{h:XH}(hl:vs.length<=15):runW aB 45 vs h=eY none x45.res x45.ownR h.length (execW aB 45 h.length none x45.body (aX (if x45.ownA then vs else kI vs)) h):=cJ rfl hl h rfl
theorem bCF{vs:List AV}{h:XH}(hl:vs.length<=33):runW aB 121 vs h=eY none x121.res x121.ownR h.length (execW aB 121 h.length none x121.body (aX (if x121.ownA then vs else kI vs)) h):=cJ rfl hl h rfl
def bV(l:List Nat):List AV:=l.map λ(n:Nat)=>.int .u8 (n:Int)
theorem bZ(l:List Nat):xY l = .agg (bV l):=rfl
theorem bG(l:List Nat):(bV l).length=l.length:=by simp[bV]
theorem aOz{l:List Nat}{i x:Nat}(h:l[i]?=some x):(bV l)[i]?=some (U x):=by simp[bV,h]
theorem bW(l:List Nat):lE (bV l)=true:=fJ λv hv=>by
 grind [iD,bV]
theorem eF(l:List Nat):slL (bV l)=[]:=by
 induction l with
 | nil=>rfl
 | cons a l ih=>show slN _++slL (bV l)=[];rw[ih];rfl
theorem dK(l:List Nat):mI (bV l)=[]:=by
 induction l with
 | nil=>rfl
 | cons a l ih=>show kK _++mI (bV l)=[];rw[ih];rfl
theorem dZ(s:Nat->Option Nat)(l:List Nat):mR s (bV l)=bV l:=by
 induction l with
 | nil=>rfl
 | cons a l ih=>show rnA s _::mR s (bV l)=_;rw[ih];rfl
theorem eG(l:List Nat):kI (bV l)=bV l:=by
 induction l with
 | nil=>rfl
 | cons a l ih=>show vN _::kI (bV l)=_;rw[ih];rfl
theorem aOy{l:List Nat}{i x:Nat}(h:i<l.length):bJ (bV l) i [.int .u8 (x:Int)]=bV (l.set i x):=by
 unfold bJ bV;rw[List.map_set,J5,if_pos (by grind)];simp
theorem kO{a b:List Nat}(h:a.length=b.length):bJ (bV a) 0 (bV b)=bV b:=by
 simp_all [bJ,bV]
theorem gS{l:List Nat}(h:l.length=40):List.take 40 (bV l)=bV l:=C9 (by rw[bG];omega)
theorem jY{l:List Nat}(h:l.length=40):List.take 40 (List.drop 0 (bV l))=bV l:=by grind [gS]
def nf(i:Nat):List Nat:=List.replicate i 32++List.replicate (40-i) 0
theorem rG{i:Nat}(h:i<=40):(nf i).length=40:=by simp[nf];omega
theorem aXh{i:Nat}(h:i<40):bJ (bV (nf i)) i [.int .u8 32]=bV (nf (i+1)):=by
 have h1:=aOy (l:=nf i) (i:=i) (x:=32) (by grind [nf]);have h2:(nf i).set i 32=nf (i+1):=by
  unfold nf;obtain⟨k,hk⟩:∃ k,40-i=k+1:=⟨39-i,by omega⟩;have hk':40-(i+1)=k:=AS
  rw[hk,hk',O4,aC1,List.set_append_right _ _ (by simp)];simp
 grind
theorem iI(l:List Nat):(newF l).length=40:=by simp[newF];omega
theorem bFa(s:ByteArray):bJ (bV (nf 40)) 0 ((s.data.toList.map λb=>AV.int .u8 (b.toNat:Int)).take (min s.size 40))=bV (newF (bN s)):=by
 have hs:s.size=s.data.toList.length:=by rfl
 have hn:bV (nf 40)=List.replicate 40 (U 32):=rfl;rw[hn];unfold bJ newF bN bV;rw[M3,aG4,aB0,List.take_zero,D4,hs];have e:((s.data.toList.map λb=>AV.int .u8 (b.toNat:Int)).take (min s.data.toList.length 40))=(s.data.toList.map ((λn:Nat=>AV.int .u8 (n:Int))∘UInt8.toNat)).take 40:=by
  by_cases h:s.data.toList.length<=40;·rw[aF9 h,C9 (by simp),C9 (by grind)];rfl
  .rw[Nat.min_eq_right AS];rfl
 rw[e];congr 1;simp only[J6,aF1,B8,List.drop_replicate,List.map_replicate]
 grind
theorem cpR(s:ByteArray):aGA 1 [some (XB.blk true (ABlk.cells true (bV (nf 0)))),some (XB.blk true (ABlk.cells true (bV (nf 40))))] (AV.sl 1 0 1 40) (AV.str s)=some (.int .i64 ((min s.size 40:Nat):Int),[some (XB.blk true (ABlk.cells true (bV (nf 0)))),some (XB.blk true (ABlk.cells true (bV (newF (bN s)))))]):=by
 have hc:=bFa s;have l40:(bV (nf 40)).length=40:=by rfl
 unfold aGA aDe;simp only[fX,hat,List.getD_cons_succ,aC7,AAe,l40];simp only[AAi,J6,aE3,B5,AAe,D1,List.set_cons_succ,List.set_cons_zero,lH,Bool.and_true];rw[hc]
theorem bAd{i:Nat}(h:i<40):(i+1<=40)=True:=AAa
theorem w44(s:ByteArray):runW aB 45 [.str s] []=some (xY (newF (bN s)),[]):=by
 rw[q44 (by simp)];unfold x45;dsimp only;have e0:((40:Int)<40)=False:=AAb;have l40:(bV (nf 40)).length=40:=by rfl
 have l0:(bV (nf 0)).length=40:=by rfl
 have g0:=bW (nf 0);rw[bZ];sym =>
  simp[Zb,Zf,Zh,Zl,Zv,Zw,Wh,Vd,Tr,Tu,Tv,Tz,T2,T8,TS,TT,TZ,Sa,SX,Rb,Rc,Rl,e0]
  tactic =>
   unfold aVl;rw[aG 40 (λi=>[.str s,.pt 0 0,.pt 1 0,I (i:Nat)]) (λi=>[aa (bV (nf 0)),aa (bV (nf i))])]
   .have c2:=iI (bN s)
    have c4:=bG (newF (bN s));rw[c2]at c4;have c5:=gS c2;have c6:=jY c2;have c7:=bW (newF (bN s));have c3:=cpR s;have c8:=kO (a:=nf 0) (b:=newF (bN s)) (by grind [rG]);(sym=>(simp[Za,Zb,Zc,Zf,Zh,Zl,Zm,Zn,Zv,ZA,ZM,ZW,Ya,Yb,Yf,Yg,YH,XM,Wy,WI,Ve,Vs,V5,V6,V7,V8,VQ,VY,Ua,Ub,Uc,UC,UR,US,UU,UV,UW,UX,UY,Tb,Tc,Td,Tf,Th,Tl,Tn,Tt,Tw,Ty,T8,TF,TK,TO,TP,Sg,SA,SC,SF,SI,SJ,SV,SX,SY,Ra,Rc,Re,Ri,Rk,Rl,Rr,Rs,Rt,Ru,QQ,Pf,e0,l40,l0,c3,c4,c5,c6,c7,c8,g0,eF,dK,dZ,eG];all_goals tactic=>exact rfl))
   .rfl
   .intro i hi
    have i1:((i:Int)<40)=True:=AAa;have a2:=cV (n:=40) hi AS;have n1:(bV (nf i)).length=40:=by grind [bV,nf]
    have n2:=aXh hi;have n3:=bAd hi;(sym=>(simp[Za,Zb,Zc,Zf,Zh,Zl,Zm,Zv,ZA,ZH,Ya,Yb,Y8,YH,YM,YN,Xl,XI,XL,XX,Wh,Wv,Wx,W5,Vp,V5,V8,VJ,VK,VN,VO,VQ,VV,VW,VY,Ua,Ub,Uc,Ud,Ui,Uj,Uo,Th,Ti,Tj,Tl,Tm,Ts,Tt,Tu,Tv,Tw,Ty,Tz,T2,T5,T8,TF,TI,TJ,TO,TP,TQ,TR,TS,TT,SI,SJ,SV,SX,SZ,Rb,Rc,Rg,Rj,Rk,Rl,RZ,Qa,Qb,Pf,i1,a2,n1,n2,n3];all_goals tactic=>exact rfl))
   ·(sym=>(simp[Za,Zb,Zf,Zh,Zl,Zm,ZA,YH,Th,Tl,Tn,Tp,TK,SV,SX,Ra,Rc,Re,Rk,Rl,Pf,e0];all_goals tactic=>exact rfl))
def tmZ(a b:Int):Int:=Int.tmod a b
def lQ(a b:Int):Int:=Int.tdiv a b
def aPL(z:Bool)(k:IntKind)(v:Int):Option AV:=if z then none else some (.int k v)
theorem eZ(k:IntKind)(v:Int):aPL false k v=some (.int k v):=rfl
theorem cN{k:IntKind}{a b:Int}:iK .rem k a k b=aPL (decide (b=0)) k (tmZ a b):=by
 simp[iK,aPL,tmZ]
theorem cO{k:IntKind}{a b:Int}:iK .quo k a k b=aPL (decide (b=0)) k (k.wrap (lQ a b)):=by
 simp[iK,aPL,lQ]
theorem iT(a b:Nat):tmZ (a:Int) (b:Int)=((a%b:Nat):Int):=by rfl
theorem aHL(x:Nat):iM x<256:=aA4 _ (by decide)
theorem aRl{x:Nat}(h:x<256):IntKind.u8.wrap ((x:Int)-32)=(iM x:Int):=by
 unfold iM;simp[IntKind.wrap,IntKind.bits,IntKind.signed];omega
theorem aGp(x:Nat):∀(l:List Nat)(k:Nat),aEJ k (l++[x])=aEJ k l+(k+l.length+1)*iM x
 | [],k=>by simp[aEJ]
 | a::l,k=>by
   rw[M5,aEJ,aGp x l (k+1),aEJ,D7];rw[show k+1+l.length+1=k+(l.length+1)+1 by omega];omega
theorem aMh:∀(l:List Nat)(k:Nat),aEJ k l<=l.length*((k+l.length)*255)
 | [],k=>by simp[aEJ]
 | a::l,k=>by
   have h1:=aMh l (k+1);have h2:=aHL a;rw[aEJ,D7];have h3:(k+1)*iM a<=(k+(l.length+1))*255:=O6 AS AS;have h4:k+1+l.length=k+(l.length+1):=AS
   rw[h4]at h1;rw[aG1 l.length 1];omega
def qI(row:Nat)(f:List Nat)(i:Nat):Nat:=row+aEJ 0 (f.take i)
theorem bBx(row:Nat)(f:List Nat):qI row f 0=row:=by rfl
theorem aVW{row:Nat}{f:List Nat}{i x:Nat}(h:f[i]?=some x):qI row f (i+1)=qI row f i+(i+1)*iM x:=by
 grind [List.take_add_one,aGp,qI]
theorem aRL{row:Nat}{f:List Nat}(hf:f.length=40)(i:Nat):qI row f i<=row+408000:=by
 have h:=aMh (f.take i) 0;have h1:(f.take i).length<=40:=by grind
 have h2:(f.take i).length*((0+(f.take i).length)*255)<=40*(40*255):=O6 h1 (O6 AS (B5 _));unfold qI;omega
theorem aRM{row:Nat}{f:List Nat}(hf:f.length=40):qI row f 40%9973=chk row f:=by
 grind [qI,chk]
theorem aYb(l1 l2:List UInt8):(⟨⟨l1⟩⟩:ByteArray)++⟨⟨l2⟩⟩=⟨⟨l1++l2⟩⟩:=by
 rfl
theorem eA{a b:ByteArray}(h:a.size+b.size<=1000000):aN BinOp.add a b=some (.str (a++b)):=by
 have e:IntKind.i64.max=9223372036854775807:=by decide
 grind [aN]
theorem aCh(l:List UInt8):(⟨⟨l⟩⟩:ByteArray).size=l.length:=rfl
def aKI(c:Nat):ByteArray:=kZ (xU c)
theorem aUt{c:Nat}(h:c<9973):1<=(Lib.itoa (c:Int)).length/\(Lib.itoa (c:Int)).length<=4/\Lib.repeatL [48] (4-(Lib.itoa (c:Int)).length)++Lib.itoa (c:Int)=(xU c).map UInt8.ofNat:=by
 have e:Lib.itoa (c:Int)=Lib.decDigits c:=by
  rfl
 rw[e];by_cases h1:c<10
 .rw[Lib.decDigits_one h1]
  refine⟨by simp,by simp,?_⟩;have:xU c=[48,48,48,48+c]:=by simp[xU];omega
  rw[this];rfl
 .by_cases h2:c<100
  .rw[Lib.decDigits_two h1 h2]
   refine⟨by simp,by simp,?_⟩;have:xU c=[48,48,48+c/10,48+c%10]:=by simp[xU];omega
   rw[this];rfl
  .have s3:∀{m:Nat},¬m<10->Lib.decDigits m=Lib.decDigits (m/10)++[UInt8.ofNat (48+m%10)]:=λ{m} hm=>by
    conv=>lhs;rw[Lib.decDigits,AAr hm]
   by_cases h3:c<1000
   .rw[s3 h1,Lib.decDigits_two AS AS]
    refine⟨by simp,by simp,?_⟩;have:xU c=[48,48+c/10/10,48+c/10%10,48+c%10]:=by simp[xU];omega
    rw[this];rfl
   .rw[s3 h1,s3 AS,Lib.decDigits_two AS AS]
    refine⟨by simp,by simp,?_⟩;have:xU c=[48+c/10/10/10,48+c/10/10%10,48+c/10%10,48+c%10]:=by simp[xU];omega
    rw[this];rfl
theorem w57{c:Nat}(h:c<9973):runW aB 23 [I (c:Int)] []=some (.str ⟨⟨Lib.itoa (c:Int)⟩⟩,[]):=by
 rw[p57];unfold aBJ;grind
theorem bCq{d:Nat}(h:d<=4):runW aB 145 [.str ⟨#[48]⟩,I (d:Int)] []=some (.str ⟨⟨Lib.repeatL [48] d⟩⟩,[]):=by
 rw[bCH];unfold xA;dsimp only;rw[if_pos (by refine⟨by omega,by omega,by decide⟩)];simp
theorem bCw{f:List Nat}{row:Nat}(hf:f.length=40)(hb:∀(i x:Nat),f[i]?=some x->x<256)(hrow:row<=1000000):runW aB 121 [xY f,I (row:Int)] []=some (.str (aKI (chk row f)),[]):=by
 rw[bCF (by simp)];unfold x121;dsimp only;have e0:((40:Int)<40)=False:=AAb;have lf:=bG f;rw[hf]at lf;have gf:=bW f;rw[bZ];have t1:=gS hf;have t2:=jY hf;sym =>
  simp[cN,cO,eZ,Za,Zb,Zf,Zh,Zl,Zm,Zo,Zv,Zz,ZW,Wk,Vb,Ve,Vs,V5,V6,V7,VH,Tg,Tr,Tv,T2,TZ,Sa,Sn,Sp,SA,SC,SF,SN,SX,Rb,Rc,Rk,Rl,e0,lf,gf,t1,t2,eF,dK,dZ,eG]
  tactic =>
   unfold aOf;rw[aG 40 (λi=>[I (qI row f i:Nat),.agg (bV f),I (i:Nat)]) (λ_=>[])]
   .have hc:chk row f<9973:=aA4 _ (by decide)
    have c1:tmZ ((qI row f 40:Nat):Int) 9973=((chk row f:Nat):Int):=by grind [aRM,iT]
    have c2:=w57 hc;obtain⟨d1,d2,d3⟩:=aUt hc;have c3:=bCq (d:=4-(Lib.itoa ((chk row f:Nat):Int)).length) AS;have c4:aKI (chk row f)=(⟨⟨Lib.repeatL [48] (4-(Lib.itoa ((chk row f:Nat):Int)).length)⟩⟩:ByteArray)++⟨⟨Lib.itoa ((chk row f:Nat):Int)⟩⟩:=by
     rw[aYb,d3];rfl
    rw[c4];have c5:(⟨⟨Lib.itoa ((chk row f:Nat):Int)⟩⟩:ByteArray).size=(Lib.itoa ((chk row f:Nat):Int)).length:=rfl;have c6:IntKind.i64.wrap (4-((Lib.itoa ((chk row f:Nat):Int)).length:Int))=((4-(Lib.itoa ((chk row f:Nat):Int)).length:Nat):Int):=by grind [aE]
    have c7:=eA (a:=⟨⟨Lib.repeatL [48] (4-(Lib.itoa ((chk row f:Nat):Int)).length)⟩⟩) (b:=⟨⟨Lib.itoa ((chk row f:Nat):Int)⟩⟩) (by
     rw[aCh,aCh,Lib.repeatL_length]
     grind)
    generalize Lib.itoa ((chk row f:Nat):Int)=ss at *;generalize hz:(⟨⟨ss⟩⟩:ByteArray)=a at *;generalize hd:4-ss.length=d at *;generalize hy:(⟨⟨Lib.repeatL [48] d⟩⟩:ByteArray)=z at *;(sym=>(simp[cN,cO,eZ,Za,Zb,Zf,Zh,Zl,Zm,Zv,ZA,ZS,Yf,Yi,Yn,Yo,Yz,Y9,YH,XI,XL,Wv,Wx,WH,Vd,VG,VQ,VX,VY,VZ,Ub,Uc,Ue,Uf,Ut,Uu,Uv,UC,UR,US,UU,UV,UW,UX,UY,Tb,Tc,Td,Te,Th,Tl,Tn,Ts,Tt,Tv,Tw,Ty,T2,TK,TN,TO,TP,TQ,TR,SV,SW,SX,SY,Ra,Rc,Re,Ri,Rk,Rl,QQ,Pf,PI,PJ,PK,PL,e0,lf,c1,c2,c3,c5,c6,c7,eF,dK,dZ,eG];all_goals tactic=>exact rfl))
   .have a0:=bBx row f
    (sym=>(simp[cN,cO,eZ,Za,YX,XI,XM,Wv,Wy,VQ,VY,Ua,Ub,Uc,Ti,Tj,Ts,Tt,Tw,Ty,TO,TP,TQ,TR,Rj,lf,a0,eF,dK,dZ,eG];all_goals tactic=>exact rfl))
   .intro i hi
    have i1:((i:Int)<40)=True:=AAa;have a2:=cV (n:=40) hi AS;obtain⟨x,hx⟩:=dO (l:=f) (i:=i) AS;have hx':=aOz hx;have hxb:=hb i x hx;have b1:=aRl hxb;have hcx:=aHL x;have b2:IntKind.i64.wrap ((iM x:Nat):Int)=((iM x:Nat):Int):=aE AS AS;have hm:(i+1)*iM x<=40*255:=O6 AS AS;have b3:IntKind.i64.wrap (((i:Int)+1)*((iM x:Nat):Int))=(((i+1)*iM x:Nat):Int):=by
     grind [aE]
    have hal:=aRL (row:=row) hf i;have b4:IntKind.i64.wrap (((qI row f i:Nat):Int)+(((i+1)*iM x:Nat):Int))=((qI row f (i+1):Nat):Int):=by
     grind [aVW,aE]
    generalize qI row f i=A at *;generalize qI row f (i+1)=A' at *;generalize iM x=cx at *;generalize (i+1)*cx=px at *;(sym=>(simp[cN,cO,eZ,Za,Zb,Zf,Zh,Zl,Zm,Zv,ZA,ZF,ZJ,Yt,Y8,Y9,YA,YH,YM,YN,Xx,XI,XM,Wv,Wy,VQ,VY,VZ,Ub,Uc,Th,Ti,Tj,Tl,Tm,Ts,Tt,Tw,Ty,TF,TJ,TN,TO,TP,TQ,TR,SG,SV,SX,SZ,Rb,Rc,Rg,Rj,Rk,Rl,RZ,Pf,i1,a2,hx',b1,b2,b3,b4,lf,eF,dK,dZ,eG];all_goals tactic=>exact rfl))
   ·(sym=>(simp[cN,cO,eZ,Za,Zb,Zf,Zh,Zl,Zm,ZA,YH,Th,Tl,Tn,Tp,TK,SV,SX,Ra,Rc,Re,Rk,Rl,Pf,e0];all_goals tactic=>exact rfl))
end
section
open Go Go.DL
theorem iW{q0 q1 q2 q3 q4 q5 q6 q7 q8 q9 q10 q11 q12 q13 q14 q15 q16 q17 q18 q19 q20 q21 q22 q23 q24 q25 p:Prop}(x0:q0)(x1:q1)(x2:q2)(x3:q3)(x4:q4)(x5:q5)(x6:q6)(x7:q7)(x8:q8)(x9:q9)(x10:q10)(x11:q11)(x12:q12)(x13:q13)(x14:q14)(x15:q15)(x16:q16)(x17:q17)(x18:q18)(x19:q19)(x20:q20)(x21:q21)(x22:q22)(x23:q23)(x24:q24)(x25:q25)(h:q0->q1->q2->q3->q4->q5->q6->q7->q8->q9->q10->q11->q12->q13->q14->q15->q16->q17->q18->q19->q20->q21->q22->q23->q24->q25->p:=by intro x0 x1 x2 x3 x4 x5 x6 x7 x8 x9 x10 x11 x12 x13 x14 x15 x16 x17 x18 x19 x20 x21 x22 x23 x24 x25; (sym=>(simp[x0,x1,x2,x3,x4,x5,x6,x7,x8,x9,x10,x11,x12,x13,x14,x15,x16,x17,x18,x19,x20,x21,x22,x23,x24,x25,cN,cO,eZ,Za,Zb,Zc,Zd,Ze,Zf,Zg,Zh,Zi,Zj,Zk,Zl,Zm,Zn,Zo,Zp,Zq,Zr,Zs,Zt,Zu,Zv,Zw,Zx,Zy,Zz,Z0,Z8,Z9,ZA,ZB,ZC,ZD,ZE,ZF,ZG,ZH,ZI,ZJ,ZK,ZL,ZM,ZN,ZO,ZP,ZQ,ZR,ZS,ZT,ZU,ZV,ZW,ZX,ZY,ZZ,Ya,Yb,Yc,Ye,Yf,Yg,Yh,Yi,Yj,Yk,Yl,Ym,Yn,Yo,Yp,Yq,Yr,Ys,Yt,Yu,Yv,Yw,Yx,Yy,Yz,Y4,Y5,Y6,Y7,Y8,Y9,YA,YB,YC,YD,YE,YF,YG,YH,YJ,YK,YL,YM,YN,YO,YP,YQ,YR,YT,YU,YV,YX,YY,YZ,Xa,Xb,Xc,Xd,Xe,Xf,Xg,Xh,Xi,Xj,Xk,Xl,Xm,Xn,Xo,Xp,Xq,Xr,Xs,Xt,Xu,Xv,Xw,Xx,Xy,Xz,XI,XJ,XL,XM,XN,XO,XW,XX,XY,XZ,Wa,Wb,Wc,We,Wf,Wg,Wh,Wi,Wj,Wk,Wl,Wm,Wn,Wo,Wp,Wq,Wr,Wt,Wu,Wv,Ww,Wx,Wy,Wz,W3,W4,W5,W6,W7,W8,W9,WA,WB,WC,WE,WF,WG,WH,WI,WJ,WK,WL,WM,WN,WO,WP,WQ,WR,WS,WT,WU,WV,WW,WX,WY,WZ,Va,Vb,Vc,Vd,Ve,Vf,Vg,Vh,Vi,Vj,Vk,Vl,Vm,Vn,Vo,Vp,Vq,Vr,Vs,Vt,Vu,Vv,Vw,Vx,Vy,Vz,V1,V2,V3,V4,V5,V6,V7,V8,V9,VD,VF,VG,VH,VI,VJ,VK,VL,VM,VN,VO,VP,VQ,VU,VV,VW,VX,VY,VZ,Ua,Ub,Uc,Ud,Ue,Uf,Ug,Uh,Ui,Uj,Uk,Ul,Um,Un,Uo,Ur,Us,Ut,Uu,Uv,Uw,Ux,Uy,Uz,U0,U7,U8,U9,UA,UB,UC,UD,UE,UF,UG,UH,UI,UJ,UK,UL,UM,UN,UO,UP,UQ,UR,US,UT,UU,UV,UW,UX,UY,UZ,Ta,Tb,Tc,Td,Te,Tf,Tg,Th,Ti,Tj,Tl,Tm,Tn,Tp,Tq,Tr,Ts,Tt,Tu,Tv,Tw,Tx,Ty,Tz,T2,T3,T4,T5,T6,T7,T8,T9,TA,TB,TC,TD,TE,TF,TG,TH,TI,TJ,TK,TL,TM,TN,TO,TP,TQ,TR,TS,TT,TU,TV,TX,TY,TZ,Sa,Sc,Sd,Se,Sf,Sg,Si,Sj,Sk,Sl,Sn,Sp,Sq,Sr,Ss,Su,Sv,Sw,Sx,Sy,Sz,S3,S4,S5,S6,S7,S8,S9,SA,SC,SD,SE,SF,SG,SI,SJ,SK,SL,SN,SO,SP,SQ,SS,SU,SV,SW,SX,SY,SZ,Ra,Rb,Rc,Re,Rf,Rg,Rh,Ri,Rj,Rk,Rl,Rm,Ro,Rp,Rq,Rr,Rs,Rt,Ru,Rx,Ry,Rz,R0,RC,RG,RH,RI,RJ,RO,RR,RU,RV,RW,RX,RY,RZ,Qa,Qb,Qd,Qe,Qf,Qg,Qh,Qi,Qj,Qk,Ql,Qm,Qn,Qo,Qp,Qq,Qr,Qs,Qt,Qu,Qw,Qx,Qy,Qz,Q0,QA,QB,QD,QE,QG,QH,QI,QJ,QL,QN,QO,QQ,QR,QS,QU,QV,QW,QX,QY,QZ,Pa,Pb,Pc,Pd,Pe,Pf,Pg,Ph,Pj,Pk,Pl,Pm,Pn,Po,Pp,Pq,Pr,Ps,Pt,Pu,Pv,Pw,Px,Py,Pz,P0,P8,P9,PA,PB,PC,PD,PE,PH,PI,PJ,PK,PL,PM,PN,PO,PP,PQ,PR,PS,PT,PU,PV,PW,PX,PY,PZ,Oa,Ob,aUm,aLW];all_goals tactic=>exact rfl))):p:=h x0 x1 x2 x3 x4 x5 x6 x7 x8 x9 x10 x11 x12 x13 x14 x15 x16 x17 x18 x19 x20 x21 x22 x23 x24 x25
theorem RT0{p:Prop}(h:p:=by exact iW aF aF aF aF aF aF aF aF aF aF aF aF aF aF aF aF aF aF aF aF aF aF aF aF aF aF):p:=h
theorem cI{q0 p:Prop}(x0:q0)(h:q0->p:=by intro x0;exact iW @x0 aF aF aF aF aF aF aF aF aF aF aF aF aF aF aF aF aF aF aF aF aF aF aF aF aF):p:=h x0
theorem kJ{q0 q1 p:Prop}(x0:q0)(x1:q1)(h:q0->q1->p:=by intro x0 x1;exact iW @x0 @x1 aF aF aF aF aF aF aF aF aF aF aF aF aF aF aF aF aF aF aF aF aF aF aF aF):p:=h x0 x1
theorem vC{q0 q1 q2 p:Prop}(x0:q0)(x1:q1)(x2:q2)(h:q0->q1->q2->p:=by intro x0 x1 x2;exact iW @x0 @x1 @x2 aF aF aF aF aF aF aF aF aF aF aF aF aF aF aF aF aF aF aF aF aF aF aF):p:=h x0 x1 x2
theorem rR{q0 q1 q2 q3 p:Prop}(x0:q0)(x1:q1)(x2:q2)(x3:q3)(h:q0->q1->q2->q3->p:=by intro x0 x1 x2 x3;exact iW @x0 @x1 @x2 @x3 aF aF aF aF aF aF aF aF aF aF aF aF aF aF aF aF aF aF aF aF aF aF):p:=h x0 x1 x2 x3
theorem qR{q0 q1 q2 q3 q4 p:Prop}(x0:q0)(x1:q1)(x2:q2)(x3:q3)(x4:q4)(h:q0->q1->q2->q3->q4->p:=by intro x0 x1 x2 x3 x4;exact iW @x0 @x1 @x2 @x3 @x4 aF aF aF aF aF aF aF aF aF aF aF aF aF aF aF aF aF aF aF aF aF):p:=h x0 x1 x2 x3 x4
theorem iS{q0 q1 q2 q3 q4 q5 q6 p:Prop}(x0:q0)(x1:q1)(x2:q2)(x3:q3)(x4:q4)(x5:q5)(x6:q6)(h:q0->q1->q2->q3->q4->q5->q6->p:=by intro x0 x1 x2 x3 x4 x5 x6;exact iW @x0 @x1 @x2 @x3 @x4 @x5 @x6 aF aF aF aF aF aF aF aF aF aF aF aF aF aF aF aF aF aF aF):p:=h x0 x1 x2 x3 x4 x5 x6
theorem kN{q0 q1 q2 q3 q4 q5 q6 q7 q8 p:Prop}(x0:q0)(x1:q1)(x2:q2)(x3:q3)(x4:q4)(x5:q5)(x6:q6)(x7:q7)(x8:q8)(h:q0->q1->q2->q3->q4->q5->q6->q7->q8->p:=by intro x0 x1 x2 x3 x4 x5 x6 x7 x8;exact iW @x0 @x1 @x2 @x3 @x4 @x5 @x6 @x7 @x8 aF aF aF aF aF aF aF aF aF aF aF aF aF aF aF aF aF):p:=h x0 x1 x2 x3 x4 x5 x6 x7 x8
theorem gZ{q0 q1 q2 q3 q4 q5 q6 q7 q8 q9 p:Prop}(x0:q0)(x1:q1)(x2:q2)(x3:q3)(x4:q4)(x5:q5)(x6:q6)(x7:q7)(x8:q8)(x9:q9)(h:q0->q1->q2->q3->q4->q5->q6->q7->q8->q9->p:=by intro x0 x1 x2 x3 x4 x5 x6 x7 x8 x9;exact iW @x0 @x1 @x2 @x3 @x4 @x5 @x6 @x7 @x8 @x9 aF aF aF aF aF aF aF aF aF aF aF aF aF aF aF aF):p:=h x0 x1 x2 x3 x4 x5 x6 x7 x8 x9
theorem eK{q0 q1 q2 q3 q4 q5 q6 q7 q8 q9 q10 q11 q12 p:Prop}(x0:q0)(x1:q1)(x2:q2)(x3:q3)(x4:q4)(x5:q5)(x6:q6)(x7:q7)(x8:q8)(x9:q9)(x10:q10)(x11:q11)(x12:q12)(h:q0->q1->q2->q3->q4->q5->q6->q7->q8->q9->q10->q11->q12->p:=by intro x0 x1 x2 x3 x4 x5 x6 x7 x8 x9 x10 x11 x12;exact iW @x0 @x1 @x2 @x3 @x4 @x5 @x6 @x7 @x8 @x9 @x10 @x11 @x12 aF aF aF aF aF aF aF aF aF aF aF aF aF):p:=h x0 x1 x2 x3 x4 x5 x6 x7 x8 x9 x10 x11 x12
theorem eD{q0 q1 q2 q3 q4 q5 q6 q7 q8 q9 q10 q11 q12 q13 q14 q15 q16 q17 q18 q19 p:Prop}(x0:q0)(x1:q1)(x2:q2)(x3:q3)(x4:q4)(x5:q5)(x6:q6)(x7:q7)(x8:q8)(x9:q9)(x10:q10)(x11:q11)(x12:q12)(x13:q13)(x14:q14)(x15:q15)(x16:q16)(x17:q17)(x18:q18)(x19:q19)(h:q0->q1->q2->q3->q4->q5->q6->q7->q8->q9->q10->q11->q12->q13->q14->q15->q16->q17->q18->q19->p:=by intro x0 x1 x2 x3 x4 x5 x6 x7 x8 x9 x10 x11 x12 x13 x14 x15 x16 x17 x18 x19;exact iW @x0 @x1 @x2 @x3 @x4 @x5 @x6 @x7 @x8 @x9 @x10 @x11 @x12 @x13 @x14 @x15 @x16 @x17 @x18 @x19 aF aF aF aF aF aF):p:=h x0 x1 x2 x3 x4 x5 x6 x7 x8 x9 x10 x11 x12 x13 x14 x15 x16 x17 x18 x19
end
section
open Go Go.DL
theorem q77{vs:List AV}{h:XH}(hl:vs.length<=12):runW aB 94 vs h=eY none x94.res x94.ownR h.length (execW aB 94 h.length none x94.body (aX (if x94.ownA then vs else kI vs)) h):=cJ rfl hl h rfl
theorem q45{vs:List AV}{h:XH}(hl:vs.length<=31):runW aB 46 vs h=eY none x46.res x46.ownR h.length (execW aB 46 h.length none x46.body (aX (if x46.ownA then vs else kI vs)) h):=cJ rfl hl h rfl
def Byt(f:List Nat):Prop:=∀(i x:Nat),f[i]?=some x->x<256
theorem tL:∀{f:List Nat},iL (bV f)=some (f.map UInt8.ofNat)
 | []=>rfl
 | x::f=>by
   have ih:=tL (f:=f);show (iL (bV f)).map _=_;rw[ih];rfl
theorem aRq{run:fC}{g:Nat}{vs:List AV}{v:AV}{hl h:XH}(hn:mI vs=[])(hr:∀ s,mR s vs=vs)(hrun:run g vs []=some (v,hl))(hg:gdA v=true):qC run (.fn (.func g) [] []) vs h=some v:=by
 unfold qC;dsimp only;have hp:iH ([]++vs++[]) h=[]:=by
  unfold iH;rw[D4,J3,hn];rfl
 rw[hp,D4,J3,hr];show (match run g vs []with|some (v,hl)=>if gdA v&&aGa [] hl then some v else none|none=>none)=some v;rw[hrun];dsimp only;rw[hg];rfl
theorem w77{f:List Nat}{row:Nat}(hf:f.length=40)(hb:Byt f)(hrow:row<=1000000):runW aB 94 [xY f,I (row:Int)] []=some (.str (kZ (qG row f)),[]):=by
 rw[q77 (by simp)];unfold x94;dsimp only;have lf:=bG f;rw[hf]at lf;have gf:=bW f;have c1:=bCw hf hb hrow;rw[bZ]at c1 ⊢;have t1:=gS hf;have t2:=jY hf;have bu:=tL (f:=f);have cq:=aRq (run:=runW aB) (h:=[some (XB.blk true (ABlk.cells true (bV f)))]) (by show kK (.agg (bV f))++_=[];simp only[kK,dK];rfl) (λs=>by show rnA s (.agg (bV f))::_=_;simp only[rnA,dZ];rfl) c1 rfl;have hd:(aKI (chk row f)).size=4:=rfl;have s1:=eA (a:=aKI (chk row f)) (b:=⟨⟨f.map UInt8.ofNat⟩⟩) (by grind [aCh]);have s2:=eA (a:=aKI (chk row f)++⟨⟨f.map UInt8.ofNat⟩⟩) (b:=⟨#[10]⟩) (by grind [aCh]);have s3:kZ (qG row f)=(aKI (chk row f)++⟨⟨f.map UInt8.ofNat⟩⟩)++⟨#[10]⟩:=by
  unfold aKI kZ qG
  grind [aYb]
 rw[s3];(exact eK lf gf t1 t2 cq bu s1 s2 eF dK dZ eG aF)
def pv(t x y:Nat):Nat:=32+(iM x+t*iM y)%95
theorem aDU{t x y:Nat}:∀{l m:List Nat},l.length=m.length->dA t (l++[x]) (m++[y])=dA t l m++[pv t x y]
 | [],[],_=>rfl
 | [],_::_,h=>by simp at h
 | _::_,[],h=>by simp at h
 | a::l,b::m,h=>by
   simp only[M5,dA];rw[aDU (by simpa using h)]
theorem mE{t:Nat}:∀{l m:List Nat},l.length=m.length->(dA t l m).length=l.length
 | [],[],_=>rfl
 | [],_::_,h=>by simp at h
 | _::_,[],h=>by simp at h
 | a::l,b::m,h=>by simp only[dA,D7,mE (l:=l) (m:=m) (by simpa using h)]
theorem aZs(t x y:Nat):pv t x y<127:=by
 grind [pv]
theorem sN{t:Nat}:∀{l m:List Nat},Byt (dA t l m)
 | [],m=>by simp[Byt,dA]
 | a::l,[]=>by simp[Byt,dA]
 | a::l,b::m=>by
   intro i x h;simp only[dA]at h;cases i with
   | zero=>simp at h;subst h;exact E5 (aZs t a b) (by decide)
   | succ i=>exact sN (l:=l) (m:=m) i x (by simpa using h)
def plS(t:Nat)(f o:List Nat)(i:Nat):List Nat:=dA t (f.take i) (o.take i)++f.drop i
section
variable{t:Nat}{f o:List Nat}
theorem aZC(hf:f.length=40)(ho:o.length=40):plS t f o 40=dA t f o:=by
 grind [plS]
theorem aDW(hf:f.length=40)(ho:o.length=40){i:Nat}(hi:i<=40):(dA t (f.take i) (o.take i)).length=i:=by
 grind [mE]
theorem aKg(hf:f.length=40)(ho:o.length=40){i:Nat}(hi:i<=40):(plS t f o i).length=40:=by
 grind [aDW,plS]
theorem aZB(hf:f.length=40)(ho:o.length=40){i x:Nat}(hi:i<40)(hx:f[i]?=some x):(plS t f o i)[i]?=some x:=by
 unfold plS;rw[I8 (by rw[aDW hf ho AS];omega),aDW hf ho AS,N8,List.getElem?_drop];exact hx
theorem aXa(hf:f.length=40)(ho:o.length=40){i x y:Nat}(hi:i<40)(hx:f[i]?=some x)(hy:o[i]?=some y):bJ (bV (plS t f o i)) i [.int .u8 ((pv t x y:Nat):Int)]=bV (plS t f o (i+1)):=by
 rw[aOy (by grind [aKg])];congr 1;unfold plS;have h1:f.take (i+1)=f.take i++[x]:=by grind [List.take_add_one]
 have h2:o.take (i+1)=o.take i++[y]:=by grind [List.take_add_one]
 have h3:f.drop i=x::f.drop (i+1):=by
  grind [List.drop_eq_getElem_cons]
 rw[h1,h2,aDU (by grind),h3,List.set_append_right _ _ (by rw[aDW hf ho AS];omega),aDW hf ho AS,N8];simp
end
theorem w45{f o:List Nat}{t:Nat}(hf:f.length=40)(ho:o.length=40)(bf:Byt f)(bo:Byt o)(ht:t<=94):runW aB 46 [xY f,xY o,I (t:Int)] []=some (xY (dA t f o),[]):=by
 rw[q45 (by simp)];unfold x46;dsimp only;have e0:((40:Int)<40)=False:=AAb;have lf:=bG f;rw[hf]at lf;have lo:=bG o;rw[ho]at lo;have gf:=bW f;have go:=bW o;have l0:(bV (nf 0)).length=40:=by rfl
 have g0:=bW (nf 0);rw[bZ,bZ,bZ];sym =>
  simp[cN,cO,eZ,Za,Zb,Zf,Zh,Zl,Zo,Zv,Zw,Zz,Wh,Wk,Vb,Ve,Vs,VH,Tg,Tr,Tu,Tv,Tz,T2,T8,TS,TT,TZ,Sa,Sn,Sp,SN,SX,Rb,Rc,Rk,Rl,e0,lf,lo,gf,go,eF,dK,dZ,eG]
  tactic =>
   unfold aVk;rw[aG 40 (λi=>[I (t:Int),.pt 0 0,.pt 1 0,.pt 2 0,I (i:Nat)]) (λi=>[aa (bV (plS t f o i)),aa (bV o),aa (bV (nf 0))])]
   .have hp:=aZC (t:=t) hf ho
    have hpl:=aKg (t:=t) hf ho (i:=40) AS;rw[hp]at hpl;have c4:=bG (dA t f o);rw[hpl]at c4;have c5:=gS hpl;have c6:=jY hpl;have c7:=bW (dA t f o);have c8:=kO (a:=nf 0) (b:=dA t f o) (by grind [rG]);(exact eD e0 hp lo l0 c4 c5 c6 c7 c8 go g0 eF dK dZ eG aF aF aF aF aF)
   .rfl
   .intro i hi
    have i1:((i:Int)<40)=True:=AAa;have a2:=cV (n:=40) hi AS;obtain⟨x,hx⟩:=dO (l:=f) (i:=i) AS;obtain⟨y,hy⟩:=dO (l:=o) (i:=i) AS;have hx':=aOz (aZB (t:=t) hf ho hi hx);have hy':=aOz hy;have b1:=aRl (bf i x hx);have b2:=aRl (bo i y hy);have hcx:=aHL x;have hcy:=aHL y;have b3:IntKind.i64.wrap ((iM x:Nat):Int)=((iM x:Nat):Int):=aE AS AS;have b4:IntKind.i64.wrap ((iM y:Nat):Int)=((iM y:Nat):Int):=aE AS AS;have hm:t*iM y<=94*255:=O6 ht AS;have b5:IntKind.i64.wrap ((t:Int)*((iM y:Nat):Int))=((t*iM y:Nat):Int):=by
     grind [aE]
    have b6:IntKind.i64.wrap (((iM x:Nat):Int)+((t*iM y:Nat):Int))=((iM x+t*iM y:Nat):Int):=by
     grind [aE]
    have b7:tmZ ((iM x+t*iM y:Nat):Int) 95=(((iM x+t*iM y)%95:Nat):Int):=iT _ _;have hr:=aA4 (iM x+t*iM y) (show 0<95 by decide);have b8:IntKind.u8.wrap (((iM x+t*iM y)%95:Nat):Int)=(((iM x+t*iM y)%95:Nat):Int):=by
     simp[IntKind.wrap,IntKind.bits,IntKind.signed];omega
    have b9:IntKind.u8.wrap (32+(((iM x+t*iM y)%95:Nat):Int))=((pv t x y:Nat):Int):=by
     unfold pv;simp[IntKind.wrap,IntKind.bits,IntKind.signed];omega
    have ns:=aXa (t:=t) hf ho hi hx hy;have n1:=bG (plS t f o i);rw[aKg hf ho AS]at n1;have n3:=bAd hi;generalize pv t x y=P at *;generalize (iM x+t*iM y)%95=R at *;generalize iM x+t*iM y=S at *;generalize t*iM y=T at *;generalize iM x=cx at *;generalize iM y=cy at *;(exact iW i1 a2 hx' hy' b1 b2 b3 b4 b5 b6 b7 b8 b9 ns n1 n3 lo l0 go g0 eF dK dZ eG aF aF)
   ·(exact cI e0)
theorem q46{vs:List AV}{h:XH}(hl:vs.length<=6):runW aB 47 vs h=eY none x47.res x47.ownR h.length (execW aB 47 h.length none x47.body (aX (if x47.ownA then vs else kI vs)) h):=cJ rfl hl h rfl
theorem q36{vs:List AV}{h:XH}(hl:vs.length<=5):runW aB 41 vs h=eY none x41.res x41.ownR h.length (execW aB 41 h.length none x41.body (aX (if x41.ownA then vs else kI vs)) h):=cJ rfl hl h rfl
theorem q42{vs:List AV}{h:XH}(hl:vs.length<=23):runW aB 43 vs h=eY none x43.res x43.ownR h.length (execW aB 43 h.length none x43.body (aX (if x43.ownA then vs else kI vs)) h):=cJ rfl hl h rfl
theorem p74{xs:List AV}{h:XH}:runW aB 97 xs h=aLv xs h:=cM rfl rfl xs h
theorem p80{xs:List AV}{h:XH}:runW aB 100 xs h=aDQ xs h:=cM rfl rfl xs h
def lnB(f:List Nat):ByteArray:=⟨⟨Lib.trimRightB (f.map UInt8.ofNat) 32⟩⟩
theorem w46{f:List Nat}(hf:f.length=40):runW aB 47 [xY f] []=some (.str (lnB f),[]):=by
 rw[q46 (by simp)];unfold x47;dsimp only;have lf:=bG f;rw[hf]at lf;have gf:=bW f;have bu:=tL (f:=f);have t1:=gS hf;have t2:=jY hf;have c1:runW aB 100 [.str ⟨⟨f.map UInt8.ofNat⟩⟩,.str ⟨⟨[32]⟩⟩] []=some (.str (lnB f),[]):=by
  rw[p80];unfold aDQ;dsimp only;rw[if_pos ⟨by decide,by grind [aCh]⟩];rfl
 rw[bZ];(exact gZ lf gf t1 t2 bu c1 eF dK dZ eG)
theorem w36(s:ByteArray):runW aB 41 [.str s] []=some (.bool (zD s.data.toList),[]):=by
 rw[q36 (by simp)];unfold x41;dsimp only;have c1:runW aB 97 [.str s,.fn (.func 98) [] []] []=some (.bool (zD s.data.toList),[]):=by rw[p74];rfl
 (exact cI c1)
def qU(s:ByteArray):ByteArray:=fK s 4 44
def rdF(s:ByteArray):List Nat:=newF (bN (qU s))
def aCr(s:ByteArray)(n:Nat):Bool := !zD (qU s).data.toList&&((kZ (qG n (rdF s))).toList==s.toList)
theorem aHR(s:ByteArray):Byt (bN s):=by
 intro i x h;unfold bN at h;rw[C3,B2]at h;obtain⟨b,_,rfl⟩:=h;exact b.toNat_lt
theorem pK{l:List Nat}(h:Byt l):Byt (newF l):=by
 grind [Byt,newF]
theorem aAD(a b:ByteArray):aN BinOp.eql a b=some (.bool (a.toList==b.toList)):=rfl
theorem w42{s:ByteArray}{n:Nat}(hs:s.size=45)(hn:n<=1000000):runW aB 43 [.str s,I (n:Int)] []=some (.tup [xY (rdF s),.bool (aCr s n)],[]):=by
 rw[q42 (by simp)];unfold x43;dsimp only;have hs':((45:Int)=45)=True:=AAn rfl;have l1:=iI (bN (qU s));have b1:=pK (aHR (qU s));have c1:=w44 (qU s);have c2:=w36 (qU s);have c3:=w77 (row:=n) l1 b1 hn;have hx:fK s 4 44=qU s:=rfl;have n44:Int.toNat 44=44:=rfl;have n4:Int.toNat 4=4:=rfl;have n45:((4:Int)<=((44:Nat):Int))=True:=AAa;rw[bZ]at c1 c3 ⊢;have lf:=bG (newF (bN (qU s)));rw[l1]at lf;have t1:=gS l1;have t2:=jY l1;have gf:=bW (newF (bN (qU s)));have l0:(bV (nf 0)).length=40:=by rfl
 have g0:=bW (nf 0);have a1:=kO (a:=nf 0) (b:=newF (bN (qU s))) (by grind [rG]);have e1:=aAD (kZ (qG n (newF (bN (qU s))))) s;unfold aCr rdF;cases hu:zD (qU s).data.toList with
 | true =>
   rw[hu]at c2;(exact eD hs hx n44 n4 n45 c1 c2 lf t1 t2 gf l0 g0 a1 eF dK dZ eG aF aF)
 | false =>
   rw[hu]at c2;(exact eD hs hx n44 n4 n45 c1 c2 c3 e1 lf t1 t2 gf l0 g0 a1 eF dK dZ eG)
theorem q43{vs:List AV}{h:XH}(hl:vs.length<=18):runW aB 44 vs h=eY none x44.res x44.ownR h.length (execW aB 44 h.length none x44.body (aX (if x44.ownA then vs else kI vs)) h):=cJ rfl hl h rfl
def fA(C:List Nat)(k:Nat):List Nat:=(C.drop (k*40)).take 40
def dY(C:List Nat):Nat->List Nat
 | 0=>newF []
 | k+1=>dA 1 (dY C k) (fA C k)
theorem yU{C:List Nat}{n k:Nat}(h:n*40<=C.length)(hk:k<n):(fA C k).length=40:=by
 grind [fA]
theorem aDa{C:List Nat}(h:Byt C)(k:Nat):Byt (fA C k):=by
 grind [Byt,fA]
theorem eN{C:List Nat}{n:Nat}(h:n*40<=C.length):∀ k,k<=n->(dY C k).length=40
 | 0,_=>iI []
 | k+1,hk=>by
   have h1:=eN h k AS;rw[dY,mE (by rw[h1,yU h AS])];exact h1
theorem yF{C:List Nat}:∀ k,Byt (dY C k)
 | 0=>pK (λi x h=>by simp at h)
 | k+1=>sN
theorem aGi{C:List Nat}{k:Nat}:((bV C).drop (k*40)).take 40=bV (fA C k):=by
 simp[bV,fA]
def aNM:XCode:=(.loop [2,3,7,8,9] (.seq (.reg [] false [⟨0,(some 10),(.bin .lss (.t 9) (.t 8)),none⟩]) (.seq (.cond (.t 10) .skip (.exit 0)) (.seq (.block 1 (.seq (.reg [] false [⟨0,(some 11),(.idx 40 (.t 7) (.t 9)),none⟩,⟨0,(some 12),(.load true 40 (.t 11)),none⟩,⟨0,(some 5),(.alloc (bV (nf 0))),none⟩,⟨0,none,(.store 40 (.t 5) (.t 12) []),none⟩]) (.reg [] false [⟨0,(some 13),(.load true 40 (.t 3)),none⟩,⟨0,(some 14),(.load true 40 (.t 5)),none⟩,⟨0,(some 15),(.callf false (.c (.fn (.func 46) [] [])) [(.t 13),(.t 14),(.c (.int .i64 1))] []),none⟩,⟨0,none,(.store 40 (.t 3) (.t 15) []),none⟩]))) (.reg [] false [⟨0,(some 16),(.bin .add (.t 9) (.c (.int .i64 1))),none⟩,⟨0,(some 9),(.mv (.t 16)),none⟩])))))
theorem aNN:aVm=aNM:=rfl
theorem w43{C:List Nat}{n:Nat}(hC:n*40<=C.length)(hb:Byt C)(hn:n<=1000):runW aB 44 [.sl 0 0 40 n] [aa (bV C)]=some (xY (dY C n),[aa (bV C)]):=by
 rw[q43 (by simp)];unfold x44;dsimp only;have c1:=w44 ⟨⟨[]⟩⟩;have hnf:newF (bN ⟨⟨[]⟩⟩)=newF []:=rfl;rw[hnf]at c1;rw[bZ]at c1 ⊢;have l0:(bV (nf 0)).length=40:=by rfl
 have g0:=bW (nf 0);have l1:=iI [];have lf:=bG (newF []);rw[l1]at lf;have gf:=bW (newF []);have a1:=kO (a:=nf 0) (b:=newF []) (by rfl);have t1:=gS l1;have t2:=jY l1;have gC:=bW C;sym =>
  simp[Za,Zb,Zc,Zf,Zh,Zl,Zm,Zv,Zw,ZS,Ya,Yb,Yf,Yi,Yn,Yo,Yx,XL,Wh,Wx,Wy,Vh,Vs,V5,V8,V9,VF,VG,VH,VQ,VX,VZ,Ue,Uf,Ut,Uu,Uv,Tg,Tr,Ts,Tt,Tu,Tv,Tw,Tz,T2,T8,TF,TN,TO,TP,TQ,TR,TS,TT,TZ,Sa,Sc,SI,SJ,SX,Rb,Rc,Rk,Rl,PI,PJ,PK,PL,c1,l0,g0,lf,gf,a1,t1,t2,gC,eF,dK,dZ,eG]
  tactic =>
   rw[aNN];unfold aNM;rw[aG n (λi=>[.pt 1 0,.pt 2 0,.sl 0 0 40 n,I (n:Nat),I (i:Nat)]) (λi=>[aa (bV C),aa (bV (nf 0)),aa (bV (dY C i))])]
   .have e0:((n:Int)<(n:Int))=False:=AAb
    have l3:=eN hC n (B5 _);have c4:=bG (dY C n);rw[l3]at c4;have c5:=gS l3;have c6:=jY l3;have c7:=bW (dY C n);have c8:=kO (a:=nf 0) (b:=dY C n) (by grind [rG]);(exact eK e0 l0 g0 c4 c5 c6 c7 c8 gC eF dK dZ eG)
   .rfl
   .intro i hi
    have i1:((i:Int)<(n:Int))=True:=AAa;have a2:=cV hi AS;have lC:=bG C;have i3:(i*40+40<=(bV C).length)=True:=AAn (by
     omega)
    have fu:=aGi (C:=C) (k:=i);have l3:=eN hC i AS;have l4:=eN hC (i+1) AS;have l5:=yU hC hi;have w:=w45 (t:=1) l3 l5 (yF i) (aDa hb i) AS;have ws:dA 1 (dY C i) (fA C i)=dY C (i+1):=rfl;rw[ws]at w;rw[bZ,bZ,bZ]at w;have m3:=bG (dY C i);rw[l3]at m3;have m4:=bG (dY C (i+1));rw[l4]at m4;have m5:=bG (fA C i);rw[l5]at m5;have c8:=kO (a:=nf 0) (b:=fA C i) (by grind [rG]);have c9:=kO (a:=dY C i) (b:=dY C (i+1)) (by rw[l3,l4]);have k3:=gS l3;have k4:=jY l3;have k5:=gS l5;have k6:=jY l5;have g3:=bW (dY C i);have g4:=bW (dY C (i+1));have g5:=bW (fA C i);have w':runW aB 46 [.agg (bV (dY C i)),.agg (bV (fA C i)),I 1] []=some (.agg (bV (dY C (i+1))),[]):=w;generalize dY C (i+1)=S' at *;generalize dY C i=S at *;generalize fA C i=f at *;(exact iW i1 a2 i3 fu w' m3 m4 m5 c8 c9 k3 k4 k5 k6 g3 g4 g5 gC l0 g0 eF dK dZ eG aF aF)
   .have e0:((n:Int)<(n:Int))=False:=AAb
    (exact cI e0)
theorem aGo{cs:List AV}{s:Nat}:∀{n o i:Nat},i<n->(bK cs o s n)[i]?=some ((cs.drop (o+i*s)).take s)
 | 0,_,_,h=>absurd h AS
 | n+1,o,0,_=>by simp[bK]
 | n+1,o,i+1,h=>by
   rw[bK,I1,aGo AS,aG1 i 1,Nat.one_mul,aE9,Nat.add_comm s]
theorem bBr{C:List Nat}{n:Nat}(hC:n*40<=C.length):(bK (bV C) 0 40 n).length=n/\∀ i,i<n->(bK (bV C) 0 40 n)[i]?=some (bV (fA C i)):=by
 obtain⟨h1,_,_⟩:=aAr (cs:=bV C) (s:=40) (n:=n) (o:=0) (by rw[bG];omega);refine⟨h1,λi hi=>?_⟩;rw[aGo hi,J6,aGi]
theorem bBQ{C:List Nat}{n:Nat}(hC:n*40<=C.length)(hb:Byt C)(hn:n<=1000):runW aB 44 [.fs (bK (bV C) 0 40 n)] []=some (xY (dY C n),[]):=by
 rw[q43 (by simp)];unfold x44;dsimp only;have c1:=w44 ⟨⟨[]⟩⟩;have hnf:newF (bN ⟨⟨[]⟩⟩)=newF []:=rfl;rw[hnf]at c1;rw[bZ]at c1 ⊢;have l0:(bV (nf 0)).length=40:=by rfl
 have g0:=bW (nf 0);have l1:=iI [];have lf:=bG (newF []);rw[l1]at lf;have gf:=bW (newF []);have a1:=kO (a:=nf 0) (b:=newF []) (by rfl);have t1:=gS l1;have t2:=jY l1;obtain⟨rl,ra⟩:=bBr hC;generalize bK (bV C) 0 40 n=R at *;sym =>
  simp[Za,Zb,Zc,Zf,Zh,Zl,Zm,Zv,Zw,ZS,Ya,Yb,Yf,Yi,Yn,Yo,Yw,XL,Wh,Wx,Wy,Vg,Vs,V5,V8,V9,VF,VG,VH,VQ,VX,VZ,Ue,Uf,Ut,Uu,Uv,Tg,Tr,Ts,Tt,Tu,Tv,Tw,Tz,T2,T8,TF,TN,TO,TP,TQ,TR,TS,TT,TZ,Sa,Sc,SI,SJ,SX,Rb,Rc,Rk,Rl,PI,PJ,PK,PL,rl,c1,l0,g0,lf,gf,a1,t1,t2,eF,dK,dZ,eG]
  tactic =>
   rw[aNN];unfold aNM;rw[aG n (λi=>[.pt 0 0,.pt 1 0,.fs R,I (n:Nat),I (i:Nat)]) (λi=>[aa (bV (nf 0)),aa (bV (dY C i))])]
   .have e0:((n:Int)<(n:Int))=False:=AAb
    have l3:=eN hC n (B5 _);have c4:=bG (dY C n);rw[l3]at c4;have c5:=gS l3;have c6:=jY l3;have c7:=bW (dY C n);have c8:=kO (a:=nf 0) (b:=dY C n) (by grind [rG]);(exact eK e0 l0 g0 c4 c5 c6 c7 c8 eF dK dZ eG aF)
   .rfl
   .intro i hi
    have i1:((i:Int)<(n:Int))=True:=AAa;have a2:=cV hi AS;have i3:(i<R.length)=True:=AAa;have fu:=ra i hi;have l3:=eN hC i AS;have l4:=eN hC (i+1) AS;have l5:=yU hC hi;have w:=w45 (t:=1) l3 l5 (yF i) (aDa hb i) AS;have ws:dA 1 (dY C i) (fA C i)=dY C (i+1):=rfl;rw[ws]at w;rw[bZ,bZ,bZ]at w;have m3:=bG (dY C i);rw[l3]at m3;have m4:=bG (dY C (i+1));rw[l4]at m4;have m5:=bG (fA C i);rw[l5]at m5;have c8:=kO (a:=nf 0) (b:=fA C i) (by grind [rG]);have c9:=kO (a:=dY C i) (b:=dY C (i+1)) (by rw[l3,l4]);have k3:=gS l3;have k4:=jY l3;have k5:=gS l5;have k6:=jY l5;have g3:=bW (dY C i);have g4:=bW (dY C (i+1));have g5:=bW (fA C i);have w':runW aB 46 [.agg (bV (dY C i)),.agg (bV (fA C i)),I 1] []=some (.agg (bV (dY C (i+1))),[]):=w;generalize dY C (i+1)=S' at *;generalize dY C i=S at *;generalize fA C i=f at *;(exact iW i1 a2 i3 fu rl w' m3 m4 m5 c8 c9 k3 k4 k5 k6 g3 g4 g5 l0 g0 eF dK dZ eG aF aF)
   .have e0:((n:Int)<(n:Int))=False:=AAb
    (exact cI e0)
theorem q69{vs:List AV}{h:XH}(hl:vs.length<=19):runW aB 35 vs h=eY none x35.res x35.ownR h.length (execW aB 35 h.length none x35.body (aX (if x35.ownA then vs else kI vs)) h):=cJ rfl hl h rfl
theorem aZJ{xs:List AV}{h:XH}:runW aB 92 xs h=aHl xs h:=cM rfl rfl xs h
theorem p71{xs:List AV}{h:XH}:runW aB 38 xs h=aIG xs h:=cM rfl rfl xs h
def eE(s:ByteArray):List AV:=s.data.toList.map λb=>.int .u8 (b.toNat:Int)
theorem aOL(s:ByteArray):s.data.toList.map (λb=>AV.int .u8 (b.toNat:Int))=eE s:=rfl
theorem aDk(s:ByteArray):(eE s).length=s.size:=by
 simp[eE]
theorem aOM(a b:ByteArray):eE a++eE b=eE (a++b):=by
 simp[eE]
theorem fR(s:ByteArray):lE (eE s)=true:=fJ λv hv=>by
 grind [iD,eE]
theorem aQr{α:Type}{g:α->AV}(hg:∀ a,kK (g a)=[])(l:List α):mI (l.map g)=[]:=by
 induction l with
 | nil=>rfl
 | cons a l ih=>grind [mI]
theorem aQp{α:Type}{g:α->AV}(hg:∀ a,slN (g a)=[])(l:List α):slL (l.map g)=[]:=by
 induction l with
 | nil=>rfl
 | cons a l ih=>grind [slL]
theorem aQq{α:Type}{g:α->AV}{s:Nat->Option Nat}(hg:∀ a,rnA s (g a)=g a)(l:List α):mR s (l.map g)=l.map g:=by
 induction l with
 | nil=>rfl
 | cons a l ih=>grind [mR]
theorem eL(s:ByteArray):mI (eE s)=[]:=aQr (λ_=>rfl) _
theorem eW(s:ByteArray):slL (eE s)=[]:=aQp (λ_=>rfl) _
theorem eX(f:Nat->Option Nat)(s:ByteArray):mR f (eE s)=eE s:=aQq (λ_=>rfl) _
theorem aMi:∀ l:List UInt8,aCw (l.map λb=>AV.int .u8 (b.toNat:Int))=some l
 | []=>rfl
 | b::l=>by
   have ih:=aMi l;have hb:=b.toNat_lt;show (if 0<=(b.toNat:Int)/\(b.toNat:Int)<256 then (aCw (l.map λb=>AV.int .u8 (b.toNat:Int))).map (UInt8.ofNat (b.toNat:Int).toNat :: ·) else none)=_;rw[if_pos AS,ih];simp
theorem aIn(H:Hp)(s:ByteArray):fX 1 H (.str s)=some (s.size,eE s):=rfl
theorem aJh(h:XH)(s:ByteArray):lH h (.str s)=true:=rfl
theorem aWp{s:ByteArray}(h0:0<s.size)(h1:s.size<=100000):runW aB 35 [.bp 0,.str s] [aa [.nilpt,.nilsl]] =
 some (.tup [I (s.size:Nat),.nilifc],[ab [.pt 0 0,.sb 1 s.size],aa (eE s)]):=by
 rw[q69 (by simp)];unfold x35;dsimp only;have c1:runW aB 92 [.bp 0] [aa [.nilpt,.nilsl]]=some (.tup [],[ab [.pt 0 0,.nilsl]]):=by rw[aZJ];rfl
 have z1:(s.size=0)=False:=AAb;have z2:(s.size*1048577<=1099511627776)=True:=AAa;have z3:(s.size<=1099511627776)=True:=AAa;have g1:=fR s;(exact gZ c1 z1 z2 z3 aIn aJh eL eW eX g1)
theorem aWo{s a:ByteArray}(h0:0<s.size)(h1:s.size<=100000)(h2:a.size<=100000):runW aB 35 [.bp 0,.str s] [ab [.pt 0 0,.sb 1 a.size],aa (eE a)] =
 some (.tup [I (s.size:Nat),.nilifc],[ab [.pt 0 0,.sb 2 (a.size+s.size)],none,aa (eE (a++s))]):=by
 rw[q69 (by simp)];unfold x35;dsimp only;have c1:runW aB 92 [.bp 0] [ab [.pt 0 0,.sb 1 a.size],aa (eE a)]=some (.tup [],[ab [.pt 0 0,.sb 1 a.size],aa (eE a)]):=by rw[aZJ];rfl
 have l1:=aDk a;have z3:(a.size+s.size<=1099511627776)=True:=AAa;have z4:(a.size+s.size<=1099511627776/\True)=True:=AAn ⟨by omega,trivial⟩;have g1:=fR s;have g2:=fR a;have g3:=fR (a++s);have e1:=aOM a s;(exact eK c1 l1 z3 aIn aJh eL eW eX g1 g2 g3 e1 aF)
theorem w71{a:ByteArray}(h0:0<a.size)(h1:a.size<=1000000):runW aB 38 [.bp 0] [ab [.pt 0 0,.sb 1 a.size],aa (eE a)]=some (.str a,[ab [.pt 0 0,.sb 1 a.size],none]):=by
 rw[p71];have hl:=aDk a;have hb:=aMi a.data.toList;have hsz:a.size=a.data.toList.length:=by rfl
 unfold aIG;simp only[hat,aC7,List.getD_cons_succ];rw[C9 AS];unfold eE;rw[hb];cases hd:a.data.toList with
 | nil=>grind
 | cons x l =>
   dsimp only;have hc:a.size<=(List.map (λb:UInt8=>AV.int IntKind.u8 (b.toNat:Int)) (x::l)).length/\(1:Nat)≠0/\a.size<=1000000:=⟨by grind,by decide,h1⟩;rw[if_pos hc];have ha:(⟨⟨x::l⟩⟩:ByteArray)=a:=by
    rw[<-hd]
   rw[ha];rfl
def aUX:XCode:=(.loop [1,5,6,9,10,11] (.seq (.reg [] false [⟨0,(some 12),(.bin .lss (.t 11) (.t 10)),none⟩]) (.seq (.cond (.t 12) .skip (.exit 0)) (.seq (.block 1 (.seq (.reg [] false [⟨0,(some 13),(.mv (.t 11)),none⟩,⟨0,(some 14),(.idx 1 (.t 9) (.t 11)),none⟩,⟨0,(some 15),(.load false 1 (.t 14)),none⟩,⟨0,(some 7),(.mv (.t 13)),none⟩,⟨0,(some 8),(.mv (.t 15)),none⟩]) (.seq (.reg [(8,false)] false [⟨0,(some 16),(.mv (.t 6)),none⟩,⟨0,(some 17),(.mv (.t 8)),none⟩,⟨0,(some 18),(.callf false (.c (.fn (.func 45) [] [])) [(.t 17)] []),none⟩,⟨0,(some 19),(.bslice 40 1 (bV (nf 0)) [(0,(40,(.t 18)))]),none⟩,⟨0,(some 20),(.app 40 40 (.t 16) (.t 19)),none⟩,⟨0,(some 6),(.mv (.t 20)),none⟩]) (.reg [(5,false)] false [⟨0,(some 21),(.mv (.t 6)),none⟩,⟨0,(some 22),(.mv (.t 7)),none⟩,⟨0,(some 23),(.idx 40 (.t 21) (.t 22)),none⟩,⟨0,(some 24),(.load true 40 (.t 23)),none⟩,⟨0,(some 25),(.mv (.t 1)),none⟩,⟨0,(some 26),(.mv (.t 7)),none⟩,⟨0,(some 27),(.bin .add (.t 25) (.t 26)),none⟩,⟨0,(some 28),(.callf false (.c (.fn (.func 94) [] [])) [(.t 24),(.t 27)] []),none⟩,⟨0,(some 29),(.callf false (.c (.fn (.func 35) [] [])) [(.t 5),(.t 28)] []),none⟩])))) (.reg [] false [⟨0,(some 30),(.bin .add (.t 11) (.c (.int .i64 1))),none⟩,⟨0,(some 11),(.mv (.t 30)),none⟩])))))
theorem aWe:aVo=aUX:=rfl
def rH(s:ByteArray):List Nat:=newF (bN s)
theorem qM(s:ByteArray):(rH s).length=40:=iI _
theorem aCV(s:ByteArray):Byt (rH s):=pK (aHR s)
def Cn(ls:List ByteArray)(i:Nat):List Nat:=((ls.take i).map rH).flatten
def rwB(row:Nat)(f:List Nat):ByteArray:=kZ (qG row f)
def Bn(ls:List ByteArray)(row:Nat):Nat->ByteArray
 | 0=>⟨⟨[]⟩⟩
 | i+1=>Bn ls row i++rwB (row+i) (rH (ls.getD i ⟨⟨[]⟩⟩))
theorem aPp{row:Nat}{f:List Nat}(h:f.length=40):(qG row f).length=45:=by simp[qG,xU,h]
theorem aAO{row:Nat}{f:List Nat}(h:f.length=40):(rwB row f).size=45:=by
 unfold rwB kZ
 grind [aCh,aPp]
theorem yZ(ls:List ByteArray)(row:Nat):∀ i,(Bn ls row i).size=i*45
 | 0=>rfl
 | i+1=>by rw[Bn,J0,yZ ls row i,aAO (qM _)];omega
theorem aUq(a:ByteArray):(⟨⟨[]⟩⟩:ByteArray)++a=a:=by
 rfl
theorem mQ{ls:List ByteArray}:∀{i:Nat},i<=ls.length->(Cn ls i).length=i*40
 | 0,_=>by simp[Cn]
 | i+1,h=>by
   have ih:=mQ (ls:=ls) (i:=i) AS;unfold Cn at *;rw[D6];obtain⟨x,hx⟩:=dO (l:=ls) (i:=i) AS;rw[hx];simp only[Option.toList_some,M3,E7,aA8,aC8,M6,aA7,J3,E6,ih,qM];omega
theorem aUV{ls:List ByteArray}{i:Nat}{s:ByteArray}(h:ls[i]?=some s):Cn ls (i+1)=Cn ls i++rH s:=by
 grind [List.take_add_one,Cn]
theorem aYk(ls:List ByteArray)(i:Nat):Byt (Cn ls i):=by
 intro k x h;have hm:=B3 h;unfold Cn at hm;obtain⟨l,h1,h2⟩:=aF0.1 hm;obtain⟨s,_,rfl⟩:=F8.1 h1;obtain⟨j,hj⟩:=G9 h2;exact aCV s j x hj
theorem bBF{ls:List ByteArray}{i:Nat}{s:ByteArray}(h:ls[i]?=some s):((bV (Cn ls (i+1))).drop (i*40)).take 40=bV (rH s):=by
 have hi:i<ls.length:=(B6.1 h).1;have hl:=mQ (ls:=ls) (i:=i) AS;rw[aUV h];unfold bV;rw[M3,List.drop_append_of_le_length (by grind),J8 (by grind),D4];exact C9 (by rw[B8,qM];omega)
theorem aOA(a b:List Nat):bV a++bV b=bV (a++b):=by simp[bV]
theorem aYl{ls:List ByteArray}{row i:Nat}{s:ByteArray}(h:ls[i]?=some s):Bn ls row (i+1)=Bn ls row i++rwB (row+i) (rH s):=by
 grind [Bn]
def lS(i:Nat):AV:=if i=0 then .nilsl else .sl 2 0 40 i
def rS(ls:List ByteArray):List (List AV):=ls.map λs=>[.str s]
theorem eP(ls:List ByteArray):(rS ls).length=ls.length:=by simp[rS]
theorem oC{ls:List ByteArray}{i:Nat}{s:ByteArray}(h:ls[i]?=some s):(rS ls)[i]?=some [.str s]:=by simp[rS,h]
theorem q35{vs:List AV}{h:XH}(hl:vs.length<=15):runW aB 40 vs h=eY none x40.res x40.ownR h.length (execW aB 40 h.length none x40.body (aX (if x40.ownA then vs else kI vs)) h):=cJ rfl hl h rfl
theorem w35(lo n hi:Int):runW aB 40 [I lo,I n,I hi] []=some (.bool (decide (lo<=n)&&decide (n<=hi)),[]):=by
 rw[q35 (by simp)];unfold x40;dsimp only;rcases mC (lo<=n)with h1|h1
 .have d1:decide (lo<=n)=true:=by simp[h1]
  (exact kJ h1 d1)
 .have d1:decide (lo<=n)=false:=by simp[h1]
  (exact kJ h1 d1)
def qF:ByteArray:=⟨#[]⟩
def pgB(ls:List ByteArray)(row:Nat):ByteArray:=Bn ls row ls.length++rwB (row+ls.length) (dY (Cn ls ls.length) ls.length)
theorem aVv(s:ByteArray):s.toList=s.data.toList:=ByteArray.toList_eq s
theorem q16{vs:List AV}{h:XH}(hl:vs.length<=121):runW aB 14 vs h=eY none x14.res x14.ownR h.length (execW aB 14 h.length none x14.body (aX (if x14.ownA then vs else kI vs)) h):=cJ rfl hl h rfl
def aUZ:XCode:=(.loop [0,1,4,5,7,8,9,35,36] (.seq (.reg [] false [⟨0,(some 37),(.bin .lss (.t 36) (.t 35)),none⟩]) (.seq (.cond (.t 37) .skip (.exit 1)) (.seq (.block 2 (.seq (.reg [] false [⟨0,(some 38),(.mv (.t 36)),none⟩,⟨0,(some 10),(.mv (.t 38)),none⟩]) (.seq (.reg [] false [⟨0,(some 40),(.mv (.t 0)),none⟩,⟨0,(some 41),(.mv (.t 10)),none⟩,⟨0,(some 42),(.bin .mul (.t 41) (.c (.int .i64 45))),none⟩,⟨0,(some 43),(.mv (.t 10)),none⟩,⟨0,(some 44),(.bin .add (.t 43) (.c (.int .i64 1))),none⟩,⟨0,(some 45),(.bin .mul (.t 44) (.c (.int .i64 45))),none⟩,⟨0,(some 46),(.slstr (.t 40) (some (.t 42)) (some (.t 45))),none⟩,⟨0,(some 47),(.mv (.t 1)),none⟩,⟨0,(some 48),(.mv (.t 10)),none⟩,⟨0,(some 49),(.bin .add (.t 47) (.t 48)),none⟩,⟨0,(some 50),(.callf false (.c (.fn (.func 43) [] [])) [(.t 46),(.t 49)] []),none⟩,⟨0,(some 39),(.mv (.t 50)),none⟩,⟨0,(some 51),(.ext (.t 39) 0),none⟩,⟨0,(some 52),(.ext (.t 39) 1),none⟩,⟨0,(some 11),(.alloc (bV (nf 0))),none⟩,⟨0,none,(.store 40 (.t 11) (.t 51) []),none⟩,⟨0,(some 12),(.mv (.t 52)),none⟩]) (.seq (.seq (.reg [] false [⟨0,(some 53),(.mv (.t 12)),none⟩,⟨0,(some 54),(.not (.t 53)),none⟩]) (.cond (.t 54) (.seq (.reg [] false [⟨0,(some 55),(.mv (.t 10)),none⟩,⟨0,(some 9),(.mv (.t 55)),none⟩]) (.reg [] false [⟨0,(some 56),(.mv (.t 5)),none⟩,⟨0,(some 57),(.bin .add (.t 56) (.c (.int .i64 1))),none⟩,⟨0,(some 5),(.mv (.t 57)),none⟩])) .skip)) (.reg [] false [⟨0,(some 58),(.mv (.t 8)),none⟩,⟨0,(some 59),(.load true 40 (.t 11)),none⟩,⟨0,(some 60),(.bslice 40 1 (bV (nf 0)) [(0,(40,(.t 59)))]),none⟩,⟨0,(some 61),(.app 40 40 (.t 58) (.t 60)),none⟩,⟨0,(some 8),(.mv (.t 61)),none⟩]))))) (.reg [] false [⟨0,(some 62),(.bin .add (.t 36) (.c (.int .i64 1))),none⟩,⟨0,(some 36),(.mv (.t 62)),none⟩])))))
def aUY:XCode:=(.loop [4,5,105,106,107] (.seq (.reg [] false [⟨0,(some 108),(.bin .lss (.t 107) (.t 106)),none⟩]) (.seq (.cond (.t 108) .skip (.exit 4)) (.seq (.block 5 (.seq (.reg [] false [⟨0,(some 109),(.idx 40 (.t 105) (.t 107)),none⟩,⟨0,(some 110),(.load true 40 (.t 109)),none⟩,⟨0,(some 15),(.alloc (bV (nf 0))),none⟩,⟨0,none,(.store 40 (.t 15) (.t 110) []),none⟩]) (.reg [] false [⟨0,(some 111),(.mv (.t 4)),none⟩,⟨0,(some 112),(.load true 40 (.t 15)),none⟩,⟨0,(some 113),(.callf false (.c (.fn (.func 47) [] [])) [(.t 112)] []),none⟩,⟨0,(some 114),(.bslice 1 1 [(.str ⟨#[]⟩)] [(0,(1,(.t 113)))]),none⟩,⟨0,(some 115),(.app 1 16 (.t 111) (.t 114)),none⟩,⟨0,(some 4),(.mv (.t 115)),none⟩]))) (.reg [] false [⟨0,(some 116),(.bin .add (.t 107) (.c (.int .i64 1))),none⟩,⟨0,(some 107),(.mv (.t 116)),none⟩])))))
def aWh:XCode:=(.seq (.seq (.reg [] false [⟨0,(some 103),(.mv (.t 8)),none⟩,⟨0,(some 104),(.mv (.t 13)),none⟩,⟨0,(some 105),(.slsl 40 (.t 103) none (some (.t 104))),none⟩,⟨0,(some 106),(.len false (.t 105)),none⟩,⟨0,(some 107),(.mv (.c (.int .i64 0))),none⟩]) (.block 4 aUY)) (.seq (.seq (.reg [(4,false)] false [⟨0,(some 117),(.mv (.t 4)),none⟩,⟨0,(some 118),(.callf false (.c (.fn (.func 48) [] [])) [(.t 117),(.c (.str ⟨#[]⟩))] []),none⟩]) (.cond (.t 118) (.seq (.reg [] false [⟨0,(some 4),(.mv (.c .nilsl)),none⟩,⟨0,(some 5),(.mv (.c (.int .i64 0))),none⟩,⟨0,(some 6),(.mv (.c (.int .i64 13))),none⟩]) .ret) .skip)) (.seq (.reg [] false [⟨0,(some 119),(.mv (.t 4)),none⟩,⟨0,(some 120),(.mv (.t 5)),none⟩,⟨0,(some 4),(.mv (.t 119)),none⟩,⟨0,(some 5),(.mv (.t 120)),none⟩,⟨0,(some 6),(.mv (.c (.int .i64 0))),none⟩]) .ret)))
def aYn:XCode:=(.seq (.reg [] false [⟨0,(some 4),(.mv (.c .nilsl)),none⟩,⟨0,(some 5),(.mv (.c (.int .i64 0))),none⟩,⟨0,(some 6),(.mv (.c (.int .i64 0))),none⟩]) (.seq (.reg [] false [⟨0,(some 16),(.mv (.t 0)),none⟩,⟨0,(some 17),(.len true (.t 16)),none⟩,⟨0,(some 18),(.bin .quo (.t 17) (.c (.int .i64 45))),none⟩,⟨0,(some 7),(.mv (.t 18)),none⟩]) (.seq (.block 0 (.seq (.reg [] false [⟨0,(some 20),(.mv (.t 1)),none⟩,⟨0,(some 21),(.callf false (.c (.fn (.func 40) [] [])) [(.c (.int .i64 0)),(.t 20),(.c (.int .i64 1000))] []),none⟩,⟨0,(some 22),(.not (.t 21)),none⟩,⟨0,(some 19),(.mv (.t 22)),none⟩]) (.cond (.t 19) (.seq (.reg [] false [⟨0,(some 4),(.mv (.c .nilsl)),none⟩,⟨0,(some 5),(.mv (.c (.int .i64 0))),none⟩,⟨0,(some 6),(.mv (.c (.int .i64 2))),none⟩]) .ret) (.seq (.reg [] false [⟨0,(some 24),(.mv (.t 0)),none⟩,⟨0,(some 25),(.len true (.t 24)),none⟩,⟨0,(some 26),(.bin .rem (.t 25) (.c (.int .i64 45))),none⟩,⟨0,(some 27),(.bin .neq (.t 26) (.c (.int .i64 0))),none⟩,⟨0,(some 28),(.mv (.t 27)),none⟩,⟨0,(some 29),(.mv (.t 7)),(some (28,false))⟩,⟨0,(some 30),(.bin .lss (.t 29) (.c (.int .i64 2))),(some (28,false))⟩,⟨0,(some 31),(.pick (.t 28) (.c (.bool true)) (.t 30)),none⟩,⟨0,(some 23),(.mv (.t 31)),none⟩]) (.cond (.t 23) (.seq (.reg [] false [⟨0,(some 4),(.mv (.c .nilsl)),none⟩,⟨0,(some 5),(.mv (.c (.int .i64 0))),none⟩,⟨0,(some 6),(.mv (.c (.int .i64 20))),none⟩]) .ret) (.seq (.reg [] false [⟨0,(some 33),(.mv (.t 7)),none⟩,⟨0,(some 34),(.bin .gtr (.t 33) (.c (.int .i64 6))),none⟩,⟨0,(some 32),(.mv (.t 34)),none⟩]) (.cond (.t 32) (.seq (.reg [] false [⟨0,(some 4),(.mv (.c .nilsl)),none⟩,⟨0,(some 5),(.mv (.c (.int .i64 0))),none⟩,⟨0,(some 6),(.mv (.c (.int .i64 1))),none⟩]) .ret) .skip))))))) (.seq (.reg [] false [⟨0,(some 8),(.mv (.c .nilsl)),none⟩]) (.seq (.reg [] false [⟨0,(some 9),(.mv (.c (.int .i64 (-1)))),none⟩]) (.seq (.seq (.reg [] false [⟨0,(some 35),(.mv (.t 7)),none⟩,⟨0,(some 36),(.mv (.c (.int .i64 0))),none⟩]) (.block 1 aUZ)) (.seq (.reg [] false [⟨0,(some 63),(.mv (.t 7)),none⟩,⟨0,(some 64),(.bin .sub (.t 63) (.c (.int .i64 1))),none⟩,⟨0,(some 13),(.mv (.t 64)),none⟩]) (.seq (.block 3 (.seq (.reg [] false [⟨0,(some 66),(.mv (.t 5)),none⟩,⟨0,(some 67),(.bin .gtr (.t 66) (.c (.int .i64 1))),none⟩,⟨0,(some 65),(.mv (.t 67)),none⟩]) (.cond (.t 65) (.seq (.reg [] false [⟨0,(some 4),(.mv (.c .nilsl)),none⟩,⟨0,(some 5),(.mv (.c (.int .i64 0))),none⟩,⟨0,(some 6),(.mv (.c (.int .i64 19))),none⟩]) .ret) (.seq (.reg [] true [⟨0,(some 69),(.mv (.t 5)),none⟩,⟨1,(some 70),(.bin .eql (.t 69) (.c (.int .i64 0))),none⟩,⟨2,(some 71),(.mv (.t 70)),none⟩,⟨3,(some 72),(.mv (.t 8)),(some (71,true))⟩,⟨4,(some 73),(.mv (.t 13)),(some (71,true))⟩,⟨5,(some 74),(.slsl 40 (.t 72) none (some (.t 73))),(some (71,true))⟩,⟨7,(some 76),(.mv (.t 8)),(some (71,true))⟩,⟨8,(some 77),(.mv (.t 13)),(some (71,true))⟩,⟨9,(some 78),(.idx 40 (.t 76) (.t 77)),(some (71,true))⟩,⟨10,(some 79),(.load true 40 (.t 78)),(some (71,true))⟩,⟨6,(some 75),(.callf false (.c (.fn (.func 44) [] [])) [(.t 74)] [10]),(some (71,true))⟩,⟨11,(some 80),(.eqag true (List.replicate 40 0) (.t 75) (.t 79)),(some (71,true))⟩,⟨12,(some 81),(.pick (.t 71) (.t 80) (.c (.bool false))),none⟩,⟨13,(some 68),(.mv (.t 81)),none⟩]) (.cond (.t 68) (.seq (.reg [] false [⟨0,(some 4),(.mv (.c .nilsl)),none⟩,⟨0,(some 5),(.mv (.c (.int .i64 0))),none⟩,⟨0,(some 6),(.mv (.c (.int .i64 22))),none⟩]) .ret) (.seq (.reg [] false [⟨0,(some 83),(.mv (.t 9)),none⟩,⟨0,(some 84),(.mv (.t 13)),none⟩,⟨0,(some 85),(.bin .sub (.t 84) (.c (.int .i64 1))),none⟩,⟨0,(some 86),(.callf false (.c (.fn (.func 40) [] [])) [(.c (.int .i64 0)),(.t 83),(.t 85)] []),none⟩,⟨0,(some 82),(.mv (.t 86)),none⟩]) (.cond (.t 82) (.seq (.reg [] false [⟨0,(some 87),(.mv (.t 8)),none⟩,⟨0,(some 88),(.mv (.t 9)),none⟩,⟨0,(some 89),(.callf false (.c (.fn (.func 45) [] [])) [(.c (.str ⟨#[]⟩))] []),none⟩,⟨0,(some 90),(.idx 40 (.t 87) (.t 88)),none⟩,⟨0,none,(.store 40 (.t 90) (.t 89) []),none⟩]) (.reg [] true [⟨0,(some 91),(.mv (.t 8)),none⟩,⟨1,(some 92),(.mv (.t 9)),none⟩,⟨2,(some 93),(.mv (.t 8)),none⟩,⟨3,(some 94),(.mv (.t 13)),none⟩,⟨4,(some 95),(.idx 40 (.t 93) (.t 94)),none⟩,⟨5,(some 96),(.load true 40 (.t 95)),none⟩,⟨6,(some 97),(.mv (.t 8)),none⟩,⟨7,(some 98),(.mv (.t 13)),none⟩,⟨8,(some 99),(.slsl 40 (.t 97) none (some (.t 98))),none⟩,⟨9,(some 100),(.callf false (.c (.fn (.func 44) [] [])) [(.t 99)] [5]),none⟩,⟨10,(some 101),(.callf false (.c (.fn (.func 46) [] [])) [(.t 96),(.t 100),(.c (.int .i64 94))] []),none⟩,⟨11,(some 102),(.idx 40 (.t 91) (.t 92)),none⟩,⟨12,none,(.store 40 (.t 102) (.t 101) []),none⟩])) .skip))))))) aWh))))))))
theorem aWi:x14=⟨121,[(4,none),(5,none),(6,none)],false,false,aYn,none,none⟩:=rfl
theorem zY(a b:Nat):lQ (a:Int) (b:Int)=((a/b:Nat):Int):=by
 rfl
def nZ(s:ByteArray)(i:Nat):ByteArray:=fK s (i*45) ((i+1)*45)
def gdS(s:ByteArray)(row i:Nat):Bool:=aCr (nZ s i) (row+i)
def FnS(s:ByteArray):Nat->List Nat
 | 0=>[]
 | i+1=>FnS s i++rdF (nZ s i)
def vT(s:ByteArray)(row:Nat):Nat->Int
 | 0 => -1
 | i+1=>if gdS s row i then vT s row i else (i:Int)
def lR(s:ByteArray)(row:Nat):Nat->Nat
 | 0=>0
 | i+1=>if gdS s row i then lR s row i else lR s row i+1
theorem aHh(s:ByteArray):(rdF s).length=40:=iI _
theorem vD(s:ByteArray):∀ i,(FnS s i).length=i*40
 | 0=>rfl
 | i+1=>by rw[FnS,E6,vD s i,aHh];omega
theorem aMs(s:ByteArray):∀ i,Byt (FnS s i)
 | 0=>by simp[Byt,FnS]
 | i+1=>by
   intro k x h;rw[FnS,G8]at h;split at h;·exact aMs s i k x h
   .exact pK (aHR _) _ x h
theorem aHx(s:ByteArray)(row:Nat):∀ i,lR s row i<=i
 | 0=>B5 _
 | i+1=>by
   have:=aHx s row i;rw[lR];split<;>omega
theorem aRE(s:ByteArray)(row:Nat):∀ i,-1<=vT s row i/\vT s row i<i
 | 0=>by simp[vT]
 | i+1=>by
   have:=aRE s row i
   grind [vT]
theorem wX{s:ByteArray}{i:Nat}(h:(i+1)*45<=s.size):(nZ s i).size=45:=by
 unfold nZ;rw[<-aMa,ByteArray.size_extract];omega
def setC(C:List Nat)(k:Nat)(f:List Nat):List Nat:=C.take (k*40)++(f++C.drop (k*40+40))
def aHH(C:List Nat)(n k:Nat):List Nat:=setC (setC C k (newF [])) k (dA 94 (fA (setC C k (newF [])) n) (dY (setC C k (newF [])) n))
def lns(C:List Nat)(n:Nat):List ByteArray:=(List.range n).map λi=>lnB (fA C i)
def vY(e:Int):AV:=.tup [.fs [],I 0,I e]
def xB(C:List Nat)(n md:Nat):AV:=if Lib.containsS (lns C n) qF then vY 13 else .tup [.fs (rS (lns C n)),I (md:Nat),I 0]
def lL(C:List Nat)(n:Nat)(bad:Int)(md:Nat):AV:=if 1<md then vY 19 else if md=0/\dY C n≠fA C n then vY 22 else
 if 0<=bad/\bad<n then xB (aHH C n bad.toNat) n md else xB C n md
def mnV(s:ByteArray)(row:Int):AV:=if (decide (0<=row)&&decide (row<=1000))=true then
 (if s.size%45≠0\/s.size/45<2 then vY 20 else if 6<s.size/45 then vY 1 else lL (FnS s (s.size/45)) (s.size/45-1) (vT s row.toNat (s.size/45)) (lR s row.toNat (s.size/45))) else vY 2
def mS(i:Nat):AV:=if i=0 then .nilsl else .sl 0 0 40 i
def mG(s:ByteArray)(i:Nat):XH:=if i=0 then [] else [aa (bV (FnS s i))]
theorem q47{xs:List AV}{h:XH}:runW aB 48 xs h=aIH xs h:=cM rfl rfl xs h
theorem aLg:∀ l:List ByteArray,wI (rS l)=some l
 | []=>rfl
 | s::l=>by
   have ih:=aLg l;show (wI (rS l)).map (s :: ·)=_;rw[ih];rfl
theorem w47{l:List ByteArray}{x:ByteArray}(h:l.length<=1000000):runW aB 48 [.fs (rS l),.str x] []=some (.bool (Lib.containsS l x),[]):=by
 rw[q47];unfold aIH;dsimp only;rw[aLg];grind
def bQ(l:List ByteArray):List AV:=l.map AV.str
theorem bY(l:List ByteArray):(bQ l).length=l.length:=by simp[bQ]
theorem aU(l:List ByteArray):mI (bQ l)=[]:=aQr (λ_=>rfl) _
theorem aR(l:List ByteArray):slL (bQ l)=[]:=aQp (λ_=>rfl) _
theorem aT(f:Nat->Option Nat)(l:List ByteArray):mR f (bQ l)=bQ l:=aQq (λ_=>rfl) _
theorem bP(l:List ByteArray):lE (bQ l)=true:=fJ λv hv=>by
 grind [iD,bQ]
theorem wJ(l:List ByteArray):bK (bQ l) 0 1 l.length=rS l:=yW (f:=AV.str) l []
theorem aHz(C:List Nat)(n:Nat):(lns C n).length=n:=by simp[lns]
theorem bAe(C:List Nat)(i:Nat):bQ (lns C i)++[.str (lnB (fA C i))]=bQ (lns C (i+1)):=by
 simp[bQ,lns,J4]
def tS(i:Nat):AV:=if i=0 then .nilsl else .sl 0 0 1 i
def tB(p i:Nat):AV:=if i=0 then .sl 0 0 40 p else .sl 1 0 40 p
def tG(C:List Nat)(i:Nat):XH:=if i=0 then [aa (bV C)] else [aa (bQ (lns C i)),aa (bV C)]
theorem t16{C:List Nat}{n p md:Nat}{e:aJ}(hn:n=p+1)(hC:C.length=n*40)(hb:Byt C)(h0:1<=p)(h1:p<=1000)(e4:e 4 = .nilsl)(e5:e 5=I (md:Nat))(e8:e 8 = .sl 0 0 40 n)(e13:e 13=I (p:Nat)) :
 eY none [(4,none),(5,none),(6,none)] false 0 (execW aB 14 0 none aWh e [aa (bV C)])=some (xB C p md,[]):=by
 unfold aWh;have z1:((p:Int)<=(n:Int))=True:=AAa;have z2:(0<p)=True:=AAa;sym =>
  simp[cN,cO,eZ,Za,Zb,Zf,Zh,Zl,Zm,Zn,Zv,ZN,ZS,Yx,YM,YN,TF,Sg,Si,Sj,SX,Rb,Rc,Rk,Rl,Rx,Rz,RG,RH,Qe,e4,e5,e8,e13,z1,z2]
  tactic =>
   unfold aUY;rw[aG p (λi=>[tS i,I (md:Nat),tB p i,I (p:Nat),I (i:Nat)]) (λi=>tG C i)]
   .have s0:tS p = .sl 0 0 1 p:=if_neg AS
    have b0:tB p p = .sl 1 0 40 p:=if_neg AS;have g0:tG C p=[aa (bQ (lns C p)),aa (bV C)]:=if_neg AS;have x0:((p:Int)<(p:Int))=False:=AAb;have ll:=aHz C p;have lc:=bY (lns C p);rw[ll]at lc;have ch:=wJ (lns C p);rw[ll]at ch;have c1:=w47 (l:=lns C p) (x:=⟨#[]⟩) AS;unfold xB;have hE:Lib.containsS (lns C p) qF=Lib.containsS (lns C p) ⟨#[]⟩:=rfl;rw[hE];have p1:(p*1<=p)=True:=AAa;have p2:(p<=p)=True:=AAa;generalize lns C p=L at *;cases hc:Lib.containsS L ⟨#[]⟩with
    | true =>
      rw[hc]at c1;unfold vY;(exact kN s0 b0 g0 x0 lc ch c1 p1 p2)
    | false =>
      rw[hc]at c1;(exact kN s0 b0 g0 x0 lc ch c1 p1 p2)
   .have s0:tS 0 = .nilsl:=rfl
    have b0:tB p 0 = .sl 0 0 40 p:=rfl;have g0:tG C 0=[aa (bV C)]:=rfl;(exact kN s0 b0 g0 e4 e5 eF dK dZ eG)
   .intro i hi
    have i1:((i:Int)<(p:Int))=True:=AAa;have a2:=cV hi AS;have hC2:p*40<=C.length:=AS
    have lC:=bG C;have i3:(i*40+40<=(bV C).length)=True:=AAn (by
     omega)
    have fu:=aGi (C:=C) (k:=i);have l5:=yU hC2 hi;have c1:=w46 l5;rw[bZ]at c1;have m5:=bG (fA C i);rw[l5]at m5;have l0:(bV (nf 0)).length=40:=by rfl
    have gz:=bW (nf 0);have c8:=kO (a:=nf 0) (b:=fA C i) (by grind [rG]);have k5:=gS l5;have k6:=jY l5;have g5:=bW (fA C i);have gC:=bW C;have ls:=bAe C i;have n1:=bY (lns C i);rw[aHz]at n1;have n2:=bP (lns C i);have n3:=bP (lns C (i+1));have s1:tS (i+1) = .sl 0 0 1 (i+1):=if_neg AS;have b1:tB p (i+1) = .sl 1 0 40 p:=if_neg AS;have g1:tG C (i+1)=[aa (bQ (lns C (i+1))),aa (bV C)]:=if_neg AS;have z3:(i+1<=1099511627776)=True:=AAa;have z4:((i+1)*16<=1099511627776)=True:=AAa;by_cases hi0:i=0
    .subst hi0
     have s0:tS 0 = .nilsl:=rfl;have b0:tB p 0 = .sl 0 0 40 p:=rfl;have g0:tG C 0=[aa (bV C)]:=rfl;have L0:bQ (lns C 0)=[]:=rfl;rw[L0,D4]at ls;have j1:((0:Int)<(p:Int))=True:=AAa;rw[s1,b1,g1];rw[<-ls];have fu:List.take 40 (bV C)=bV (fA C 0):=fu;have fv:List.take 40 (List.drop 0 (bV C))=bV (fA C 0):=fu;have i3:(40<=(bV C).length)=True:=AAa;generalize lnB (fA C 0)=B at *;generalize fA C 0=f at *;(exact eD j1 i3 fu fv m5 c1 l0 gz c8 k5 k6 g5 gC s0 b0 g0 eF dK dZ eG)
    .have s0:tS i = .sl 0 0 1 i:=if_neg hi0
     have b0:tB p i = .sl 1 0 40 p:=if_neg hi0;have g0:tG C i=[aa (bQ (lns C i)),aa (bV C)]:=if_neg hi0;rw[s1,b1,g1];generalize lns C (i+1)=L1 at *;generalize lns C i=L0 at *;generalize lnB (fA C i)=B at *;generalize fA C i=f at *;(sym=>(simp[cN,cO,eZ,Za,Zb,Zc,Zd,Ze,Zf,Zh,Zl,Zm,Zo,Zv,Zw,Z8,ZA,ZI,ZW,Ya,Yb,Yf,Yi,Ym,Yn,Yo,Y4,Y8,YH,YM,YN,XI,XM,XW,Wj,Wv,Wx,Wy,W4,Vr,Vs,V5,V6,V7,V8,V9,VD,VF,VG,VJ,VK,VN,VO,VQ,VV,VW,VX,VY,VZ,Ua,Ub,Uc,Ud,Ue,Uf,Ui,Uj,Uo,Ut,Uu,Uv,Th,Ti,Tj,Tl,Tm,Ts,Tt,Tu,Tv,Tw,Ty,Tz,T2,T5,T8,TF,TI,TJ,TL,TM,TN,TO,TP,TQ,TR,TS,TT,Sc,Sd,Se,Sf,Sq,Sr,Ss,Su,S3,S4,S5,S7,S8,SA,SC,SF,SI,SJ,SN,SO,SP,SQ,SV,SX,SZ,Rb,Rc,Rg,Rj,Rk,Rl,RZ,Qa,Qb,Qi,PI,PJ,PK,PL,i1,a2,i3,fu,m5,c1,l0,gz,c8,k5,k6,g5,gC,ls,n1,n2,n3,s0,b0,g0,z3,z4,eF,dK,dZ,eG,aU,aR,aT];all_goals tactic=>exact rfl))
   .have x0:((p:Int)<(p:Int))=False:=AAb
    (exact cI x0)
theorem aGq:∀{a b:List Nat}{n:Nat},a.length=n->b.length=n->dX (List.replicate n 0) (bV a) (bV b)=some (decide (a=b))
 | [],[],0,_,_=>rfl
 | x::a,y::b,n+1,ha,hb=>by
   have ih:=aGq (a:=a) (b:=b) (n:=n) (by grind) (by grind);rw[O4];show (match vA 0 (.int .u8 (x:Int)) (.int .u8 (y:Int)),dX (List.replicate n 0) (bV a) (bV b)with
    | some x,some y=>some (x&&y)
    | _,_=>none)=_
   rw[ih];show some (decide ((x:Int)=(y:Int))&&decide (a=b))=_;congr 1
   grind
theorem aLn{C:List Nat}{k:Nat}{f:List Nat}(hf:f.length=40):bJ (bV C) (k*40) (bV f)=bV (setC C k f):=by
 simp_all [bJ,bV,setC]
theorem wM{C:List Nat}{k n:Nat}{f:List Nat}(hC:C.length=n*40)(hk:k<n)(hf:f.length=40):(setC C k f).length=n*40:=by
 grind [setC]
theorem aAH{C:List Nat}{k:Nat}{f:List Nat}(hC:Byt C)(hf:Byt f):Byt (setC C k f):=by
 grind [Byt,setC]
theorem aBq{C:List Nat}{n p:Nat}(hC:C.length=n*40)(hp:n=p+1):(fA C p).length=40:=yU (n:=n) AS AS
theorem aMl(b:Bool):b=false\/b=true:=by grind
theorem aGR:∀ l:List Nat,iY (bV l) (bV l)=true
 | []=>rfl
 | x::l=>by
   show (cP (.int .u8 (x:Int)) (.int .u8 (x:Int))&&iY (bV l) (bV l))=true;rw[aGR l];simp[cP]
theorem aMd:runW aB 45 [.str ⟨#[]⟩] []=some (.agg (bV (newF [])),[]):=w44 ⟨#[]⟩
theorem w16{s:ByteArray}{row:Int}(hz:s.size<=1000000):runW aB 14 [.str s,I row] []=some (mnV s row,[]):=by
 rw[q16 (by simp),aWi];unfold aYn;dsimp only;have c1:=w35 0 row 1000;have d1:lQ (s.size:Int) 45=((s.size/45:Nat):Int):=zY s.size 45;have d2:tmZ (s.size:Int) 45=((s.size%45:Nat):Int):=iT s.size 45;have d3:IntKind.i64.wrap ((s.size/45:Nat):Int)=((s.size/45:Nat):Int):=aE AS AS;cases hb:decide (0<=row)&&decide (row<=1000)with
 | false =>
   rw[hb]at c1;have hv:mnV s row=vY 2:=by unfold mnV;grind
   rw[hv];unfold vY;(exact rR c1 d1 d2 d3)
 | true =>
   rw[hb]at c1;rcases mC (s.size%45=0)with h0|h0
   .have h0':=AAl h0
    have z0:(((s.size%45:Nat):Int)=0)=True:=AAa;rcases mC (s.size/45<2)with h2|h2
    .have h2':=AAl h2
     have z2:(((s.size/45:Nat):Int)<2)=True:=AAa;have hv:mnV s row=vY 20:=by unfold mnV;grind
     rw[hv];unfold vY;generalize s.size%45=rm at *;generalize s.size/45=n at *;(exact iS c1 d1 d2 d3 z0 z2 aF)
    .have h2':=AAm h2
     have z2:(((s.size/45:Nat):Int)<2)=False:=AAb;rcases mC (6<s.size/45)with h6|h6
     .have h6':=AAl h6
      have z6:((6:Int)<((s.size/45:Nat):Int))=True:=AAa;have hv:mnV s row=vY 1:=by unfold mnV;grind
      rw[hv];unfold vY;generalize s.size%45=rm at *;generalize s.size/45=n at *;(exact iS c1 d1 d2 d3 z0 z2 z6)
     .have h6':=AAm h6
      have z6:((6:Int)<((s.size/45:Nat):Int))=False:=AAb;have hv:mnV s row=lL (FnS s (s.size/45)) (s.size/45-1) (vT s row.toNat (s.size/45)) (lR s row.toNat (s.size/45)):=by unfold mnV;grind
      rw[hv];have hsz:s.size/45*45=s.size:=AS
      simp only[B4,AAf]at hb;obtain⟨R,hR⟩:∃ R:Nat,row=(R:Int):=⟨row.toNat,by omega⟩;have hR1:row.toNat=R:=AS
      rw[hR1];subst hR;generalize s.size%45=rm at *;generalize s.size/45=n at *;sym =>
       simp[cN,cO,eZ,Za,Zb,Zf,Zh,Zl,Zm,Zp,Zr,Zv,Zy,ZA,ZE,ZS,Yf,Yi,Yn,Yo,Yq,Ys,Yz,YG,YH,YK,XI,Wv,Ww,Vb,Vd,VG,VH,VQ,VX,VZ,Ue,Uf,Ut,Uu,Uv,Tg,Tl,Tn,Tr,Ts,Tt,Tv,Tw,T2,TB,TJ,TK,TN,TO,TP,TQ,TR,TZ,Sa,SV,SX,SZ,Rb,Rc,Rg,Rk,Rl,PI,PJ,PK,PL,c1,d1,d2,d3,z0,z2,z6]
       tactic =>
        unfold aUZ;rw[aG n (λi=>[.str s,I (R:Int),.nilsl,I (lR s R i:Nat),I (n:Nat),mS i,I (vT s R i),I (n:Nat),I (i:Nat)]) (λi=>mG s i)]
        .obtain⟨p,hp⟩:∃ p,n=p+1:=⟨n-1,by omega⟩
         have hnp:n-1=p:=AS
         have s0:mS n = .sl 0 0 40 n:=if_neg AS;have g0:mG s n=[aa (bV (FnS s n))]:=if_neg AS;have x0:((n:Int)<(n:Int))=False:=AAb;have wr:IntKind.i64.wrap ((n:Int)-1)=(p:Int):=by grind [aE]
         have wq:IntKind.i64.wrap ((p:Int)-1)=(p:Int)-1:=aE AS AS;have hC:=vD s n;have hB:=aMs s n;have hmd:=aHx s R n;have hbd:=aRE s R n;rw[hnp];generalize FnS s n=C at *;generalize lR s R n=md at *;generalize vT s R n=bad at *;have lC:=bG C;rw[hC]at lC;have gC:=bW C;have sC:=aGR C;rcases mC ((1:Int)<(md:Int))with k1|k1
         .have hv:lL C p bad md=vY 19:=by unfold lL;grind
          rw[hv];unfold vY;(exact eK s0 g0 x0 wr k1 lC gC eF dK dZ eG aF aF)
         .have k1':¬1<md:=by grind
          rcases mC ((md:Int)=0)with k0|k0
          .have k0':md=0:=by grind
           have f9:=aGi (C:=C) (k:=p);have l9:=aBq hC hp;have l8:=eN (C:=C) (n:=p) AS p (B5 _);have cs9:=w43 (C:=C) (n:=p) AS hB AS;rw[bZ]at cs9;have ce:=aGq l8 l9;have y1:((p:Int)<(n:Int))=True:=AAa;have y2:(p*40+40<=n*40)=True:=AAa;have y3:((p:Int)<=(n:Int))=True:=AAa;have y4:(0<p)=True:=AAa;have g9:=bW (fA C p);have g8:=bW (dY C p);have m9:=bG (fA C p);rw[l9]at m9;have m8:=bG (dY C p);rw[l8]at m8;rcases aMl (decide (dY C p=fA C p))with hq|hq
           .skip
            rw[hq]at ce;have hv:lL C p bad md=vY 22:=by unfold lL;grind
            rw[hv];unfold vY;(exact iW s0 g0 x0 wr wq k1 k0 lC gC sC f9 cs9 ce y1 y2 y3 y4 g9 g8 m9 m8 eF dK dZ eG aF)
           .skip
            rw[hq]at ce;have hz9:¬(md=0/\dY C p≠fA C p):=λhh=>hh.2 (of_decide_eq_true hq);have c35:=w35 0 bad ((p:Int)-1);rcases aMl (decide (0<=bad)&&decide (bad<=(p:Int)-1))with hbt|hbt
            .skip
             rw[hbt]at c35;have hfx:¬(0<=bad/\bad<p):=λhh=>by
              grind
             have hv:lL C p bad md=xB C p md:=by unfold lL;grind
             rw[hv];sym =>
              simp[cN,cO,eZ,Za,Zb,Zd,Ze,Zf,Zh,Zi,Zl,Zm,Zn,Zp,Zq,Zv,Zy,ZA,ZC,ZI,ZN,ZX,ZZ,Yc,Yf,Yi,Yj,Yk,Yn,Yo,Yp,Y4,Y9,YF,YH,YK,YM,YN,Xn,Xo,XI,XW,Wv,Ww,Wy,W4,V5,V6,V7,V8,VF,VG,VJ,VL,VN,VQ,VV,VW,VX,VZ,Ua,Ue,Uf,Ug,Ui,Uj,Uo,Ut,Uu,Uv,Uw,Uy,Uz,U0,U8,Th,Tl,Tn,Ts,Tt,Tv,Tw,Tz,T2,T8,TB,TE,TF,TI,TJ,TK,TL,TM,TN,TO,TP,TQ,TR,Sg,Si,Sj,S9,SA,SC,SF,SV,SX,SZ,Ra,Rb,Rc,Re,Rg,Ri,Rk,Rl,Rx,Rz,RG,RH,Qa,Qe,QW,PI,PJ,PK,PL,PM,s0,g0,x0,wr,wq,k1,lC,gC,sC,c35,eF,dK,dZ,eG,k0,f9,cs9,ce,y1,y2,y3,y4,g9,g8,m9,m8]
              tactic =>
               exact t16 hp hC hB AS AS rfl rfl rfl rfl
            .skip
             rw[hbt]at c35;have hfx:0<=bad/\bad<p:=by
              grind
             have hv:lL C p bad md=xB (aHH C p bad.toNat) p md:=by unfold lL;grind
             rw[hv];obtain⟨k,hk⟩:∃ k:Nat,bad=(k:Int):=⟨bad.toNat,by omega⟩;subst hk;have ht:((k:Int)).toNat=k:=rfl;rw[ht];unfold aHH;have j1:((k:Int)<(n:Int))=True:=AAa;have f0:=aMd;have le0:=iI [];have su:=aLn (C:=C) (k:=k) le0;have hC1:=wM (k:=k) hC AS le0;have hB1:=aAH (k:=k) hB (pK (l:=[]) (λi x h=>by simp at h));have m0:=bG (newF []);rw[le0]at m0;have t0:=gS le0;have gf0:=bW (newF []);generalize setC C k (newF [])=C1 at *;have lC1:=bG C1;rw[hC1]at lC1;have gC1:=bW C1;have sC1:=aGR C1;have f1:=aGi (C:=C1) (k:=p);have lf1:=aBq hC1 hp;have cs:=w43 (C:=C1) (n:=p) AS hB1 AS;rw[bZ]at cs;have ls1:=eN (C:=C1) (n:=p) AS p (B5 _);have w9:=w45 (t:=94) lf1 ls1 (aDa hB1 p) (yF p) AS;rw[bZ,bZ,bZ]at w9;have w9:runW aB 46 [.agg (bV (fA C1 p)),.agg (bV (dY C1 p)),I 94] []=some (.agg (bV (dA 94 (fA C1 p) (dY C1 p))),[]):=w9;have lp:=mE (t:=94) (l:=fA C1 p) (m:=dY C1 p) AS;rw[lf1]at lp;have bp:=sN (t:=94) (l:=fA C1 p) (m:=dY C1 p);have su2:=aLn (C:=C1) (k:=k) lp;have hC2:=wM (k:=k) hC1 AS lp;have hB2:=aAH (k:=k) hB1 bp;have q1:=bG (fA C1 p);rw[lf1]at q1;have q2:=bG (dY C1 p);rw[ls1]at q2;have q3:=bG (dA 94 (fA C1 p) (dY C1 p));rw[lp]at q3;have g1:=bW (fA C1 p);have g2:=bW (dY C1 p);have g3:=bW (dA 94 (fA C1 p) (dY C1 p));have tk1:=gS lp;generalize dA 94 (fA C1 p) (dY C1 p)=fp at *;generalize dY C1 p=fs at *;generalize fA C1 p=fa at *;generalize setC C1 k fp=C2 at *;have kl:(k*40+40<=n*40)=True:=AAa;sym =>
              simp[cN,cO,eZ,Za,Zb,Zc,Zd,Ze,Zf,Zh,Zi,Zl,Zm,Zn,Zp,Zq,Zv,Zy,ZA,ZC,ZI,ZN,ZX,ZZ,Ya,Yb,Yc,Ye,Yf,Yi,Yj,Yk,Yn,Yo,Yp,Y4,Y9,YF,YH,YK,YM,YN,Xn,Xo,XI,XL,XM,XW,Wv,Ww,Wx,Wy,W4,Vs,V2,V5,V6,V7,V8,VF,VG,VJ,VL,VN,VQ,VV,VW,VX,VZ,Ua,Ue,Uf,Ug,Ui,Uj,Uo,Ut,Uu,Uv,Uw,Ux,Uy,Uz,U0,U8,Th,Tl,Tm,Tn,Ts,Tt,Tv,Tw,Tz,T2,T8,TB,TC,TD,TE,TF,TI,TJ,TK,TL,TM,TN,TO,TP,TQ,TR,Sg,Si,Sj,S9,SA,SC,SF,SI,SJ,SV,SX,Ra,Rb,Rc,Re,Rg,Ri,Rk,Rl,Rx,Rz,RG,RH,Qa,Qe,QL,QW,PI,PJ,PK,PL,PM,s0,g0,x0,wr,wq,k1,lC,gC,sC,c35,eF,dK,dZ,eG,k0,f9,cs9,ce,y1,y2,y3,y4,g9,g8,m9,m8,j1,f0,su,m0,t0,gf0,lC1,gC1,sC1,f1,cs,w9,su2,q1,q2,q3,g1,g2,g3,tk1,kl]
              tactic =>
               exact t16 hp hC2 hB2 AS AS rfl rfl rfl rfl
          .have k0':¬md=0:=by grind
           have hz9:¬(md=0/\dY C p≠fA C p):=λhh=>k0' hh.1;have y1:((p:Int)<(n:Int))=True:=AAa;have y2:(p*40+40<=n*40)=True:=AAa;have y3:((p:Int)<=(n:Int))=True:=AAa;have y4:(0<p)=True:=AAa;have c35:=w35 0 bad ((p:Int)-1);rcases aMl (decide (0<=bad)&&decide (bad<=(p:Int)-1))with hbt|hbt
           .skip
            rw[hbt]at c35;have hfx:¬(0<=bad/\bad<p):=λhh=>by
             grind
            have hv:lL C p bad md=xB C p md:=by unfold lL;grind
            rw[hv];sym =>
             simp[cN,cO,eZ,Za,Zb,Zf,Zh,Zi,Zl,Zm,Zp,Zs,Zv,Zy,ZA,Yf,Yi,Yn,Yo,Yq,Y9,YF,YH,YK,XI,Wv,Ww,VG,VQ,VX,VZ,Ue,Uf,Ut,Uu,Uv,Th,Tl,Tn,Ts,Tt,Tv,Tw,Tz,T2,TK,TN,TO,TP,TQ,TR,S9,SV,SX,SZ,Ra,Rb,Rc,Re,Rg,Ri,Rk,Rl,PI,PJ,PK,PL,s0,g0,x0,wr,wq,k1,lC,gC,sC,c35,eF,dK,dZ,eG,k0,y1,y2,y3,y4]
             tactic =>
              exact t16 hp hC hB AS AS rfl rfl rfl rfl
           .skip
            rw[hbt]at c35;have hfx:0<=bad/\bad<p:=by
             grind
            have hv:lL C p bad md=xB (aHH C p bad.toNat) p md:=by unfold lL;grind
            rw[hv];obtain⟨k,hk⟩:∃ k:Nat,bad=(k:Int):=⟨bad.toNat,by omega⟩;subst hk;have ht:((k:Int)).toNat=k:=rfl;rw[ht];unfold aHH;have j1:((k:Int)<(n:Int))=True:=AAa;have f0:=aMd;have le0:=iI [];have su:=aLn (C:=C) (k:=k) le0;have hC1:=wM (k:=k) hC AS le0;have hB1:=aAH (k:=k) hB (pK (l:=[]) (λi x h=>by simp at h));have m0:=bG (newF []);rw[le0]at m0;have t0:=gS le0;have gf0:=bW (newF []);generalize setC C k (newF [])=C1 at *;have lC1:=bG C1;rw[hC1]at lC1;have gC1:=bW C1;have sC1:=aGR C1;have f1:=aGi (C:=C1) (k:=p);have lf1:=aBq hC1 hp;have cs:=w43 (C:=C1) (n:=p) AS hB1 AS;rw[bZ]at cs;have ls1:=eN (C:=C1) (n:=p) AS p (B5 _);have w9:=w45 (t:=94) lf1 ls1 (aDa hB1 p) (yF p) AS;rw[bZ,bZ,bZ]at w9;have w9:runW aB 46 [.agg (bV (fA C1 p)),.agg (bV (dY C1 p)),I 94] []=some (.agg (bV (dA 94 (fA C1 p) (dY C1 p))),[]):=w9;have lp:=mE (t:=94) (l:=fA C1 p) (m:=dY C1 p) AS;rw[lf1]at lp;have bp:=sN (t:=94) (l:=fA C1 p) (m:=dY C1 p);have su2:=aLn (C:=C1) (k:=k) lp;have hC2:=wM (k:=k) hC1 AS lp;have hB2:=aAH (k:=k) hB1 bp;have q1:=bG (fA C1 p);rw[lf1]at q1;have q2:=bG (dY C1 p);rw[ls1]at q2;have q3:=bG (dA 94 (fA C1 p) (dY C1 p));rw[lp]at q3;have g1:=bW (fA C1 p);have g2:=bW (dY C1 p);have g3:=bW (dA 94 (fA C1 p) (dY C1 p));have tk1:=gS lp;generalize dA 94 (fA C1 p) (dY C1 p)=fp at *;generalize dY C1 p=fs at *;generalize fA C1 p=fa at *;generalize setC C1 k fp=C2 at *;have kl:(k*40+40<=n*40)=True:=AAa;sym =>
             simp[cN,cO,eZ,Za,Zb,Zc,Zd,Ze,Zf,Zh,Zi,Zl,Zm,Zn,Zp,Zs,Zv,Zy,ZA,ZI,ZN,ZX,ZZ,Ya,Yb,Yc,Ye,Yf,Yi,Yj,Yk,Yn,Yo,Yq,Y4,Y9,YF,YH,YK,YM,YN,XI,XL,XM,XW,Wv,Ww,Wx,Wy,W4,Vs,V2,V5,V6,V7,V8,VF,VG,VJ,VL,VN,VQ,VV,VW,VX,VZ,Ua,Ue,Uf,Ug,Ui,Uj,Uo,Ut,Uu,Uv,Uw,Ux,Uy,Uz,U0,U8,Th,Tl,Tm,Tn,Ts,Tt,Tv,Tw,Tz,T2,T8,TB,TC,TD,TE,TF,TI,TK,TL,TM,TN,TO,TP,TQ,TR,Sg,Si,Sj,S9,SA,SC,SF,SI,SJ,SV,SX,Ra,Rb,Rc,Re,Rg,Ri,Rk,Rl,Rx,Rz,RG,RH,Qa,Qe,QL,QW,PI,PJ,PK,PL,PM,s0,g0,x0,wr,wq,k1,lC,gC,sC,c35,eF,dK,dZ,eG,k0,y1,y2,y3,y4,j1,f0,su,m0,t0,gf0,lC1,gC1,sC1,f1,cs,w9,su2,q1,q2,q3,g1,g2,g3,tk1,kl]
             tactic =>
              exact t16 hp hC2 hB2 AS AS rfl rfl rfl rfl
        .rfl
        .intro i hi
         have i1:((i:Int)<(n:Int))=True:=AAa;have a2:=cV hi AS;have a3:IntKind.i64.wrap ((i:Int)*45)=((i*45:Nat):Int):=by grind [aE]
         have a4:IntKind.i64.wrap (((i:Int)+1)*45)=(((i+1)*45:Nat):Int):=by grind [aE]
         have a5:IntKind.i64.wrap ((R:Int)+(i:Int))=((R+i:Nat):Int):=by grind [aE]
         have hle:(i+1)*45<=s.size:=AS
         have a6:(((i+1)*45:Nat):Int)<=(s.size:Int):=AS
         have a6b:(((i*45:Nat):Int)<=(((i+1)*45:Nat):Int))=True:=AAa;have hx:fK s (i*45) ((i+1)*45)=nZ s i:=rfl;have c2:=w42 (s:=nZ s i) (n:=R+i) (wX hle) AS;have hg:aCr (nZ s i) (R+i)=gdS s R i:=rfl;rw[hg]at c2;rw[bZ]at c2;have lf:=aHh (nZ s i);have m1:=bG (rdF (nZ s i));rw[lf]at m1;have k5:=gS lf;have k6:=jY lf;have g5:=bW (rdF (nZ s i));have l0:(bV (nf 0)).length=40:=by rfl
         have gz:=bW (nf 0);have c8:=kO (a:=nf 0) (b:=rdF (nZ s i)) (by grind [rG]);have ap:=aOA (FnS s i) (rdF (nZ s i));have hF:FnS s i++rdF (nZ s i)=FnS s (i+1):=rfl;rw[hF]at ap;have lc:=bG (FnS s i);rw[vD]at lc;have lc1:=bG (FnS s (i+1));rw[vD]at lc1;have gc:=bW (FnS s i);have gc1:=bW (FnS s (i+1));have ml:=aHx s R i;have a7:IntKind.i64.wrap (((lR s R i:Nat):Int)+1)=((lR s R i+1:Nat):Int):=by grind [aE]
         have s1:mS (i+1) = .sl 0 0 40 (i+1):=if_neg AS;have g1:mG s (i+1)=[aa (bV (FnS s (i+1)))]:=if_neg AS;have z2':((i+1)*40<=1099511627776)=True:=AAa;have z3:(i+1<=1099511627776)=True:=AAa;by_cases hi0:i=0
         .subst hi0
          have s0:mS 0 = .nilsl:=rfl;have g0:mG s 0=[]:=rfl;have b0:vT s R 0 = -1:=rfl;have m0:lR s R 0=0:=rfl;have F1:FnS s (0+1)=rdF (nZ s 0):=rfl;rw[s1,g1,F1];have j1:((0:Int)<(n:Int))=True:=AAa;have hx':fK s 0 45=nZ s 0:=rfl;have a8:IntKind.i64.wrap ((R:Int)+0)=(R:Int):=aE AS AS;have a9:((45:Int)<=(s.size:Int))=True:=AAa;have wz:IntKind.i64.wrap 45=45:=rfl;have tz:Int.toNat 45=45:=rfl;have j4:(0<n)=True:=AAa;rw[I6]at c2;cases hg:gdS s R 0 with
          | true =>
            rw[hg]at c2;have bb:vT s R (0+1) = -1:=by rw[vT,hg];rfl
            have mm:lR s R (0+1)=0:=by rw[lR,hg];rfl
            rw[bb,mm];generalize rdF (nZ s 0)=f at *;(exact iW s0 g0 b0 m0 wz tz j1 j4 hx' c2 a8 a9 m1 k5 k6 g5 l0 gz c8 eF dK dZ eG aF aF aF)
          | false =>
            rw[hg]at c2;have bb:vT s R (0+1)=0:=by rw[vT,hg];rfl
            have mm:lR s R (0+1)=1:=by rw[lR,hg];rfl
            rw[bb,mm];generalize rdF (nZ s 0)=f at *;(exact iW s0 g0 b0 m0 wz tz j1 j4 hx' c2 a8 a9 m1 k5 k6 g5 l0 gz c8 eF dK dZ eG aF aF aF)
         .have s0:mS i = .sl 0 0 40 i:=if_neg hi0
          have g0:mG s i=[aa (bV (FnS s i))]:=if_neg hi0;have e45:(i+1)*45=i*45+45:=AS
          have a3':((i*45:Nat):Int).toNat=i*45:=rfl;rw[s1,g1];cases hg:gdS s R i with
          | true =>
            rw[hg]at c2;have bb:vT s R (i+1)=vT s R i:=by rw[vT,hg];rfl
            have mm:lR s R (i+1)=lR s R i:=by rw[lR,hg];rfl
            rw[bb,mm];generalize FnS s (i+1)=C1 at *;generalize FnS s i=C0 at *;generalize rdF (nZ s i)=f at *;(sym=>(simp[cN,cO,eZ,Za,Zb,Zc,Zd,Ze,Zf,Zh,Zl,Zm,Zn,Zo,Zv,Zw,Z8,ZA,ZE,ZO,ZR,ZW,Ya,Yb,Yf,Yi,Ym,Yn,Yo,Ys,Y7,Y8,YA,YH,YM,YN,XI,XL,XW,XZ,Wk,Wv,Ww,Wx,Wy,Wz,W4,W7,Vs,V5,V6,V7,V8,VG,VI,VJ,VN,VO,VQ,VV,VW,VX,VY,VZ,Ua,Ub,Uc,Ud,Ue,Uf,Ui,Uj,Uo,Ut,Uu,Uv,Th,Ti,Tj,Tl,Tm,Tn,Ts,Tt,Tu,Tv,Tw,Ty,Tz,T2,T5,T8,TB,TF,TI,TJ,TL,TM,TN,TO,TP,TQ,TR,Sd,Se,Sf,Si,Sj,Sq,Sr,Ss,Su,S3,S4,S5,S7,S8,SA,SC,SF,SI,SJ,SN,SO,SP,SQ,SV,SX,SZ,Rb,Rc,Rg,Rj,Rk,Rl,RI,RJ,RO,RR,Qb,Qi,PI,PJ,PK,PL,s0,g0,i1,a2,a3,a4,a5,a6,a6b,hx,c2,m1,k5,k6,g5,l0,gz,c8,ap,lc,lc1,gc,gc1,z2',z3,eF,dK,dZ,eG];all_goals tactic=>exact rfl))
          | false =>
            rw[hg]at c2;have bb:vT s R (i+1)=(i:Int):=by rw[vT,hg];rfl
            have mm:lR s R (i+1)=lR s R i+1:=by rw[lR,hg];rfl
            rw[bb,mm];generalize FnS s (i+1)=C1 at *;generalize FnS s i=C0 at *;generalize rdF (nZ s i)=f at *;generalize lR s R i=md at *;(sym=>(simp[cN,cO,eZ,Za,Zb,Zc,Zd,Ze,Zf,Zh,Zl,Zm,Zn,Zo,Zv,Zw,Z8,ZA,ZE,ZO,ZR,ZW,Ya,Yb,Yf,Yi,Ym,Yn,Yo,Ys,Y7,Y8,YA,YH,YM,YN,XI,XL,XW,XZ,Wk,Wv,Ww,Wx,Wy,Wz,W4,W7,Vs,V5,V6,V7,V8,VG,VI,VJ,VN,VO,VQ,VV,VW,VX,VY,VZ,Ua,Ub,Uc,Ud,Ue,Uf,Ui,Uj,Uo,Ut,Uu,Uv,Th,Ti,Tj,Tl,Tm,Ts,Tt,Tu,Tv,Tw,Ty,Tz,T2,T5,T8,TC,TF,TI,TJ,TL,TM,TN,TO,TP,TQ,TR,Sd,Se,Sf,Si,Sj,Sq,Sr,Ss,Su,S3,S4,S5,S7,S8,SA,SC,SF,SI,SJ,SN,SO,SP,SQ,SV,SX,SZ,Rb,Rc,Rg,Rj,Rk,Rl,RI,RJ,RO,RR,Qb,Qi,PI,PJ,PK,PL,s0,g0,i1,a2,a3,a4,a5,a6,a6b,a7,hx,c2,m1,k5,k6,g5,l0,gz,c8,ap,lc,lc1,gc,gc1,z2',z3,eF,dK,dZ,eG];all_goals tactic=>exact rfl))
        .have e0:((n:Int)<(n:Int))=False:=AAb
         (exact cI e0)
   .have h0':=AAm h0
    have z0:(((s.size%45:Nat):Int)=0)=False:=AAb;have hv:mnV s row=vY 20:=by unfold mnV;grind
    rw[hv];unfold vY;generalize s.size%45=rm at *;generalize s.size/45=n at *;(exact qR c1 d1 d2 d3 z0)
def aYd(a b:List ByteArray)(m n:Nat):Prop:=m<=n/\(∀ i,i<m->a[i]?=b[i]?)/\(m=n\/a[m]?≠b[m]?)
theorem aGv(a b:List ByteArray):∀ n,∃ m,aYd a b m n
 | 0=>⟨0,B5 _,λi hi=>by omega,.inl rfl⟩
 | n+1=>by
   obtain⟨m,h1,h2,h3⟩:=aGv a b n;rcases h3 with rfl|h3
   .by_cases h:a[m]?=b[m]?
    .exact⟨m+1,B5 _,λi hi=>by
      grind,.inl rfl⟩
    .exact⟨m,by omega,h2,.inr h⟩
   .exact⟨m,by omega,h2,.inr h3⟩
theorem fW(a b:ByteArray):aN BinOp.neq a b=some (.bool (!decide (a=b))):=by
 show some (AV.bool (!(a.toList==b.toList)))=_;rw[aVv,aVv];congr 3;cases a with
 | mk x =>
   cases b with
   | mk y =>
     cases x with
     | mk x =>
       cases y with
       | mk y =>
         grind
theorem aTa(l:List ByteArray)(b:ByteArray):bQ l++[.str b]=bQ (l++[b]):=by simp[bQ]
theorem aLG(a b:List Nat):kZ a++kZ b=kZ (a++b):=by
 grind [aYb,kZ]
theorem mN(s:ByteArray):(bN s).length=s.size:=by
 simp[bN]
end
section
open Go Go.DL
theorem aCb{l:List Nat}(h:Byt l):bN (kZ l)=l:=by
 unfold bN kZ;rw[aB0];apply I7
 grind [UInt8.toNat_ofNat',Byt]
theorem aHt(s:ByteArray):kZ (bN s)=s:=by
 unfold bN kZ;rw[aB0];cases s with
 | mk d =>
   cases d with
   | mk l =>
     congr 2
     conv=>rhs;rw[<-List.map_id l]
     apply I4;intro b _;simp
def prL(f:List Nat):Bool:=f.all λx=>decide (32<=x)&&decide (x<=126)
theorem aGF:∀ l:List UInt8,zD l = !prL (l.map UInt8.toNat)
 | []=>rfl
 | x::l=>by
   have ih:=aGF l;show (decide (x.toNat<32)||(decide (126<x.toNat)||zD l)) = !((decide (32<=x.toNat)&&decide (x.toNat<=126))&&prL (l.map UInt8.toNat));rw[ih,Bool.not_and,Bool.not_and,<-decide_not,<-decide_not];simp only[Nat.not_le,Bool.or_assoc]
theorem aCT{l:List Nat}(h:l.length=40):newF l=l:=by
 unfold newF;rw[C9 AS,h];simp
theorem aLZ{C D:List Nat}{n k:Nat}(hC:C.length=n*40)(hk:k<n):fA (C++D) k=fA C k:=by
 grind [fA]
theorem aJm{C f:List Nat}{n:Nat}(hC:C.length=n*40)(hf:f.length=40):fA (C++f) n=f:=by
 grind [fA]
def gQ(C:List Nat)(j:Nat):Nat->Nat
 | 0=>0
 | k+1=>gQ C j k+iM ((fA C k).getD j 0)
theorem aRm{y:Nat}(h:y<95):iM (32+y)=y:=by unfold iM;omega
theorem aDV{t:Nat}:∀{f o:List Nat}{j x y:Nat},f[j]?=some x->o[j]?=some y->(dA t f o)[j]?=some (pv t x y)
 | [],_,_,_,_,h,_=>by simp at h
 | _::_,[],_,_,_,_,h=>by simp at h
 | a::f,b::o,0,x,y,h1,h2=>by
   grind [dA,pv]
 | a::f,b::o,j+1,x,y,h1,h2=>by
   simp only[I1]at h1 h2;rw[dA,I1];exact aDV h1 h2
theorem aUe{l:List Nat}{j:Nat}(h:j<l.length):l[j]?=some (l.getD j 0):=by
 grind
theorem aBE{C:List Nat}{n j:Nat}(hC:n*40<=C.length)(hj:j<40):∀{k},k<=n->(dY C k)[j]?=some (32+gQ C j k%95)
 | 0,_=>by
   have:dY C 0=List.replicate 40 32:=rfl
   grind [gQ]
 | k+1,hk=>by
   have ih:=aBE hC hj (k:=k) AS;have hf:=aUe (l:=fA C k) (j:=j) (by rw[yU hC AS];exact hj);rw[dY,aDV ih hf];unfold pv;rw[gQ,aRm (aA4 _ (by decide))];congr 2;omega
theorem aXP(n:Nat)(f:List Nat):chk n f<9973:=aA4 _ (by decide)
theorem aWX{f:List Nat}(h:prL f=true){i x:Nat}(hx:f[i]?=some x):32<=x/\x<=126:=by
 have:=D5.1 h x (B3 hx)
 grind
theorem aTK{f:List Nat}(h:prL f=true):Byt f:=λi x hx=>by
 have:=aWX h hx;omega
theorem aDG{n:Nat}{f:List Nat}(h:f.length=40):(qG n f).length=45:=by simp[qG,xU,h]
theorem aLD{l:List Nat}(h:prL l=true):prL (newF l)=true:=by
 grind [prL,newF]
theorem aYa(s:ByteArray):(bN s).map UInt8.ofNat=s.data.toList:=by
 have:=aHt s
 grind [kZ]
theorem aWF{C:List Nat}{n k:Nat}(hC:n*40<=C.length)(hk:k<=n):prL (dY C k)=true:=by
 refine D5.2 λx hx=>?_
 grind [List.getElem?_of_mem,eN,aBE]
theorem aKB{ls:List ByteArray}:∀{n i:Nat}{s:ByteArray},n<=ls.length->i<n->ls[i]?=some s->fA (Cn ls n) i=rH s
 | 0,_,_,_,h,_=>absurd h AS
 | n+1,i,s,hn,h,hs=>by
   obtain⟨u,hu⟩:=dO (l:=ls) (i:=n) AS;rw[aUV hu];by_cases hi:i<n
   .rw[aLZ (mQ AS) hi]
    exact aKB AS hi hs
   .have:i=n:=AS
    subst this;rw[hs]at hu;cases hu;exact aJm (mQ AS) (qM s)
theorem aLY{C f:List Nat}{n k:Nat}(hC:C.length=n*40)(hk:k<n)(hf:f.length=40){i:Nat}(hi:i<n):fA (setC C k f) i=if i=k then f else fA C i:=by
 have h1:(k+1)*40<=n*40:=G3 _ hk;have h2:(i+1)*40<=n*40:=G3 _ hi;unfold fA setC;by_cases h:i=k;·grind
 .rw[if_neg h]
  by_cases hlt:i<k;·grind [List.drop_take]
  .have h3:(k+1)*40<=i*40:=G3 _ AS
   rw[aF2,J8 (by simp;omega),D4,aF1,aF9 AS,aF2,J8 AS,D4,hf,aB4]
   grind
section
variable{ls:List ByteArray}{n:Nat}{s:ByteArray}
end
section
variable{ls:List ByteArray}{n:Nat}
end
end
section
open Go Go.DL
theorem q39{vs:List AV}{h:XH}(hl:vs.length<=15):runW aB 54 vs h=eY none x54.res x54.ownR h.length (execW aB 54 h.length none x54.body (aX (if x54.ownA then vs else kI vs)) h):=cJ rfl hl h rfl
theorem q40{vs:List AV}{h:XH}(hl:vs.length<=16):runW aB 103 vs h=eY none x103.res x103.ownR h.length (execW aB 103 h.length none x103.body (aX (if x103.ownA then vs else kI vs)) h):=cJ rfl hl h rfl
theorem q78{vs:List AV}{h:XH}(hl:vs.length<=9):runW aB 95 vs h=eY none x95.res x95.ownR h.length (execW aB 95 h.length none x95.body (aX (if x95.ownA then vs else kI vs)) h):=cJ rfl hl h rfl
theorem q79{vs:List AV}{h:XH}(hl:vs.length<=49):runW aB 96 vs h=eY none x96.res x96.ownR h.length (execW aB 96 h.length none x96.body (aX (if x96.ownA then vs else kI vs)) h):=cJ rfl hl h rfl
theorem w39(n lo hi:Int):runW aB 54 [I n,I lo,I hi] []=some (.bool (decide (lo<=n)&&decide (n<=hi)),[]):=by
 rw[q39 (by simp)];unfold x54;dsimp only;rcases mC (lo<=n)with h1|h1
 .have d1:decide (lo<=n)=true:=by simp[h1]
  (exact kJ h1 d1)
 .have d1:decide (lo<=n)=false:=by simp[h1]
  (exact kJ h1 d1)
theorem gW(p:Nat->Bool):∀ n,∃ m,m<=n/\(∀ i,i<m->p i=true)/\(m=n\/(m<n/\p m=false))
 | 0=>⟨0,B5 _,λi hi=>absurd hi AS,.inl rfl⟩
 | n+1=>by
   obtain⟨m,h1,h2,h3⟩:=gW p n
   grind
theorem aBy{s:ByteArray}{i:Nat}(h:i<s.size):∃ x,(bN s)[i]?=some x/\x<256/\((s.data.toList.getD i 0).toNat:Int)=(x:Int):=by
 have hl:i<s.data.toList.length:=by simp_all
 grind [UInt8.toNat_lt,bN]
def okB(x:Nat):Bool:=decide (32<=x)&&decide (x<=126)
theorem aQf(x:Nat):(decide ((32:Int)<=(x:Int))&&decide ((x:Int)<=126))=okB x:=by
 grind [okB]
theorem aWW{f:List Nat}{m:Nat}(h1:m<=f.length)(h2:∀ i,i<m->okB (f.getD i 0)=true)(h3:m=f.length\/(m<f.length/\okB (f.getD m 0)=false)):prL f=decide (m=f.length):=by
 rcases h3 with h3|⟨h3,h4⟩
 .rw[AAj h3]
  unfold prL;rw[D5]
  grind [List.mem_iff_getElem?,okB]
 grind [prL,okB]
theorem w40{s:ByteArray}(hs:s.size<=1000000):runW aB 103 [.str s] []=some (.bool (prL (bN s)),[]):=by
 rw[q40 (by simp)];unfold x103;dsimp only;have bl:=mN s;obtain⟨m,m1,m2,m3⟩:=gW (λi=>okB ((bN s).getD i 0)) s.size;have hp:=aWW (f:=bN s) (m:=m) AS m2 (by grind);rw[bl]at hp;rw[hp];have e0:((s.size:Int)<(s.size:Int))=False:=AAb;have at0:∀ i,i<s.size->∃ x,(bN s).getD i 0=x/\x<256/\((s.data.toList.getD i 0).toNat:Int)=(x:Int):=λi hi=>by
  grind [aBy]
 have bad:m<s.size->okB ((bN s).getD m 0)=false:=λh=>m3.elim (λe=>by omega) λh=>h.2;sym =>
  simp[cN,cO,eZ,Zb,Zf,Zh,Zl,Zv,Vd,Tr,T2,TZ,Sa,SX,Rb,Rc,Rl,e0]
  tactic =>
   unfold aOg;rw[aG m (λi=>[.str s,I (i:Nat)]) (λ_=>[])]
   .by_cases hm:m=s.size
    .rw[AAj hm,hm]
     (exact cI e0)
    .rw[AAk hm]
     have hm':m<s.size:=AS
     obtain⟨x,x1,x2,x3⟩:=at0 m hm';have hb:=bad hm';rw[x1]at hb;have c:=w39 (x:Int) 32 126;rw[aQf,hb]at c;have i1:((m:Int)<(s.size:Int))=True:=AAa;have w1:IntKind.i64.wrap (x:Int)=(x:Int):=aE AS AS;(exact rR i1 x3 c w1)
   .rfl
   .intro i hi
    have hi':i<s.size:=AS
    obtain⟨x,x1,x2,x3⟩:=at0 i hi';have hb:=m2 i hi;rw[x1]at hb;have c:=w39 (x:Int) 32 126;rw[aQf,hb]at c;have i1:((i:Int)<(s.size:Int))=True:=AAa;have w1:IntKind.i64.wrap (x:Int)=(x:Int):=aE AS AS;have a2:=cV (n:=s.size) (i:=i) AS AS;(exact qR i1 x3 c w1 a2)
   .by_cases hm:m=s.size
    .rw[hm]
     (exact cI e0)
    .have hm':m<s.size:=AS
     obtain⟨x,x1,x2,x3⟩:=at0 m hm';have hb:=bad hm';rw[x1]at hb;have c:=w39 (x:Int) 32 126;rw[aQf,hb]at c;have i1:((m:Int)<(s.size:Int))=True:=AAa;have w1:IntKind.i64.wrap (x:Int)=(x:Int):=aE AS AS;(exact rR i1 x3 c w1)
def aAi(i x:Nat):Bool:=(decide (97<=x)&&decide (x<=122))||(decide (i≠0)&&(decide (48<=x)&&decide (x<=57)))
def aZ(s:ByteArray):Bool:=decide (1<=s.size)&&(decide (s.size<=10)&&(List.range s.size).all λi=>aAi i ((bN s).getD i 0))
theorem aVO{s:ByteArray}{m:Nat}(h1:m<=s.size)(h2:∀ i,i<m->aAi i ((bN s).getD i 0)=true)(h3:m=s.size\/(m<s.size/\aAi m ((bN s).getD m 0)=false)):((List.range s.size).all λi=>aAi i ((bN s).getD i 0))=decide (m=s.size):=by
 grind
theorem aSY{s:ByteArray}{i x:Nat}(h:i<s.size)(hx:((s.data.toList.getD i 0).toNat:Int)=(x:Int)):(eE s)[i]?=some (.int .u8 (x:Int)):=by
 simp_all [eE]
theorem w85{s:ByteArray}(hs:s.size<=1000000):runW aB 62 [.str s] []=some (.bool (aZ s),[]):=by
 rw[qX 62 x62 rfl];unfold x62;dsimp only;have bl:=mN s;obtain⟨m,m1,m2,m3⟩:=gW (λi=>aAi i ((bN s).getD i 0)) s.size;have hp:=aVO m1 m2 m3;have e0:((s.size:Int)<(s.size:Int))=False:=AAb;have at0:∀ i,i<s.size->∃ x,(bN s).getD i 0=x/\x<256/\(eE s)[i]?=some (.int .u8 (x:Int)):=λi hi=>by
  grind [aBy,aSY]
 have bad:m<s.size->aAi m ((bN s).getD m 0)=false:=λh=>m3.elim (λe=>by omega) λh=>h.2;have lc:=aDk s;have gr:=fR s;have raw:=aOL s;have hv:aZ s=(decide (1<=s.size)&&(decide (s.size<=10)&&decide (m=s.size))):=by unfold aZ;rw[hp]
 rw[hv];sym =>
  simp[Za,Zb,Zf,Zh,Zl,Zm,Zo,Zv,ZS,ZV,Yx,Vd,VH,Tg,Tr,Tv,T2,TZ,Sa,SN,SX,Rb,Rc,Rk,Rl,RU,RV,raw]
  tactic =>
   unfold aVg;rw[aG m (λi=>[.str s,.sl 0 0 1 s.size,I (s.size:Nat),I (i:Nat)]) (λ_=>[aa (eE s)])]
   .by_cases hm:m=s.size
    .rw[AAj hm,hm]
     by_cases z:s.size=0
     .have d1:decide (1<=s.size)=false:=AAk AS
      have z1:((0:Int)<(s.size:Int))=False:=AAb;rw[d1];(exact rR e0 z1 lc gr)
     .have d1:decide (1<=s.size)=true:=AAj AS
      have z1:((0:Int)<(s.size:Int))=True:=AAa;rw[d1];by_cases z2:s.size<=10
      .have d2:decide (s.size<=10)=true:=AAj z2
       have z3:((s.size:Int)<=10)=True:=AAa;rw[d2];(exact qR e0 z1 z3 lc gr)
      .have d2:decide (s.size<=10)=false:=AAk z2
       have z3:((s.size:Int)<=10)=False:=AAb;rw[d2];(exact qR e0 z1 z3 lc gr)
    .rw[AAk hm,aG3,aG3]
     have hm':m<s.size:=AS
     obtain⟨x,x1,x2,x3⟩:=at0 m hm';have hb:=bad hm';rw[x1]at hb;have i1:((m:Int)<(s.size:Int))=True:=AAa;have i2:(m<s.size)=True:=AAn hm';rcases mC ((x:Int)<97)with tA|tA<;>rcases mC ((122:Int)<(x:Int))with tB|tB<;>rcases mC ((m:Int)=0)with tC|tC<;>rcases mC ((x:Int)<48)with tD|tD<;>rcases mC ((57:Int)<(x:Int))with tE|tE<;>first|(exfalso;revert hb;simp[aAi]at *<;>omega)|(exact gZ i1 i2 x3 lc gr tA tB tC tD tE)
   .rfl
   .intro i hi
    have hi':i<s.size:=AS
    obtain⟨x,x1,x2,x3⟩:=at0 i hi';have hb:=m2 i hi;rw[x1]at hb;have i1:((i:Int)<(s.size:Int))=True:=AAa;have i2:(i<s.size)=True:=AAn hi';have a2:=cV (n:=s.size) (i:=i) AS AS;have n0:=eL s;rcases mC ((x:Int)<97)with tA|tA<;>rcases mC ((122:Int)<(x:Int))with tB|tB<;>rcases mC ((i:Int)=0)with tC|tC<;>rcases mC ((x:Int)<48)with tD|tD<;>rcases mC ((57:Int)<(x:Int))with tE|tE<;>first|(exfalso;revert hb;simp[aAi]at *<;>omega)|(exact eK i1 i2 a2 x3 lc gr n0 tA tB tC tD tE aF)
   .by_cases hm:m=s.size
    .rw[hm]
     (exact cI e0)
    .have hm':m<s.size:=AS
     obtain⟨x,x1,x2,x3⟩:=at0 m hm';have hb:=bad hm';rw[x1]at hb;have i1:((m:Int)<(s.size:Int))=True:=AAa;have i2:(m<s.size)=True:=AAn hm';rcases mC ((x:Int)<97)with tA|tA<;>rcases mC ((122:Int)<(x:Int))with tB|tB<;>rcases mC ((m:Int)=0)with tC|tC<;>rcases mC ((x:Int)<48)with tD|tD<;>rcases mC ((57:Int)<(x:Int))with tE|tE<;>first|(exfalso;revert hb;simp[aAi]at *<;>omega)|(exact gZ i1 i2 x3 lc gr tA tB tC tD tE)
theorem bCy{s:ByteArray}(hs:s.size<=1000000):runW aB 80 [.str s] []=some (.bool (aZ s),[]):=by
 rw[qX 80 x80 rfl];unfold x80;dsimp only;have bl:=mN s;obtain⟨m,m1,m2,m3⟩:=gW (λi=>aAi i ((bN s).getD i 0)) s.size;have hp:=aVO m1 m2 m3;have e0:((s.size:Int)<(s.size:Int))=False:=AAb;have at0:∀ i,i<s.size->∃ x,(bN s).getD i 0=x/\x<256/\((s.data.toList.getD i 0).toNat:Int)=(x:Int):=λi hi=>by
  grind [aBy]
 have bad:m<s.size->aAi m ((bN s).getD m 0)=false:=λh=>m3.elim (λe=>by omega) λh=>h.2;have hv:aZ s=(decide (1<=s.size)&&(decide (s.size<=10)&&decide (m=s.size))):=by unfold aZ;rw[hp]
 rw[hv];by_cases z:s.size=0
 .have d1:decide (1<=s.size)=false:=AAk AS
  have z1:((s.size:Int)=0)=True:=AAa;rw[d1];(exact cI z1)
 .have d1:decide (1<=s.size)=true:=AAj AS
  have z1:((s.size:Int)=0)=False:=AAb;rw[d1];by_cases z2:s.size<=10
  .have d2:decide (s.size<=10)=true:=AAj z2
   have z3:((10:Int)<(s.size:Int))=False:=AAb;rw[d2,J2,J2];sym =>
    simp[Za,Zb,Zf,Zh,Zl,Zm,Zp,Zr,Zv,Zy,ZA,ZS,Yq,Yz,YF,YK,Vd,VH,Tg,Tl,Tn,Tr,T2,TK,TZ,Sa,SV,SX,SZ,Rb,Rc,Rk,Rl,z1,z3]
    tactic =>
     unfold aVd;rw[aG m (λi=>[.str s,I (i:Nat)]) (λ_=>[])]
     .by_cases hm:m=s.size
      .rw[AAj hm,hm]
       (exact cI e0)
      .rw[AAk hm]
       have hm':m<s.size:=AS
       obtain⟨x,x1,x2,x3⟩:=at0 m hm';have hb:=bad hm';rw[x1]at hb;have i1:((m:Int)<(s.size:Int))=True:=AAa;rcases mC ((97:Int)<=(x:Int))with tA|tA<;>rcases mC ((x:Int)<=122)with tB|tB<;>rcases mC ((m:Int)=0)with tC|tC<;>rcases mC ((48:Int)<=(x:Int))with tD|tD<;>rcases mC ((x:Int)<=57)with tE|tE<;>first|(exfalso;revert hb;simp[aAi]at *<;>omega)|(exact iS i1 x3 tA tB tC tD tE)
     .rfl
     .intro i hi
      have hi':i<s.size:=AS
      obtain⟨x,x1,x2,x3⟩:=at0 i hi';have hb:=m2 i hi;rw[x1]at hb;have i1:((i:Int)<(s.size:Int))=True:=AAa;have a2:=cV (n:=s.size) (i:=i) AS AS;rcases mC ((97:Int)<=(x:Int))with tA|tA<;>rcases mC ((x:Int)<=122)with tB|tB<;>rcases mC ((i:Int)=0)with tC|tC<;>rcases mC ((48:Int)<=(x:Int))with tD|tD<;>rcases mC ((x:Int)<=57)with tE|tE<;>first|(exfalso;revert hb;simp[aAi]at *<;>omega)|(exact kN i1 a2 x3 tA tB tC tD tE aF)
     .by_cases hm:m=s.size
      .rw[hm]
       (exact cI e0)
      .have hm':m<s.size:=AS
       obtain⟨x,x1,x2,x3⟩:=at0 m hm';have hb:=bad hm';rw[x1]at hb;have i1:((m:Int)<(s.size:Int))=True:=AAa;rcases mC ((97:Int)<=(x:Int))with tA|tA<;>rcases mC ((x:Int)<=122)with tB|tB<;>rcases mC ((m:Int)=0)with tC|tC<;>rcases mC ((48:Int)<=(x:Int))with tD|tD<;>rcases mC ((x:Int)<=57)with tE|tE<;>first|(exfalso;revert hb;simp[aAi]at *<;>omega)|(exact iS i1 x3 tA tB tC tD tE)
  .have d2:decide (s.size<=10)=false:=AAk z2
   have z3:((10:Int)<(s.size:Int))=True:=AAa;rw[d2];(exact kJ z1 z3)
abbrev zT(B:List ByteArray):Option XB:=some (.blk true (.cells false (bQ B)))
def lSs(i:Nat):AV:=if i=0 then .nilsl else .sl 3 0 40 i
def lGs(B ls:List ByteArray)(row i:Nat):XH:=if i=0 then [zT B,aa [.nilpt,.nilsl]] else
 [zT B,ab [.pt 1 0,.sb 2 (Bn ls row i).size],aa (eE (Bn ls row i)),aa (bV (Cn ls i))]
theorem bBR{B ls:List ByteArray}{row o:Nat}(hB:∀ i s,ls[i]?=some s->(bQ B)[o+i]?=some (.str s))(h0:1<=ls.length)(h1:ls.length<=1000)(hr:row<=10000):runW aB 37 [.sl 0 o 1 ls.length,I (row:Int)] [zT B]=some (.str (Bn ls row ls.length++rwB (row+ls.length) (dY (Cn ls ls.length) ls.length)),[zT B]):=by
 rw[qX 37 x37 rfl];unfold x37;dsimp only;have gB:=bP B;have l0:(bV (nf 0)).length=40:=by rfl
 have gz:=bW (nf 0);sym =>
  simp[Za,Zb,Zf,Zh,Zl,Zm,Zv,ZS,Yx,Vb,Vh,VH,Tg,Tr,Tu,Tv,Tz,T2,TZ,Sa,SX,Rb,Rc,Rk,Rl,Pq]
  tactic =>
   rw[aWe];unfold aUX;rw[aG ls.length (λi=>[I (row:Int),.bp 1,lSs i,.sl 0 o 1 ls.length,I (ls.length:Nat),I (i:Nat)]) (λi=>lGs B ls row i)]
   .have hn0:¬ls.length=0:=AS
    have e0:((ls.length:Int)<(ls.length:Int))=False:=AAb;have s0:lSs ls.length = .sl 3 0 40 ls.length:=if_neg hn0;have g0:lGs B ls row ls.length=[zT B,ab [.pt 1 0,.sb 2 (Bn ls row ls.length).size],aa (eE (Bn ls row ls.length)),aa (bV (Cn ls ls.length))]:=if_neg hn0;have bz:=yZ ls row ls.length;have lc:=mQ (ls:=ls) (B5 _);have c1:=bBQ (C:=Cn ls ls.length) (n:=ls.length) AS (aYk ls _) h1;have l3:=eN (C:=Cn ls ls.length) (n:=ls.length) AS ls.length (B5 _);have b3:=yF (C:=Cn ls ls.length) ls.length;have c2:=w77 (row:=row+ls.length) l3 b3 AS;have zs:=aAO (row:=row+ls.length) l3;have nr:kZ (qG (row+ls.length) (dY (Cn ls ls.length) ls.length))=rwB (row+ls.length) (dY (Cn ls ls.length) ls.length):=rfl;rw[nr]at c2;rw[bZ]at c1 c2;have c3:=aWo (s:=rwB (row+ls.length) (dY (Cn ls ls.length) ls.length)) (a:=Bn ls row ls.length) AS AS AS;rw[zs]at c3;have sz:(Bn ls row ls.length++rwB (row+ls.length) (dY (Cn ls ls.length) ls.length)).size=(Bn ls row ls.length).size+45:=by grind
    have c4:=w71 (a:=Bn ls row ls.length++rwB (row+ls.length) (dY (Cn ls ls.length) ls.length)) AS AS;rw[sz]at c4;have r1:IntKind.i64.wrap ((row:Int)+(ls.length:Int))=((row+ls.length:Nat):Int):=by grind [aE]
    have m1:=bG (dY (Cn ls ls.length) ls.length);rw[l3]at m1;have k5:=gS l3;have k6:=jY l3;have g5:=bW (dY (Cn ls ls.length) ls.length);have gc:=bW (Cn ls ls.length);have fz:(ls.length*40<=(bV (Cn ls ls.length)).length)=True:=AAn (by rw[bG,lc];omega);have fl:=(bBr (C:=Cn ls ls.length) (n:=ls.length) AS).1;generalize Bn ls row ls.length++rwB (row+ls.length) (dY (Cn ls ls.length) ls.length)=T at *;generalize rwB (row+ls.length) (dY (Cn ls ls.length) ls.length)=R at *;generalize dY (Cn ls ls.length) ls.length=f at *;generalize (Bn ls row ls.length).size=sz at *;generalize Bn ls row ls.length=B0 at *;generalize Cn ls ls.length=C0 at *;(sym=>(simp[Za,Zb,Zf,Zg,Zh,Zj,Zl,Zm,Zv,ZA,ZS,Yf,Yi,Yn,Yo,Yw,Y8,YH,XI,XL,XM,XO,XX,Wn,Wv,Wx,Wy,Wz,W3,W5,WC,WH,WL,WS,WY,WZ,Vd,Vg,V5,V8,VF,VG,VI,VJ,VK,VL,VN,VP,VQ,VV,VW,VX,VY,VZ,Ua,Ub,Uc,Ue,Uf,Ug,Uh,Ui,Uj,Uk,Un,Uo,Ur,Ut,Uu,Uv,Uw,U9,UA,UB,UC,UD,UE,UF,UG,UM,UN,UO,UR,US,UU,UV,UW,UX,UY,Tb,Tc,Td,Te,Th,Tl,Tn,Ts,Tt,Tu,Tv,Tw,Tx,Ty,Tz,T2,T5,T8,TA,TF,TH,TI,TK,TN,TO,TP,TQ,TR,TS,TT,TX,TY,S9,SV,SX,SY,Ra,Rc,Re,Ri,Rk,Rl,Qa,QQ,QS,QV,Pg,Pj,Pk,Pm,Pn,Po,Pp,Pv,Pw,Px,Py,P0,P8,P9,PA,PB,PI,PJ,PK,PL,s0,g0,e0,fz,fl,c1,c2,c3,c4,r1,m1,k5,k6,g5,gc,zs,eF,dK,dZ,eG,eL,eW,eX,aU,aR,aT,gB];all_goals tactic=>exact rfl))
   .rfl
   .intro i hi
    have i1:((i:Int)<(ls.length:Int))=True:=AAa;have a2:=cV hi AS;obtain⟨s,hs⟩:=dO hi;have hx:=hB i s hs;have c1:=w44 s;rw[bZ]at c1;have lf:=qM s;have c2:=w77 (row:=row+i) lf (aCV s) AS;rw[bZ]at c2;have r1:IntKind.i64.wrap ((row:Int)+(i:Int))=((row+i:Nat):Int):=by grind [aE]
    have m1:=bG (rH s);rw[lf]at m1;have k5:=gS lf;have k6:=jY lf;have g5:=bW (rH s);have c8:=kO (a:=nf 0) (b:=rH s) (by grind [rG]);have zs:=aAO (row:=row+i) lf;have nl:newF (bN s)=rH s:=rfl;have nr:kZ (qG (row+i) (rH s))=rwB (row+i) (rH s):=rfl;rw[nl]at c1;rw[nr]at c2;by_cases hi0:i=0
    .subst hi0
     have s0:lSs 0 = .nilsl:=rfl;have g0:lGs B ls row 0=[zT B,aa [.nilpt,.nilsl]]:=rfl;have cn:=aUV hs;have cn0:Cn ls 0=[]:=rfl;rw[cn0,D4]at cn;have bn:=aYl (row:=row) hs;have bn0:Bn ls row 0=⟨⟨[]⟩⟩:=rfl;rw[bn0,aUq]at bn;rw[I6]at c2 zs;have bn:Bn ls row (0+1)=rwB row (rH s):=bn;have c3:=aWp (s:=rwB row (rH s)) AS AS;rw[zs]at c3;have s1:lSs (0+1) = .sl 3 0 40 1:=rfl;have g1:lGs B ls row (0+1)=[zT B,ab [.pt 1 0,.sb 2 (Bn ls row (0+1)).size],aa (eE (Bn ls row (0+1))),aa (bV (Cn ls (0+1)))]:=rfl;rw[s1,g1,cn,bn,zs];have j1:((0:Int)<(ls.length:Int))=True:=AAa;rw[I6]at hx;have j3:IntKind.i64.wrap ((row:Int)+0)=(row:Int):=AS
     have j4:(0<ls.length)=True:=AAa;generalize hR:rwB row (rH s)=R at *;generalize rH s=f at *;(sym=>(simp[Za,Zb,Zd,Ze,Zf,Zg,Zh,Zj,Zl,Zm,Zo,Zv,Z8,ZA,ZI,ZW,Yf,Yi,Ym,Yn,Yo,Y4,Y8,YH,YP,YV,YX,YZ,XI,XL,XM,XW,XX,Wk,Wv,Wx,Wy,Wz,W4,W5,WC,WH,Vd,Vs,V5,V6,V7,V8,VF,VG,VI,VJ,VK,VL,VN,VO,VP,VQ,VV,VW,VX,VY,VZ,Ua,Ub,Uc,Ud,Ue,Uf,Ug,Ui,Uj,Uk,Un,Uo,Ur,Ut,Uu,Uv,Uw,UC,UE,UF,UG,Th,Ti,Tj,Tl,Tm,Ts,Tt,Tu,Tv,Tw,Tx,Ty,Tz,T2,T5,T8,TF,TH,TI,TJ,TL,TM,TN,TO,TP,TQ,TR,Sd,Se,Sf,Sq,Sr,Ss,Su,S3,S4,S5,S6,SA,SC,SF,SG,SN,SP,SQ,SU,SV,SX,SZ,Rb,Rc,Rg,Rj,Rk,Rl,Qb,Qi,QQ,Pg,Pj,Pk,Pm,Pn,Po,Pp,Pv,Px,P0,P8,P9,PB,PI,PJ,PK,PL,s0,g0,j1,j3,j4,hx,c1,c2,c3,m1,k5,k6,g5,c8,zs,l0,gz,eF,dK,dZ,eG,eL,eW,eX,aU,aR,aT,gB];all_goals tactic=>exact rfl))
    .have s0:lSs i = .sl 3 0 40 i:=if_neg hi0
     have g0:lGs B ls row i=[zT B,ab [.pt 1 0,.sb 2 (Bn ls row i).size],aa (eE (Bn ls row i)),aa (bV (Cn ls i))]:=if_neg hi0;have s1:lSs (i+1) = .sl 3 0 40 (i+1):=if_neg AS;have g1:lGs B ls row (i+1)=[zT B,ab [.pt 1 0,.sb 2 (Bn ls row (i+1)).size],aa (eE (Bn ls row (i+1))),aa (bV (Cn ls (i+1)))]:=if_neg AS;have bn:=aYl (row:=row) hs;have bz:=yZ ls row i;have bs1:(Bn ls row (i+1)).size=(Bn ls row i).size+45:=by grind
     have ap:=aOA (Cn ls i) (rH s);rw[<-aUV hs]at ap;have ca:=bBF hs;have lc:=bG (Cn ls i);rw[mQ AS]at lc;have lc1:=bG (Cn ls (i+1));rw[mQ AS]at lc1;have gc:=bW (Cn ls i);have gc1:=bW (Cn ls (i+1));have c3:=aWo (s:=rwB (row+i) (rH s)) (a:=Bn ls row i) AS AS AS;rw[zs,<-bn]at c3;rw[s1,g1,bs1];have z2:((i+1)*40<=1099511627776)=True:=AAa;have z3:(i+1<=1099511627776)=True:=AAa;have z4:((i:Int)<((i+1:Nat):Int))=True:=AAa;have z5:(i*40+40<=(i+1)*40)=True:=AAa;generalize (Bn ls row i).size=sz at *;generalize Bn ls row (i+1)=B1 at *;generalize Bn ls row i=B0 at *;generalize Cn ls (i+1)=C1 at *;generalize Cn ls i=C0 at *;generalize rwB (row+i) (rH s)=R at *;generalize rH s=f at *;(sym=>(simp[Za,Zb,Zd,Ze,Zf,Zg,Zh,Zj,Zl,Zm,Zo,Zv,Z8,ZA,ZI,ZW,Yf,Yi,Ym,Yn,Yo,Y4,Y8,YH,YM,YN,XI,XL,XM,XW,XX,Wk,Wv,Wx,Wy,Wz,W4,W5,WC,WH,Vd,Vs,V5,V6,V7,V8,VF,VG,VI,VJ,VK,VL,VN,VO,VP,VQ,VV,VW,VX,VY,VZ,Ua,Ub,Uc,Ud,Ue,Uf,Ug,Uh,Ui,Uj,Uk,Un,Uo,Ur,Ut,Uu,Uv,Uw,UC,UE,UF,UG,Th,Ti,Tj,Tl,Tm,Ts,Tt,Tu,Tv,Tw,Tx,Ty,Tz,T2,T5,T8,TF,TH,TI,TJ,TL,TM,TN,TO,TP,TQ,TR,Sd,Se,Sf,Sq,Sr,Ss,Su,S3,S4,S5,S7,S8,SA,SC,SF,SG,SN,SO,SP,SQ,SV,SX,SZ,Rb,Rc,Rg,Rj,Rk,Rl,RZ,Qa,Qi,QQ,Pg,Pj,Pk,Pm,Pn,Po,Pp,Pv,Px,P0,P8,P9,PB,PI,PJ,PK,PL,s0,g0,i1,a2,hx,c1,c2,c3,r1,m1,k5,k6,g5,c8,zs,l0,gz,ap,ca,lc,lc1,gc,gc1,z2,z3,z4,z5,eF,dK,dZ,eG,eL,eW,eX,aU,aR,aT,gB];all_goals tactic=>exact rfl))
   .have e0:((ls.length:Int)<(ls.length:Int))=False:=AAb
    (exact cI e0)
theorem zC(n:Int):runW aB 24 [.bool true,I n] []=some (.tup [],[]):=by
 rw[qX 24 x24 rfl];unfold x24;dsimp only;(exact RT0)
theorem c58(n:Int)(h:XH):CalP Tryz.prog aB 24 [.bool false,I n] h (.ifc 48 (.agg [I n])) h:=λB Y r H as' _ sh hA=>bCG progX_ok.mixed .i64 n sh hA
def ent(ks:List ByteArray)(es:List Nat):List (AV×AV):=List.zipWith (λk e=>(AV.str k,AV.pt e 0)) ks es
def bR:List ByteArray->ByteArray->Option Nat
 | [],_=>none
 | k::r,x=>if k=x then some 0 else (bR r x).map (· + 1)
theorem dG{x:ByteArray}:∀{ks:List ByteArray}{i:Nat},bR ks x=some i->ks[i]?=some x
 | [],_,h=>by cases h
 | k::r,i,h=>by
   unfold bR at h;split at h;·rename_i hk;cases h;rw[hk];rfl
   .rw[B2]at h
    obtain⟨j,hj,rfl⟩:=h;rw[I1];exact dG hj
theorem kY{x:ByteArray}:∀{ks:List ByteArray},bR ks x=none↔x∉ks
 | []=>by simp[bR]
 | k::r=>by
   unfold bR;split;·grind
   .rename_i hk
    rw[O8,kY,C4,not_or]
    grind
theorem yM{x:ByteArray}{ks:List ByteArray}(h:x∈ks):∃ i,bR ks x=some i:=by
 cases hn:bR ks x with
 | none=>grind [kY]
 | some i=>grind
theorem aHQ(a b:ByteArray):(a==b)=decide (a=b):=by
 by_cases h:a=b;·grind [yX]
 .rw[AAk h];exact aE5.2 λe=>h ((yX a b).1 e)
theorem pR{x:ByteArray}:∀{ks:List ByteArray}{es:List Nat},ks.length=es.length->aV true (.str x) (ent ks es)=some (((bR ks x).bind λi=>es[i]?).map λe=>.pt e 0)
 | [],[],_=>rfl
 | k::ks,e::es,h=>by
   have ih:=pR (x:=x) (ks:=ks) (es:=es) (by grind);show (match iV true (.str x) (.str k)with
    | some true=>some (some (AV.pt e 0))
    | some false=>aV true (.str x) (ent ks es)
    | none=>none)=_
   have hk:iV true (.str x) (.str k)=some (decide (x=k)):=AAs some (aHQ x k);rw[hk];unfold bR;by_cases hx:x=k;·grind
   .rw[AAk hx,if_neg (λe=>hx e.symm),ih]
    cases bR ks x<;>rfl
theorem aAV{x:ByteArray}{v:AV}:∀{ks:List ByteArray}{es:List Nat},ks.length=es.length->bR ks x=none->kU true (.str x) v (ent ks es)=some (ent ks es++[(.str x,v)])
 | [],[],_,_=>rfl
 | k::ks,e::es,h,hn=>by
   have hx:¬x=k:=λe=>(kY.1 hn) (by simp[e]);have hn2:bR ks x=none:=kY.2 λhm=>(kY.1 hn) (by simp[hm]);have ih:=aAV (x:=x) (v:=v) (ks:=ks) (es:=es) (by grind) hn2;show (match iV true (.str x) (.str k)with
    | some true=>some ((AV.str k,v)::ent ks es)
    | some false=>(kU true (.str x) v (ent ks es)).map ((AV.str k,AV.pt e 0) :: ·)
    | none=>none)=_
   have hk:iV true (.str x) (.str k)=some (decide (x=k)):=AAs some (aHQ x k);rw[hk,AAk hx,ih];rfl
theorem xQ{ks:List ByteArray}{es:List Nat}(h:ks.length=es.length)(x:ByteArray)(e:Nat):ent (ks++[x]) (es++[e])=ent ks es++[(.str x,.pt e 0)]:=by
 unfold ent;rw[List.zipWith_append h];rfl
def iX(b n:Nat):AV:=if n=0 then .nilsl else .sl b 0 1 n
theorem w95{h:XH}{o m e:Nat}{g g2:Bool}{a b:AV}{es:List (AV×AV)}{x:ByteArray}(ho:hat h o=some (.blk g (.cells true [a,.mp m,b])))(hm:hat h m=some (.blk g2 (.map true es)))(hf:aV true (.str x) es=some (some (.pt e 0))) :
 runW aB 72 [.pt o 0,.str x] h=some (.pt e 0,h):=by
 rw[qY 72 x72 rfl];unfold x72;dsimp only;have c:=zC 5;(exact rR ho hm hf c)
theorem c95{h:XH}{o m:Nat}{g g2:Bool}{a b:AV}{es:List (AV×AV)}{x:ByteArray}(ho:hat h o=some (.blk g (.cells true [a,.mp m,b])))(hm:hat h m=some (.blk g2 (.map true es)))(hf:aV true (.str x) es=some none) :
 CalP Tryz.prog aB 72 [.pt o 0,.str x] h (.ifc 48 (.agg [I 5])) h:=by
 refine CalP.of (d:=x72) (e':=aY [] []) aA rfl (by simp[x72]) rfl ?_;unfold x72;dsimp only;refine PanX.seqR (K:=72) aA rfl [0,1] (vs:=[.pt o 0,.str x]) (h1:=h) (by (exact RT0)) ?_;refine PanX.seqR (K:=72) aA rfl [5] (vs:=[.nilpt]) (h1:=h) (by (exact vC ho hm hf)) ?_;refine PanX.seqL ?_;exact PanX.reg (p:=[⟨0,some 12,.mv (.t 5),none⟩,⟨0,some 13,.eqn 3 true (.t 12) (.c .nilpt),none⟩]) (post:=[]) aA [] (g:=24) (first:=[]) (cap:=[]) (args:=[.bool false,I 5]) (vs:=[]) (h1:=h) rfl rfl (by rfl) (c58 5 h)
theorem w96{h:XH}{o m e:Nat}{g g2:Bool}{a b:AV}{es:List (AV×AV)}{x:ByteArray}(ho:hat h o=some (.blk g (.cells true [a,.mp m,b])))(hm:hat h m=some (.blk g2 (.map true es)))(hf:aV true (.str x) es=some (some (.pt e 0))) :
 runW aB 73 [.pt o 0,.str x] h=some (.pt e 0,h):=by
 rw[qY 73 x73 rfl];unfold x73;dsimp only;have c:=zC 5;(exact rR ho hm hf c)
theorem c96{h:XH}{o m:Nat}{g g2:Bool}{a b:AV}{es:List (AV×AV)}{x:ByteArray}(ho:hat h o=some (.blk g (.cells true [a,.mp m,b])))(hm:hat h m=some (.blk g2 (.map true es)))(hf:aV true (.str x) es=some none) :
 CalP Tryz.prog aB 73 [.pt o 0,.str x] h (.ifc 48 (.agg [I 5])) h:=by
 refine CalP.of (d:=x73) (e':=aY [] []) aA rfl (by simp[x73]) rfl ?_;unfold x73;dsimp only;refine PanX.seqR (K:=73) aA rfl [0,1] (vs:=[.pt o 0,.str x]) (h1:=h) (by (exact RT0)) ?_;refine PanX.seqR (K:=73) aA rfl [5] (vs:=[.nilpt]) (h1:=h) (by (exact vC ho hm hf)) ?_;refine PanX.seqL ?_;exact PanX.reg (p:=[⟨0,some 12,.mv (.t 5),none⟩,⟨0,some 13,.eqn 3 true (.t 12) (.c .nilpt),none⟩]) (post:=[]) aA [] (g:=24) (first:=[]) (cap:=[]) (args:=[.bool false,I 5]) (vs:=[]) (h1:=h) rfl rfl (by rfl) (c58 5 h)
theorem w97{h:XH}{o m e:Nat}{g g2:Bool}{a b:AV}{es:List (AV×AV)}{x:ByteArray}(ho:hat h o=some (.blk g (.cells true [a,.mp m,b])))(hm:hat h m=some (.blk g2 (.map true es)))(hf:aV true (.str x) es=some (some (.pt e 0))) :
 runW aB 74 [.pt o 0,.str x] h=some (.pt e 0,h):=by
 rw[qY 74 x74 rfl];unfold x74;dsimp only;have c:=zC 5;(exact rR ho hm hf c)
theorem c97{h:XH}{o m:Nat}{g g2:Bool}{a b:AV}{es:List (AV×AV)}{x:ByteArray}(ho:hat h o=some (.blk g (.cells true [a,.mp m,b])))(hm:hat h m=some (.blk g2 (.map true es)))(hf:aV true (.str x) es=some none) :
 CalP Tryz.prog aB 74 [.pt o 0,.str x] h (.ifc 48 (.agg [I 5])) h:=by
 refine CalP.of (d:=x74) (e':=aY [] []) aA rfl (by simp[x74]) rfl ?_;unfold x74;dsimp only;refine PanX.seqR (K:=74) aA rfl [0,1] (vs:=[.pt o 0,.str x]) (h1:=h) (by (exact RT0)) ?_;refine PanX.seqR (K:=74) aA rfl [5] (vs:=[.nilpt]) (h1:=h) (by (exact vC ho hm hf)) ?_;refine PanX.seqL ?_;exact PanX.reg (p:=[⟨0,some 12,.mv (.t 5),none⟩,⟨0,some 13,.eqn 3 true (.t 12) (.c .nilpt),none⟩]) (post:=[]) aA [] (g:=24) (first:=[]) (cap:=[]) (args:=[.bool false,I 5]) (vs:=[]) (h1:=h) rfl rfl (by rfl) (c58 5 h)
def vW(h:XH)(o m:Nat)(t:AV)(x:ByteArray)(es:List (AV×AV))(z:List AV):XH :=
 (h.set o (ab [.sl (h.length+1) 0 1 1,.mp m,t])).set m (some (.blk false (.map true (es++[(.str x,.pt (h.length+2) 0)]))))++[aa [.str x],aa [.str x],aa z]
def vX(h:XH)(o m b:Nat)(t:AV)(x:ByteArray)(cs:List AV)(g3:Bool)(es:List (AV×AV))(z:List AV):XH :=
 ((h.set b none).set o (ab [.sl (h.length+1) 0 1 (cs.length+1),.mp m,t])).set m (some (.blk false (.map true (es++[(.str x,.pt (h.length+2) 0)]))))++[aa [.str x],some (.blk g3 (.cells true (cs++[.str x]))),aa z]
theorem bBO{h:XH}{o m e:Nat}{g g2:Bool}{a b:AV}{es:List (AV×AV)}{x:ByteArray}(ho:hat h o=some (.blk g (.cells true [a,.mp m,b])))(hm:hat h m=some (.blk g2 (.map true es)))(hf:aV true (.str x) es=some (some (.pt e 0))) :
 runW aB 64 [.pt o 0,.str x] h=some (.bool false,h):=by
 rw[qY 64 x64 rfl];unfold x64;dsimp only;(exact vC ho hm hf)
theorem bBN{h:XH}{o m:Nat}{g g2:Bool}{t:Int}{es:List (AV×AV)}{x:ByteArray}(ho:hat h o=some (.blk g (.cells true [.nilsl,.mp m,I t])))(hm:hat h m=some (.blk g2 (.map true es)))(hf:aV true (.str x) es=some none)(ht:((0:Int)=t)=False) :
 runW aB 64 [.pt o 0,.str x] h=some (.bool false,h):=by
 rw[qY 64 x64 rfl];unfold x64;dsimp only;(exact rR ho hm hf ht)
theorem aYw{h:XH}{o m b n:Nat}{g g2:Bool}{t:Int}{es:List (AV×AV)}{x:ByteArray}{w:Bool}(ho:hat h o=some (.blk g (.cells true [.sl b 0 1 n,.mp m,I t])))(hm:hat h m=some (.blk g2 (.map true es)))(hf:aV true (.str x) es=some none)(ht:((n:Int)=t)=if w then True else False) :
 runW aB 64 [.pt o 0,.str x] h=some (.bool w,h):=by
 rw[qY 64 x64 rfl];unfold x64;dsimp only;cases w<;>(exact rR ho hm hf ht)
theorem bBL{h:XH}{o m n:Nat}{g g2:Bool}{t:AV}{es:List (AV×AV)}{x:ByteArray}(hn:h.length=n)(on:(o<n)=True)(mn:(m<n)=True)(om:(o=m)=False)(mo:(m=o)=False)
 (ho:hat h o=some (.blk g (.cells true [.nilsl,.mp m,t]))) (hm:hat h m=some (.blk g2 (.map true es))) (hf:aV true (.str x) es=some none) (hp:kU true (.str x) (.pt (n+2) 0) es=some (es++[(.str x,.pt (n+2) 0)])) (hf2:aV true (.str x) (es++[(.str x,.pt (n+2) 0)])=some (some (.pt (n+2) 0))) :
 runW aB 66 [.pt o 0,.str x] h=some (.tup [.pt (n+2) 0,.bool true],vW h o m t x es [I 0]):=by
 rw[qY 66 x66 rfl];unfold x66 vW;dsimp only;(exact gZ ho hm hf hn on mn om mo hp hf2)
theorem bBM{h:XH}{o m n b z:Nat}{g g2 g3:Bool}{t:AV}{cs:List AV}{es:List (AV×AV)}{x:ByteArray}(hn:h.length=n)(on:(o<n)=True)(mn:(m<n)=True)(bn:(b<n)=True)(om:(o=m)=False)(mo:(m=o)=False)(ob:(o=b)=False)(bo:(b=o)=False)(bm:(b=m)=False)(mb:(m=b)=False)
 (ho:hat h o=some (.blk g (.cells true [.sl b 0 1 z,.mp m,t]))) (hb:hat h b=some (.blk g3 (.cells true cs))) (hz:cs.length=z) (hz1:((z+1)*16<=1099511627776)=True) (hz2:(z+1<=1099511627776)=True) (hm:hat h m=some (.blk g2 (.map true es))) (hf:aV true (.str x) es=some none) (hp:kU true (.str x) (.pt (n+2) 0) es=some (es++[(.str x,.pt (n+2) 0)])) (hf2:aV true (.str x) (es++[(.str x,.pt (n+2) 0)])=some (some (.pt (n+2) 0))) :
 runW aB 66 [.pt o 0,.str x] h=some (.tup [.pt (n+2) 0,.bool true],vX h o m b t x cs g3 es [I 0]):=by
 rw[qY 66 x66 rfl];unfold x66 vX;dsimp only;(exact eD ho hm hf hn on mn om mo hp hf2 bn ob bo bm mb hb hz hz1 hz2 aF)
theorem aYL{h:XH}{o m e:Nat}{g g2:Bool}{a b:AV}{es:List (AV×AV)}{x:ByteArray}(ho:hat h o=some (.blk g (.cells true [a,.mp m,b])))(hm:hat h m=some (.blk g2 (.map true es)))(hf:aV true (.str x) es=some (some (.pt e 0))) :
 runW aB 111 [.pt o 0,.str x] h=some (.bool false,h):=by
 rw[qY 111 aIg rfl];unfold aIg;dsimp only;(exact vC ho hm hf)
theorem aYK{h:XH}{o m:Nat}{g g2:Bool}{t:Int}{es:List (AV×AV)}{x:ByteArray}(ho:hat h o=some (.blk g (.cells true [.nilsl,.mp m,I t])))(hm:hat h m=some (.blk g2 (.map true es)))(hf:aV true (.str x) es=some none)(ht:((0:Int)=t)=False) :
 runW aB 111 [.pt o 0,.str x] h=some (.bool false,h):=by
 rw[qY 111 aIg rfl];unfold aIg;dsimp only;(exact rR ho hm hf ht)
theorem aVt{h:XH}{o m b n:Nat}{g g2:Bool}{t:Int}{es:List (AV×AV)}{x:ByteArray}{w:Bool}(ho:hat h o=some (.blk g (.cells true [.sl b 0 1 n,.mp m,I t])))(hm:hat h m=some (.blk g2 (.map true es)))(hf:aV true (.str x) es=some none)(ht:((n:Int)=t)=if w then True else False) :
 runW aB 111 [.pt o 0,.str x] h=some (.bool w,h):=by
 rw[qY 111 aIg rfl];unfold aIg;dsimp only;cases w<;>(exact rR ho hm hf ht)
theorem aYJ{h:XH}{o m e:Nat}{g g2:Bool}{a b:AV}{es:List (AV×AV)}{x:ByteArray}(ho:hat h o=some (.blk g (.cells true [a,.mp m,b])))(hm:hat h m=some (.blk g2 (.map true es)))(hf:aV true (.str x) es=some (some (.pt e 0))) :
 runW aB 113 [.pt o 0,.str x] h=some (.tup [.pt e 0,.bool false],h):=by
 rw[qY 113 aIf rfl];unfold aIf;dsimp only;(exact vC ho hm hf)
theorem aYH{h:XH}{o m n:Nat}{g g2:Bool}{t:AV}{es:List (AV×AV)}{x:ByteArray}(hn:h.length=n)(on:(o<n)=True)(mn:(m<n)=True)(om:(o=m)=False)(mo:(m=o)=False)
 (ho:hat h o=some (.blk g (.cells true [.nilsl,.mp m,t]))) (hm:hat h m=some (.blk g2 (.map true es))) (hf:aV true (.str x) es=some none) (hp:kU true (.str x) (.pt (n+2) 0) es=some (es++[(.str x,.pt (n+2) 0)])) (hf2:aV true (.str x) (es++[(.str x,.pt (n+2) 0)])=some (some (.pt (n+2) 0))) :
 runW aB 113 [.pt o 0,.str x] h=some (.tup [.pt (n+2) 0,.bool true],vW h o m t x es [I 0,I 0]):=by
 rw[qY 113 aIf rfl];unfold aIf vW;dsimp only;(exact gZ ho hm hf hn on mn om mo hp hf2)
theorem aYI{h:XH}{o m n b z:Nat}{g g2 g3:Bool}{t:AV}{cs:List AV}{es:List (AV×AV)}{x:ByteArray}(hn:h.length=n)(on:(o<n)=True)(mn:(m<n)=True)(bn:(b<n)=True)(om:(o=m)=False)(mo:(m=o)=False)(ob:(o=b)=False)(bo:(b=o)=False)(bm:(b=m)=False)(mb:(m=b)=False)
 (ho:hat h o=some (.blk g (.cells true [.sl b 0 1 z,.mp m,t]))) (hb:hat h b=some (.blk g3 (.cells true cs))) (hz:cs.length=z) (hz1:((z+1)*16<=1099511627776)=True) (hz2:(z+1<=1099511627776)=True) (hm:hat h m=some (.blk g2 (.map true es))) (hf:aV true (.str x) es=some none) (hp:kU true (.str x) (.pt (n+2) 0) es=some (es++[(.str x,.pt (n+2) 0)])) (hf2:aV true (.str x) (es++[(.str x,.pt (n+2) 0)])=some (some (.pt (n+2) 0))) :
 runW aB 113 [.pt o 0,.str x] h=some (.tup [.pt (n+2) 0,.bool true],vX h o m b t x cs g3 es [I 0,I 0]):=by
 rw[qY 113 aIf rfl];unfold aIf vX;dsimp only;(exact eD ho hm hf hn on mn om mo hp hf2 bn ob bo bm mb hb hz hz1 hz2 aF)
theorem aYG{h:XH}{o m e:Nat}{g g2:Bool}{a b:AV}{es:List (AV×AV)}{x:ByteArray}(ho:hat h o=some (.blk g (.cells true [a,.mp m,b])))(hm:hat h m=some (.blk g2 (.map true es)))(hf:aV true (.str x) es=some (some (.pt e 0))) :
 runW aB 114 [.pt o 0,.str x] h=some (.bool false,h):=by
 rw[qY 114 aIe rfl];unfold aIe;dsimp only;(exact vC ho hm hf)
theorem aYF{h:XH}{o m:Nat}{g g2:Bool}{t:Int}{es:List (AV×AV)}{x:ByteArray}(ho:hat h o=some (.blk g (.cells true [.nilsl,.mp m,I t])))(hm:hat h m=some (.blk g2 (.map true es)))(hf:aV true (.str x) es=some none)(ht:((0:Int)=t)=False) :
 runW aB 114 [.pt o 0,.str x] h=some (.bool false,h):=by
 rw[qY 114 aIe rfl];unfold aIe;dsimp only;(exact rR ho hm hf ht)
theorem aVs{h:XH}{o m b n:Nat}{g g2:Bool}{t:Int}{es:List (AV×AV)}{x:ByteArray}{w:Bool}(ho:hat h o=some (.blk g (.cells true [.sl b 0 1 n,.mp m,I t])))(hm:hat h m=some (.blk g2 (.map true es)))(hf:aV true (.str x) es=some none)(ht:((n:Int)=t)=if w then True else False) :
 runW aB 114 [.pt o 0,.str x] h=some (.bool w,h):=by
 rw[qY 114 aIe rfl];unfold aIe;dsimp only;cases w<;>(exact rR ho hm hf ht)
theorem aYE{h:XH}{o m e:Nat}{g g2:Bool}{a b:AV}{es:List (AV×AV)}{x:ByteArray}(ho:hat h o=some (.blk g (.cells true [a,.mp m,b])))(hm:hat h m=some (.blk g2 (.map true es)))(hf:aV true (.str x) es=some (some (.pt e 0))) :
 runW aB 116 [.pt o 0,.str x] h=some (.tup [.pt e 0,.bool false],h):=by
 rw[qY 116 aId rfl];unfold aId;dsimp only;(exact vC ho hm hf)
theorem aYC{h:XH}{o m n:Nat}{g g2:Bool}{t:AV}{es:List (AV×AV)}{x:ByteArray}(hn:h.length=n)(on:(o<n)=True)(mn:(m<n)=True)(om:(o=m)=False)(mo:(m=o)=False)
 (ho:hat h o=some (.blk g (.cells true [.nilsl,.mp m,t]))) (hm:hat h m=some (.blk g2 (.map true es))) (hf:aV true (.str x) es=some none) (hp:kU true (.str x) (.pt (n+2) 0) es=some (es++[(.str x,.pt (n+2) 0)])) (hf2:aV true (.str x) (es++[(.str x,.pt (n+2) 0)])=some (some (.pt (n+2) 0))) :
 runW aB 116 [.pt o 0,.str x] h=some (.tup [.pt (n+2) 0,.bool true],vW h o m t x es [I 0]):=by
 rw[qY 116 aId rfl];unfold aId vW;dsimp only;(exact gZ ho hm hf hn on mn om mo hp hf2)
theorem aYD{h:XH}{o m n b z:Nat}{g g2 g3:Bool}{t:AV}{cs:List AV}{es:List (AV×AV)}{x:ByteArray}(hn:h.length=n)(on:(o<n)=True)(mn:(m<n)=True)(bn:(b<n)=True)(om:(o=m)=False)(mo:(m=o)=False)(ob:(o=b)=False)(bo:(b=o)=False)(bm:(b=m)=False)(mb:(m=b)=False)
 (ho:hat h o=some (.blk g (.cells true [.sl b 0 1 z,.mp m,t]))) (hb:hat h b=some (.blk g3 (.cells true cs))) (hz:cs.length=z) (hz1:((z+1)*16<=1099511627776)=True) (hz2:(z+1<=1099511627776)=True) (hm:hat h m=some (.blk g2 (.map true es))) (hf:aV true (.str x) es=some none) (hp:kU true (.str x) (.pt (n+2) 0) es=some (es++[(.str x,.pt (n+2) 0)])) (hf2:aV true (.str x) (es++[(.str x,.pt (n+2) 0)])=some (some (.pt (n+2) 0))) :
 runW aB 116 [.pt o 0,.str x] h=some (.tup [.pt (n+2) 0,.bool true],vX h o m b t x cs g3 es [I 0]):=by
 rw[qY 116 aId rfl];unfold aId vX;dsimp only;(exact eD ho hm hf hn on mn om mo hp hf2 bn ob bo bm mb hb hz hz1 hz2 aF)
theorem aYO{h:XH}{o m e:Nat}{g g2:Bool}{a b:AV}{es:List (AV×AV)}{x:ByteArray}(ho:hat h o=some (.blk g (.cells true [a,.mp m,b])))(hm:hat h m=some (.blk g2 (.map true es)))(hf:aV true (.str x) es=some (some (.pt e 0))) :
 runW aB 109 [.pt o 0,.str x] h=some (.tup [.pt e 0,.bool false],h):=by
 rw[qY 109 aIh rfl];unfold aIh;dsimp only;(exact vC ho hm hf)
theorem aYM{h:XH}{o m n:Nat}{g g2:Bool}{t:AV}{es:List (AV×AV)}{x:ByteArray}(hn:h.length=n)(on:(o<n)=True)(mn:(m<n)=True)(om:(o=m)=False)(mo:(m=o)=False)
 (ho:hat h o=some (.blk g (.cells true [.nilsl,.mp m,t]))) (hm:hat h m=some (.blk g2 (.map true es))) (hf:aV true (.str x) es=some none) (hp:kU true (.str x) (.pt (n+2) 0) es=some (es++[(.str x,.pt (n+2) 0)])) (hf2:aV true (.str x) (es++[(.str x,.pt (n+2) 0)])=some (some (.pt (n+2) 0))) :
 runW aB 109 [.pt o 0,.str x] h=some (.tup [.pt (n+2) 0,.bool true],vW h o m t x es [I 0]):=by
 rw[qY 109 aIh rfl];unfold aIh vW;dsimp only;(exact gZ ho hm hf hn on mn om mo hp hf2)
theorem aYN{h:XH}{o m n b z:Nat}{g g2 g3:Bool}{t:AV}{cs:List AV}{es:List (AV×AV)}{x:ByteArray}(hn:h.length=n)(on:(o<n)=True)(mn:(m<n)=True)(bn:(b<n)=True)(om:(o=m)=False)(mo:(m=o)=False)(ob:(o=b)=False)(bo:(b=o)=False)(bm:(b=m)=False)(mb:(m=b)=False)
 (ho:hat h o=some (.blk g (.cells true [.sl b 0 1 z,.mp m,t]))) (hb:hat h b=some (.blk g3 (.cells true cs))) (hz:cs.length=z) (hz1:((z+1)*16<=1099511627776)=True) (hz2:(z+1<=1099511627776)=True) (hm:hat h m=some (.blk g2 (.map true es))) (hf:aV true (.str x) es=some none) (hp:kU true (.str x) (.pt (n+2) 0) es=some (es++[(.str x,.pt (n+2) 0)])) (hf2:aV true (.str x) (es++[(.str x,.pt (n+2) 0)])=some (some (.pt (n+2) 0))) :
 runW aB 109 [.pt o 0,.str x] h=some (.tup [.pt (n+2) 0,.bool true],vX h o m b t x cs g3 es [I 0]):=by
 rw[qY 109 aIh rfl];unfold aIh vX;dsimp only;(exact eD ho hm hf hn on mn om mo hp hf2 bn ob bo bm mb hb hz hz1 hz2 aF)
structure OL where
 o:Nat
 m:Nat
 b:Nat
 es:List Nat
def sBk(b:Nat)(cs:List AV):List (Nat×ABlk):=if cs.length=0 then [] else [(b,.cells true cs)]
def eB(es:List Nat)(vs:List (List AV)):List (Nat×ABlk):=List.zipWith (λe v=>(e,ABlk.cells true v)) es vs
def aAg(l:OL)(ks:List ByteArray)(vs:List (List AV))(t:Int):List (Nat×ABlk) :=
 (l.o,.cells true [iX l.b ks.length,.mp l.m,I t])::(l.m,.map true (ent ks l.es))::(sBk l.b (ks.map .str)++eB l.es vs)
def Hd(h:XH)(l:List (Nat×ABlk)):Prop:=(∀ p∈l,aH h p.1=some p.2)/\(l.map (·.1)).Nodup
structure Od(h:XH)(l:OL)(ks:List ByteArray)(vs:List (List AV))(t:Int):Prop where
 hd:Hd h (aAg l ks vs t)
 ek:l.es.length=ks.length
 vk:vs.length=ks.length
structure Fr(J:List Nat)(h h':XH):Prop where
 keep:∀ b,b<h.length->b∉J->aH h' b=aH h b
 len:h.length<=h'.length
theorem Fr.refl(J:List Nat)(h:XH):Fr J h h:=⟨λ_ _ _=>rfl,B5 _⟩
theorem Fr.trans{J:List Nat}{h h1 h2:XH}(a:Fr J h h1)(b:Fr J h1 h2):Fr J h h2:=⟨λx hx hn=>(b.keep x (E5 hx a.len) hn).trans (a.keep x hx hn),H9 a.len b.len⟩
theorem Fr.mono{J K:List Nat}{h h1:XH}(a:Fr J h h1)(s:∀ b,b∈J->b∈K):Fr K h h1:=⟨λx hx hn=>a.keep x hx λhm=>hn (s x hm),a.len⟩
theorem Fr.app(h k:XH):Fr [] h (h++k):=⟨λb hb _=>by simp only[aH,cX];grind,by simp⟩
theorem aC{h:XH}{b:Nat}{x:ABlk}(hb:aH h b=some x):∃ g,hat h b=some (.blk g x):=by
 unfold aH at hb
 grind
theorem aQK{h:XH}{b:Nat}{g:Bool}{x:ABlk}(hb:hat h b=some (.blk g x)):aH h b=some x:=by
 unfold aH;rw[hb]
theorem aI{h:XH}{b:Nat}{x:ABlk}(hb:aH h b=some x):b<h.length:=by
 obtain⟨g,hg⟩:=aC hb;exact Classical.byContradiction λhn=>by
  simp_all [hat]
theorem cR{h:XH}{b j:Nat}{g:Bool}{x:ABlk}:aH (h.set b (some (.blk g x))) j=if j=b then (if b<h.length then some x else aH h j) else aH h j:=by
 simp only[aH,PQ]
 grind
theorem aGb{h:XH}{b j:Nat}(hj:j≠b):aH (h.set b none) j=aH h j:=by
 simp only[aH,PQ,if_neg hj]
theorem fZ{h k:XH}{j:Nat}:aH (h++k) j=if j<h.length then aH h j else aH k (j-h.length):=by
 simp only[aH,PR]
 grind
theorem aXK{es:List Nat}:∀{vs:List (List AV)},es.length=vs.length->(eB es vs).map (·.1)=es:=by
 induction es with
 | nil=>simp[eB]
 | cons e r ih=>intro vs h;cases vs with
   | nil=>cases h
   | cons v w=>simp_all [eB]
theorem aRe{es:List Nat}{vs:List (List AV)}{i e:Nat}{v:List AV}(he:es[i]?=some e)(hv:vs[i]?=some v):(e,ABlk.cells true v)∈eB es vs:=by
 refine B3 (i:=i) ?_
 grind [eB]
theorem aUs{es:List Nat}{vs:List (List AV)}(h:es.length=vs.length)(e:Nat)(v:List AV):eB (es++[e]) (vs++[v])=eB es vs++[(e,.cells true v)]:=by
 unfold eB;rw[List.zipWith_append h];rfl
theorem aKH{es:List Nat}{vs:List (List AV)}{p:Nat×ABlk}(h:p∈eB es vs):∃(i:Nat)(e:Nat)(v:List AV),es[i]?=some e/\vs[i]?=some v/\p=(e,.cells true v):=by
 grind [List.getElem?_of_mem,eB]
def idx(l:OL)(n:Nat):List Nat:=l.o::l.m::((if n=0 then [] else [l.b])++l.es)
theorem sQ{l:OL}{ks:List ByteArray}{vs:List (List AV)}{t:Int}(h:l.es.length=vs.length):(aAg l ks vs t).map (·.1)=idx l ks.length:=by
 unfold aAg idx sBk
 grind [aXK]
variable{h h':XH}{l:OL}{ks:List ByteArray}{vs:List (List AV)}{t:Int}{x:ByteArray}{i:Nat}
namespace Od
theorem ho(od:Od h l ks vs t):∃ g,hat h l.o=some (.blk g (.cells true [iX l.b ks.length,.mp l.m,I t])):=aC (od.hd.1 (l.o,_) (by simp[aAg]))
theorem hm(od:Od h l ks vs t):∃ g,hat h l.m=some (.blk g (.map true (ent ks l.es))):=aC (od.hd.1 (l.m,_) (by simp[aAg]))
theorem hb(od:Od h l ks vs t)(hk:0<ks.length):∃ g,hat h l.b=some (.blk g (.cells true (ks.map .str))):=aC (od.hd.1 (l.b,_) (by
 have:¬ks.length=0:=AS
 simp[aAg,sBk,this]))
theorem he(od:Od h l ks vs t){e:Nat}{v:List AV}(he:l.es[i]?=some e)(hv:vs[i]?=some v):aH h e=some (.cells true v):=od.hd.1 (e,.cells true v) (by
 unfold aAg
 grind [aRe])
theorem nd(od:Od h l ks vs t):(idx l ks.length).Nodup:=by
 rw[<-sQ (t:=t) (od.ek.trans od.vk.symm)];exact od.hd.2
theorem lt(od:Od h l ks vs t){b:Nat}(hb:b∈idx l ks.length):b<h.length:=by
 rw[<-sQ (ks:=ks) (t:=t) (od.ek.trans od.vk.symm)]at hb;obtain⟨p,hp,rfl⟩:=F8.1 hb;exact aI (od.hd.1 p hp)
theorem lts(od:Od h l ks vs t):l.o<h.length/\l.m<h.length/\(0<ks.length->l.b<h.length)/\∀ e∈l.es,e<h.length :=
 ⟨od.lt (by simp[idx]),od.lt (by simp[idx]),λhk=>od.lt (by
  have:¬ks.length=0:=AS
  simp[idx,this]),λe he=>od.lt (by simp[idx,he])⟩
theorem nes(od:Od h l ks vs t):l.o≠l.m/\(0<ks.length->l.o≠l.b/\l.m≠l.b/\l.b∉l.es)/\l.o∉l.es/\l.m∉l.es/\l.es.Nodup:=by
 have:=od.nd;unfold idx at this
 grind
theorem found(od:Od h l ks vs t)(hx:bR ks x=some i):∃ e v,l.es[i]?=some e/\vs[i]?=some v/\aV true (.str x) (ent ks l.es)=some (some (.pt e 0))/\aH h e=some (.cells true v):=by
 have h1:=dG hx;have h2:i<ks.length:=(B6.1 h1).1;have h3:=pR (x:=x) od.ek.symm;rw[hx]at h3;have k1:=B7 (l:=l.es) (i:=i) (by rw[od.ek];exact h2);have k2:=B7 (l:=vs) (i:=i) (by rw[od.vk];exact h2);rw[D9,k1]at h3;exact⟨_,_,k1,k2,h3,od.he k1 k2⟩
theorem miss(od:Od h l ks vs t)(hx:bR ks x=none):aV true (.str x) (ent ks l.es)=some none:=by
 have h3:=pR (x:=x) od.ek.symm
 grind
theorem fr(od:Od h l ks vs t){J:List Nat}(f:Fr J h h')(hd:∀ b,b∈idx l ks.length->b∉J):Od h' l ks vs t:=by
 refine⟨⟨λp hp=>?_,od.hd.2⟩,od.ek,od.vk⟩;have h1:=od.hd.1 p hp;have h2:p.1∈idx l ks.length:=by
  rw[<-sQ (ks:=ks) (t:=t) (od.ek.trans od.vk.symm)];grind
 rw[f.keep p.1 (aI h1) (hd _ h2)];exact h1
theorem upd(od:Od h l ks vs t){e:Nat}{v:List AV}{g:Bool}(he:l.es[i]?=some e):Od (h.set e (some (.blk g (.cells true v)))) l ks (vs.set i v) t/\Fr [e] h (h.set e (some (.blk g (.cells true v)))):=by
 have hi:i<l.es.length:=(B6.1 he).1;have hm:e∈l.es:=B3 he;obtain⟨n1,n2,n3,n4,n5⟩:=od.nes;obtain⟨t1,t2,t3,t4⟩:=od.lts;have el:=t4 e hm;refine⟨⟨⟨λp hp=>?_,?_⟩,od.ek,by rw[G6];exact od.vk⟩,⟨λb _ hb=>by rw[cR,if_neg (by grind)],by simp⟩⟩
 .unfold aAg at hp
  rw[C4,C4,C8]at hp;have keep:∀ p,p∈aAg l ks vs t->p.1≠e->aH (h.set e (some (.blk g (.cells true v)))) p.1=some p.2:=λp hp hne=>by
   rw[cR,if_neg hne];exact od.hd.1 p hp
  rcases hp with rfl|rfl|hp|hp;·exact keep _ (by simp[aAg]) λq=>n3 (by grind)
  .exact keep _ (by simp[aAg]) λq=>n4 (by grind)
  .have hz:0<ks.length:=Nat.pos_of_ne_zero λq=>by simp[sBk,q]at hp
   have hb:p=(l.b,.cells true (ks.map .str)):=by
    have hz2:¬ks.length=0:=AS
    simpa [sBk,hz2]using hp
   subst hb;exact keep _ (by simp[aAg,hp]) λq=>(n2 hz).2.2 (by grind)
  .obtain⟨j,e2,v2,k1,k2,rfl⟩:=aKH hp
   by_cases hj:j=i
   .subst hj
    rw[he]at k1;cases k1;have hv:v2=v:=by
     grind
    subst hv;rw[cR,if_pos rfl,if_pos el]
   .rw[List.getElem?_set_ne (λq=>hj q.symm)]at k2
    refine keep _ (by unfold aAg;grind [aRe]) λq=>hj ?_
    grind [List.getElem?_inj]
 .have h1:=od.nd
  rw[sQ (by rw[G6];exact od.ek.trans od.vk.symm)];exact h1
end Od
end
section
open Go Go.DL
variable{h h':XH}{l:OL}{ks:List ByteArray}{vs:List (List AV)}{t:Int}{x:ByteArray}{i:Nat}{z:List AV}
theorem yQ{o m:Nat}{tv:AV}{es:List (AV×AV)}(ho:o<h.length)(hm:m<h.length)(om:o≠m)(j:Nat):aH (vW h o m tv x es z) j =
 if j=m then some (.map true (es++[(.str x,.pt (h.length+2) 0)])) else if j=o then some (.cells true [.sl (h.length+1) 0 1 1,.mp m,tv]) else if j<h.length then aH h j else
 if j=h.length then some (.cells true [.str x]) else if j=h.length+1 then some (.cells true [.str x]) else if j=h.length+2 then some (.cells true z) else none:=by
 unfold vW;rw[fZ,cR,cR];simp only[G6];by_cases jm:j=m;·grind
 .by_cases jo:j=o
  .grind
  .by_cases jl:j<h.length
   .grind
   .simp only[jm,jo,jl,AAd]
    by_cases j0:j=h.length;·subst j0;simp[aH,hat]
    .by_cases j1:j=h.length+1
     .subst j1;simp[aH,hat]
     .by_cases j2:j=h.length+2
      .subst j2;simp[aH,hat]
      .simp only[j0,j1,j2,AAd]
       unfold aH hat
       grind
theorem yR{o m b:Nat}{tv:AV}{cs:List AV}{g3:Bool}{es:List (AV×AV)}(ho:o<h.length)(hm:m<h.length)(om:o≠m)(j:Nat)(jb:j≠b):aH (vX h o m b tv x cs g3 es z) j =
 if j=m then some (.map true (es++[(.str x,.pt (h.length+2) 0)])) else if j=o then some (.cells true [.sl (h.length+1) 0 1 (cs.length+1),.mp m,tv]) else if j<h.length then aH h j else
 if j=h.length then some (.cells true [.str x]) else if j=h.length+1 then some (.cells true (cs++[.str x])) else if j=h.length+2 then some (.cells true z) else none:=by
 unfold vX;rw[fZ,cR,cR,aGb jb];simp only[G6];by_cases jm:j=m;·grind
 .by_cases jo:j=o
  .grind
  .by_cases jl:j<h.length
   .grind
   .simp only[jm,jo,jl,AAd]
    by_cases j0:j=h.length;·subst j0;simp[aH,hat]
    .by_cases j1:j=h.length+1
     .subst j1;simp[aH,hat]
     .by_cases j2:j=h.length+2
      .subst j2;simp[aH,hat]
      .simp only[j0,j1,j2,AAd]
       unfold aH hat
       grind
theorem Od.putG(od:Od h l ks vs t)(hl:h'.length=h.length+3)
 (hp:∀ j,(0<ks.length->j≠l.b)->aH h' j=if j=l.m then some (.map true (ent ks l.es++[(.str x,.pt (h.length+2) 0)])) else if j=l.o then some (.cells true [.sl (h.length+1) 0 1 (ks.length+1),.mp l.m,I t]) else if j<h.length then aH h j else
 if j=h.length then some (.cells true [.str x]) else if j=h.length+1 then some (.cells true (ks.map .str++[.str x])) else if j=h.length+2 then some (.cells true z) else none) :
 Od h' ⟨l.o,l.m,h.length+1,l.es++[h.length+2]⟩ (ks++[x]) (vs++[z]) t/\Fr (idx l ks.length) h h':=by
 obtain⟨n1,n2,n3,n4,n5⟩:=od.nes;obtain⟨t1,t2,t3,t4⟩:=od.lts;have ev:=od.ek.trans od.vk.symm;refine⟨⟨⟨λp hp'=>?_,?_⟩,by simp[od.ek],by simp[od.vk]⟩,⟨λb hb hn=>?_,by omega⟩⟩
 .unfold aAg at hp'
  rw[aUs ev,xQ od.ek.symm]at hp';rw[C4,C4,C8,C8]at hp';rcases hp' with rfl|rfl|hp'|hp'|hp'
  .have:iX (h.length+1) (ks++[x]).length = .sl (h.length+1) 0 1 (ks.length+1):=by simp[iX]
   grind
  .grind
  .have hb:p=(h.length+1,.cells true (ks.map .str++[.str x])):=by simpa [sBk]using hp'
   grind
  .obtain⟨j,e2,v2,k1,k2,rfl⟩:=aKH hp'
   have me:=B3 k1;have le:=t4 _ me;rw[hp e2 (λhk q=>(n2 hk).2.2 (by grind)),if_neg (λq:e2=l.m=>n4 (by grind)),if_neg (λq:e2=l.o=>n3 (by grind)),if_pos le];exact od.he k1 k2
  grind
 .rw[sQ (by simp[ev])]
  unfold idx;simp only[E6,aA1,Nat.add_eq_zero_iff,Nat.succ_ne_self,and_false,AAd,J9,aE7,C8,D2,C4,not_or,H6,AAp,AAi,aA6,and_true]
  grind
 .have hb1:b≠l.o/\b≠l.m/\(0<ks.length->b≠l.b):=by
   unfold idx at hn
   grind
  grind
theorem sU:∀{ks:List ByteArray},bR ks x=none->bR (ks++[x]) x=some ks.length
 | [],_=>by simp[bR]
 | k::r,h=>by
   unfold bR at h;split at h;·cases h
   .rename_i hk
    rw[O8]at h;show (if k=x then some 0 else (bR (r++[x]) x).map (· + 1))=_;rw[if_neg hk,sU h];rfl
theorem aKp{α:Type}{l:List α}(h:¬0<l.length):l=[]:=by grind
theorem tru{p:Prop}(h:p):p=True:=AAn h
theorem zS{p:Prop}(h:¬p):p=False:=AAo h
theorem Od.getf(od:Od h l ks vs t)(hx:bR ks x=some i):∃ e v,l.es[i]?=some e/\vs[i]?=some v/\aH h e=some (.cells true v)/\runW aB 72 [.pt l.o 0,.str x] h=some (.pt e 0,h):=by
 obtain⟨g1,ho⟩:=od.ho;obtain⟨g2,hm⟩:=od.hm;obtain⟨e,v,k1,k2,k3,k4⟩:=od.found hx
 grind [w95]
theorem Od.nonef(od:Od h l ks vs t)(hx:bR ks x=none):CalP Tryz.prog aB 72 [.pt l.o 0,.str x] h (.ifc 48 (.agg [I 5])) h:=by
 obtain⟨g1,ho⟩:=od.ho;obtain⟨g2,hm⟩:=od.hm;exact c95 ho hm (od.miss hx)
theorem Od.fullf(od:Od h l ks vs t)(ht:0<t):runW aB 64 [.pt l.o 0,.str x] h=some (.bool (decide (bR ks x=none)&&decide ((ks.length:Int)=t)),h):=by
 obtain⟨g1,ho⟩:=od.ho;obtain⟨g2,hm⟩:=od.hm;cases hx:bR ks x with
 | some i =>
   obtain⟨e,v,k1,k2,k3,k4⟩:=od.found hx;rw[bBO ho hm k3];rfl
 | none =>
   by_cases hk:0<ks.length
   .have hv:iX l.b ks.length = .sl l.b 0 1 ks.length:=by unfold iX;grind
    rw[hv]at ho;by_cases hw:(ks.length:Int)=t;·rw[aYw (w:=true) ho hm (od.miss hx) (by simp[hw])];simp[hw]
    .rw[aYw (w:=false) ho hm (od.miss hx) (by simp[hw])];simp[hw]
   .have h0:ks=[]:=aKp hk
    have hz:((0:Int)=t)=False:=AAb;subst h0;rw[bBN (t:=t) (by simpa [iX]using ho) hm (od.miss hx) hz]
    simp_all
theorem Od.newf(od:Od h l ks vs t)(hx:bR ks x=none)(hk:ks.length<=1000):∃ h',runW aB 66 [.pt l.o 0,.str x] h=some (.tup [.pt (h.length+2) 0,.bool true],h')/\h'.length=h.length+3/\Od h' ⟨l.o,l.m,h.length+1,l.es++[h.length+2]⟩ (ks++[x]) (vs++[[I 0]]) t/\Fr (idx l ks.length) h h':=by
 obtain⟨n1,n2,n3,n4,n5⟩:=od.nes;obtain⟨t1,t2,t3,t4⟩:=od.lts;obtain⟨g1,ho⟩:=od.ho;obtain⟨g2,hm⟩:=od.hm;have hf:=od.miss hx;have hp:=aAV (v:=.pt (h.length+2) 0) od.ek.symm hx;have hf2:aV true (.str x) (ent ks l.es++[(.str x,.pt (h.length+2) 0)])=some (some (.pt (h.length+2) 0)):=by
  rw[<-xQ od.ek.symm,pR (by simp[od.ek])];rw[sU hx];simp[<-od.ek]
 by_cases k0:0<ks.length
 .have hv:iX l.b ks.length = .sl l.b 0 1 ks.length:=by unfold iX;grind
  rw[hv]at ho;obtain⟨g3,hb⟩:=od.hb k0;obtain⟨n6,n7,n8⟩:=n2 k0;have t5:=t3 k0;refine⟨_,bBM rfl (tru t1) (tru t2) (tru t5) (zS n1) (zS (Ne.symm n1)) (zS n6) (zS (Ne.symm n6)) (zS (Ne.symm n7)) (zS n7) ho hb (by simp) (tru AS) (tru AS) hm hf hp hf2,by simp[vX],?_⟩;exact Od.putG od (by simp[vX]) λj hj=>by
   grind [yR]
 .have h0:ks=[]:=aKp k0
  subst h0;refine⟨_,bBL rfl (tru t1) (tru t2) (zS n1) (zS (Ne.symm n1)) (by simpa [iX]using ho) hm hf hp hf2,by simp[vW],?_⟩;exact Od.putG od (by simp[vW]) λj hj=>by
   grind [yQ]
theorem Od.getm(od:Od h l ks vs t)(hx:bR ks x=some i):∃ e v,l.es[i]?=some e/\vs[i]?=some v/\aH h e=some (.cells true v)/\runW aB 73 [.pt l.o 0,.str x] h=some (.pt e 0,h):=by
 obtain⟨g1,ho⟩:=od.ho;obtain⟨g2,hm⟩:=od.hm;obtain⟨e,v,k1,k2,k3,k4⟩:=od.found hx
 grind [w96]
theorem Od.nonem(od:Od h l ks vs t)(hx:bR ks x=none):CalP Tryz.prog aB 73 [.pt l.o 0,.str x] h (.ifc 48 (.agg [I 5])) h:=by
 obtain⟨g1,ho⟩:=od.ho;obtain⟨g2,hm⟩:=od.hm;exact c96 ho hm (od.miss hx)
theorem Od.fullm(od:Od h l ks vs t)(ht:0<t):runW aB 111 [.pt l.o 0,.str x] h=some (.bool (decide (bR ks x=none)&&decide ((ks.length:Int)=t)),h):=by
 obtain⟨g1,ho⟩:=od.ho;obtain⟨g2,hm⟩:=od.hm;cases hx:bR ks x with
 | some i =>
   obtain⟨e,v,k1,k2,k3,k4⟩:=od.found hx;rw[aYL ho hm k3];rfl
 | none =>
   by_cases hk:0<ks.length
   .have hv:iX l.b ks.length = .sl l.b 0 1 ks.length:=by unfold iX;grind
    rw[hv]at ho;by_cases hw:(ks.length:Int)=t;·rw[aVt (w:=true) ho hm (od.miss hx) (by simp[hw])];simp[hw]
    .rw[aVt (w:=false) ho hm (od.miss hx) (by simp[hw])];simp[hw]
   .have h0:ks=[]:=aKp hk
    have hz:((0:Int)=t)=False:=AAb;subst h0;rw[aYK (t:=t) (by simpa [iX]using ho) hm (od.miss hx) hz]
    simp_all
theorem Od.oldm(od:Od h l ks vs t)(hx:bR ks x=some i):∃ e v,l.es[i]?=some e/\vs[i]?=some v/\aH h e=some (.cells true v)/\runW aB 113 [.pt l.o 0,.str x] h=some (.tup [.pt e 0,.bool false],h):=by
 obtain⟨g1,ho⟩:=od.ho;obtain⟨g2,hm⟩:=od.hm;obtain⟨e,v,k1,k2,k3,k4⟩:=od.found hx
 grind [aYJ]
theorem Od.newm(od:Od h l ks vs t)(hx:bR ks x=none)(hk:ks.length<=1000):∃ h',runW aB 113 [.pt l.o 0,.str x] h=some (.tup [.pt (h.length+2) 0,.bool true],h')/\h'.length=h.length+3/\Od h' ⟨l.o,l.m,h.length+1,l.es++[h.length+2]⟩ (ks++[x]) (vs++[[I 0,I 0]]) t/\Fr (idx l ks.length) h h':=by
 obtain⟨n1,n2,n3,n4,n5⟩:=od.nes;obtain⟨t1,t2,t3,t4⟩:=od.lts;obtain⟨g1,ho⟩:=od.ho;obtain⟨g2,hm⟩:=od.hm;have hf:=od.miss hx;have hp:=aAV (v:=.pt (h.length+2) 0) od.ek.symm hx;have hf2:aV true (.str x) (ent ks l.es++[(.str x,.pt (h.length+2) 0)])=some (some (.pt (h.length+2) 0)):=by
  rw[<-xQ od.ek.symm,pR (by simp[od.ek])];rw[sU hx];simp[<-od.ek]
 by_cases k0:0<ks.length
 .have hv:iX l.b ks.length = .sl l.b 0 1 ks.length:=by unfold iX;grind
  rw[hv]at ho;obtain⟨g3,hb⟩:=od.hb k0;obtain⟨n6,n7,n8⟩:=n2 k0;have t5:=t3 k0;refine⟨_,aYI rfl (tru t1) (tru t2) (tru t5) (zS n1) (zS (Ne.symm n1)) (zS n6) (zS (Ne.symm n6)) (zS (Ne.symm n7)) (zS n7) ho hb (by simp) (tru AS) (tru AS) hm hf hp hf2,by simp[vX],?_⟩;exact Od.putG od (by simp[vX]) λj hj=>by
   grind [yR]
 .have h0:ks=[]:=aKp k0
  subst h0;refine⟨_,aYH rfl (tru t1) (tru t2) (zS n1) (zS (Ne.symm n1)) (by simpa [iX]using ho) hm hf hp hf2,by simp[vW],?_⟩;exact Od.putG od (by simp[vW]) λj hj=>by
   grind [yQ]
theorem Od.getp(od:Od h l ks vs t)(hx:bR ks x=some i):∃ e v,l.es[i]?=some e/\vs[i]?=some v/\aH h e=some (.cells true v)/\runW aB 74 [.pt l.o 0,.str x] h=some (.pt e 0,h):=by
 obtain⟨g1,ho⟩:=od.ho;obtain⟨g2,hm⟩:=od.hm;obtain⟨e,v,k1,k2,k3,k4⟩:=od.found hx
 grind [w97]
theorem Od.nonep(od:Od h l ks vs t)(hx:bR ks x=none):CalP Tryz.prog aB 74 [.pt l.o 0,.str x] h (.ifc 48 (.agg [I 5])) h:=by
 obtain⟨g1,ho⟩:=od.ho;obtain⟨g2,hm⟩:=od.hm;exact c97 ho hm (od.miss hx)
theorem Od.fullp(od:Od h l ks vs t)(ht:0<t):runW aB 114 [.pt l.o 0,.str x] h=some (.bool (decide (bR ks x=none)&&decide ((ks.length:Int)=t)),h):=by
 obtain⟨g1,ho⟩:=od.ho;obtain⟨g2,hm⟩:=od.hm;cases hx:bR ks x with
 | some i =>
   obtain⟨e,v,k1,k2,k3,k4⟩:=od.found hx;rw[aYG ho hm k3];rfl
 | none =>
   by_cases hk:0<ks.length
   .have hv:iX l.b ks.length = .sl l.b 0 1 ks.length:=by unfold iX;grind
    rw[hv]at ho;by_cases hw:(ks.length:Int)=t;·rw[aVs (w:=true) ho hm (od.miss hx) (by simp[hw])];simp[hw]
    .rw[aVs (w:=false) ho hm (od.miss hx) (by simp[hw])];simp[hw]
   .have h0:ks=[]:=aKp hk
    have hz:((0:Int)=t)=False:=AAb;subst h0;rw[aYF (t:=t) (by simpa [iX]using ho) hm (od.miss hx) hz]
    simp_all
theorem Od.oldp(od:Od h l ks vs t)(hx:bR ks x=some i):∃ e v,l.es[i]?=some e/\vs[i]?=some v/\aH h e=some (.cells true v)/\runW aB 116 [.pt l.o 0,.str x] h=some (.tup [.pt e 0,.bool false],h):=by
 obtain⟨g1,ho⟩:=od.ho;obtain⟨g2,hm⟩:=od.hm;obtain⟨e,v,k1,k2,k3,k4⟩:=od.found hx
 grind [aYE]
theorem Od.newp(od:Od h l ks vs t)(hx:bR ks x=none)(hk:ks.length<=1000):∃ h',runW aB 116 [.pt l.o 0,.str x] h=some (.tup [.pt (h.length+2) 0,.bool true],h')/\h'.length=h.length+3/\Od h' ⟨l.o,l.m,h.length+1,l.es++[h.length+2]⟩ (ks++[x]) (vs++[[I 0]]) t/\Fr (idx l ks.length) h h':=by
 obtain⟨n1,n2,n3,n4,n5⟩:=od.nes;obtain⟨t1,t2,t3,t4⟩:=od.lts;obtain⟨g1,ho⟩:=od.ho;obtain⟨g2,hm⟩:=od.hm;have hf:=od.miss hx;have hp:=aAV (v:=.pt (h.length+2) 0) od.ek.symm hx;have hf2:aV true (.str x) (ent ks l.es++[(.str x,.pt (h.length+2) 0)])=some (some (.pt (h.length+2) 0)):=by
  rw[<-xQ od.ek.symm,pR (by simp[od.ek])];rw[sU hx];simp[<-od.ek]
 by_cases k0:0<ks.length
 .have hv:iX l.b ks.length = .sl l.b 0 1 ks.length:=by unfold iX;grind
  rw[hv]at ho;obtain⟨g3,hb⟩:=od.hb k0;obtain⟨n6,n7,n8⟩:=n2 k0;have t5:=t3 k0;refine⟨_,aYD rfl (tru t1) (tru t2) (tru t5) (zS n1) (zS (Ne.symm n1)) (zS n6) (zS (Ne.symm n6)) (zS (Ne.symm n7)) (zS n7) ho hb (by simp) (tru AS) (tru AS) hm hf hp hf2,by simp[vX],?_⟩;exact Od.putG od (by simp[vX]) λj hj=>by
   grind [yR]
 .have h0:ks=[]:=aKp k0
  subst h0;refine⟨_,aYC rfl (tru t1) (tru t2) (zS n1) (zS (Ne.symm n1)) (by simpa [iX]using ho) hm hf hp hf2,by simp[vW],?_⟩;exact Od.putG od (by simp[vW]) λj hj=>by
   grind [yQ]
theorem Od.oldw(od:Od h l ks vs t)(hx:bR ks x=some i):∃ e v,l.es[i]?=some e/\vs[i]?=some v/\aH h e=some (.cells true v)/\runW aB 109 [.pt l.o 0,.str x] h=some (.tup [.pt e 0,.bool false],h):=by
 obtain⟨g1,ho⟩:=od.ho;obtain⟨g2,hm⟩:=od.hm;obtain⟨e,v,k1,k2,k3,k4⟩:=od.found hx
 grind [aYO]
theorem Od.neww(od:Od h l ks vs t)(hx:bR ks x=none)(hk:ks.length<=1000):∃ h',runW aB 109 [.pt l.o 0,.str x] h=some (.tup [.pt (h.length+2) 0,.bool true],h')/\h'.length=h.length+3/\Od h' ⟨l.o,l.m,h.length+1,l.es++[h.length+2]⟩ (ks++[x]) (vs++[[I 0]]) t/\Fr (idx l ks.length) h h':=by
 obtain⟨n1,n2,n3,n4,n5⟩:=od.nes;obtain⟨t1,t2,t3,t4⟩:=od.lts;obtain⟨g1,ho⟩:=od.ho;obtain⟨g2,hm⟩:=od.hm;have hf:=od.miss hx;have hp:=aAV (v:=.pt (h.length+2) 0) od.ek.symm hx;have hf2:aV true (.str x) (ent ks l.es++[(.str x,.pt (h.length+2) 0)])=some (some (.pt (h.length+2) 0)):=by
  rw[<-xQ od.ek.symm,pR (by simp[od.ek])];rw[sU hx];simp[<-od.ek]
 by_cases k0:0<ks.length
 .have hv:iX l.b ks.length = .sl l.b 0 1 ks.length:=by unfold iX;grind
  rw[hv]at ho;obtain⟨g3,hb⟩:=od.hb k0;obtain⟨n6,n7,n8⟩:=n2 k0;have t5:=t3 k0;refine⟨_,aYN rfl (tru t1) (tru t2) (tru t5) (zS n1) (zS (Ne.symm n1)) (zS n6) (zS (Ne.symm n6)) (zS (Ne.symm n7)) (zS n7) ho hb (by simp) (tru AS) (tru AS) hm hf hp hf2,by simp[vX],?_⟩;exact Od.putG od (by simp[vX]) λj hj=>by
   grind [yR]
 .have h0:ks=[]:=aKp k0
  subst h0;refine⟨_,aYM rfl (tru t1) (tru t2) (zS n1) (zS (Ne.symm n1)) (by simpa [iX]using ho) hm hf hp hf2,by simp[vW],?_⟩;exact Od.putG od (by simp[vW]) λj hj=>by
   grind [yQ]
structure CL where
 c:Nat
 tb:Nat
 kb:Nat
 te:List Nat
 f:OL
 m:OL
 p:OL
 w:OL
def tkC(k:zH):List AV:=[.str k.wagon,.str k.farmer,I k.net,.bool k.void,.bool false]
def cL(L:CL)(s:CSt):List AV:=[.pt L.f.o 0,.pt L.m.o 0,.pt L.p.o 0,.pt L.w.o 0,iX L.tb s.tickets.length,I s.closed,iX L.kb s.book.length]
def pL(b n:Nat):List Nat:=if n=0 then [] else [b]
def px(L:CL)(s:CSt):Nat->List Nat
 | 0=>[L.c]
 | 1=>pL L.tb s.tickets.length++L.te
 | 2=>pL L.kb s.book.length
 | 3=>idx L.f s.farmers.length
 | 4=>idx L.m s.meters.length
 | 5=>idx L.p s.pans.length
 | 6=>idx L.w s.wagons.length
 | _=>[]
structure Tk(h:XH)(tb:Nat)(te:List Nat)(ks:List zH):Prop where
 el:te.length=ks.length
 hb:0<ks.length->aH h tb=some (.cells true (te.map λe=>.pt e 0))
 he:∀(i e:Nat)(k:zH),te[i]?=some e->ks[i]?=some k->aH h e=some (.cells true (tkC k))
 nd:te.Nodup
 nb:0<ks.length->tb∉te
structure Lays(h:XH)(L:CL)(s:CSt):Prop where
 hc:aH h L.c=some (.cells true (cL L s))
 tk:Tk h L.tb L.te s.tickets
 bk:0<s.book.length->aH h L.kb=some (.cells true (s.book.map .str))
 f:Od h L.f (s.farmers.map (·.1)) (s.farmers.map λp=>[I p.2]) 9
 m:Od h L.m (s.meters.map (·.1)) (s.meters.map λp=>[I p.2.1,I p.2.2]) 5
 p:Od h L.p (s.pans.map (·.1)) (s.pans.map λp=>[I p.2]) 5
 w:Od h L.w (s.wagons.map (·.1)) (s.wagons.map λp=>[I p.2]) 300
 dj:∀ i j b,b∈px L s i->b∈px L s j->i=j
variable{h h':XH}{L:CL}{s:CSt}
theorem cG{b n x:Nat}:x∈pL b n↔0<n/\x=b:=by
 grind [pL]
theorem aBs{P P':Nat->List Nat}(J:Nat->Prop)[DecidablePred J]{n:Nat}(dj:∀ i j b,b∈P i->b∈P j->i=j)(lt:∀ j b,b∈P j->b<n)(same:∀ j,¬J j->P' j=P j)(sub:∀ j b,J j->b∈P' j->b∈P j\/n<=b)(own:∀ i j b,J i->J j->b∈P' i->b∈P' j->n<=b->i=j):∀ i j b,b∈P' i->b∈P' j->i=j:=by
 intro i j b hi hj;by_cases ii:J i;all_goals grind
namespace Tk
variable{tb:Nat}{te:List Nat}{ks:List zH}
theorem lts(t:Tk h tb te ks):(0<ks.length->tb<h.length)/\∀ e∈te,e<h.length:=by
 refine⟨λhk=>aI (t.hb hk),λe he=>?_⟩;obtain⟨i,hi⟩:=G9 he;have h2:i<ks.length:=by rw[<-t.el];grind
 exact aI (t.he i e _ hi (B7 h2))
theorem lt(t:Tk h tb te ks){b:Nat}(hb:b∈pL tb ks.length++te):b<h.length:=by
 rw[C8,cG]at hb;rcases hb with ⟨hk,rfl⟩|hb;·exact t.lts.1 hk
 .exact t.lts.2 b hb
theorem fr(t:Tk h tb te ks){J:List Nat}(f:Fr J h h')(hd:∀ b,b∈pL tb ks.length++te->b∉J):Tk h' tb te ks:=by
 refine⟨t.el,λhk=>?_,λi e k hi hk=>?_,t.nd,t.nb⟩;·rw[f.keep tb (t.lts.1 hk) (hd tb (by grind [cG]))];exact t.hb hk
 .have he:=B3 hi
  rw[f.keep e (t.lts.2 e he) (hd e (N5 _ he))];exact t.he i e k hi hk
end Tk
namespace Lays
theorem lt(ly:Lays h L s):∀ j b,b∈px L s j->b<h.length:=by
 intro j b hb;unfold px at hb;split at hb;·rw[D2]at hb;subst hb;exact aI ly.hc
 .exact ly.tk.lt hb
 .rw[cG]at hb;obtain⟨hk,rfl⟩:=hb;exact aI (ly.bk hk)
 .exact ly.f.lt (by grind)
 .exact ly.m.lt (by grind)
 .exact ly.p.lt (by grind)
 .exact ly.w.lt (by grind)
 .cases hb
theorem live(ly:Lays h L s):∀ j b,b∈px L s j->∃ x,aH h b=some x:=by
 have od:∀{l:OL}{ks:List ByteArray}{vs:List (List AV)}{t:Int}{b:Nat},Od h l ks vs t->b∈idx l ks.length->∃ x,aH h b=some x:=λ{l ks vs t b} od hb=>by
  rw[<-sQ (ks:=ks) (t:=t) (od.ek.trans od.vk.symm)]at hb;obtain⟨p,hp,rfl⟩:=F8.1 hb;exact⟨_,od.hd.1 p hp⟩
 intro j b hb;unfold px at hb;split at hb;·rw[D2]at hb;subst hb;exact⟨_,ly.hc⟩
 .rw[C8,cG]at hb
  rcases hb with ⟨hk,rfl⟩|hb;·exact⟨_,ly.tk.hb hk⟩
  .obtain⟨i,hi⟩:=G9 hb
   have h2:i<s.tickets.length:=by rw[<-ly.tk.el];grind
   exact⟨_,ly.tk.he i b _ hi (B7 h2)⟩
 .rw[cG]at hb;obtain⟨hk,rfl⟩:=hb;exact⟨_,ly.bk hk⟩
 .exact od ly.f (by grind)
 .exact od ly.m (by grind)
 .exact od ly.p (by grind)
 .exact od ly.w (by grind)
 .cases hb
theorem off(ly:Lays h L s){i j:Nat}(hne:i≠j){b:Nat}(hi:b∈px L s i):b∉px L s j:=λhj=>hne (ly.dj i j b hi hj)
theorem fr(ly:Lays h L s){J:List Nat}(f:Fr J h h')(hd:∀ j b,b∈px L s j->b∉J):Lays h' L s where
 hc:=by rw[f.keep L.c (aI ly.hc) (hd 0 L.c (by simp[px]))];exact ly.hc
 tk:=ly.tk.fr f λb hb=>hd 1 b hb
 bk hk:=by rw[f.keep L.kb (aI (ly.bk hk)) (hd 2 L.kb (cG.2 ⟨hk,rfl⟩))];exact ly.bk hk
 f:=ly.f.fr f λb hb=>hd 3 b (by rw[B8]at hb;exact hb)
 m:=ly.m.fr f λb hb=>hd 4 b (by rw[B8]at hb;exact hb)
 p:=ly.p.fr f λb hb=>hd 5 b (by rw[B8]at hb;exact hb)
 w:=ly.w.fr f λb hb=>hd 6 b (by rw[B8]at hb;exact hb)
 dj:=ly.dj
theorem ext(ly:Lays h L s)(k:XH):Lays (h++k) L s:=ly.fr (Fr.app h k) λ_ _ _ hb=>by cases hb
theorem setf(ly:Lays h L s){l':OL}{xs:List (ByteArray×Int)}(od:Od h' l' (xs.map (·.1)) (xs.map λp=>[I p.2]) 9)(fr:Fr (idx L.f s.farmers.length) h h')(sub:∀ b,b∈idx l' xs.length->b∈idx L.f s.farmers.length\/h.length<=b)(ho:l'.o=L.f.o):Lays h' { L with f:=l' } { s with farmers:=xs } where
 hc:=by rw[fr.keep L.c (aI ly.hc) (ly.off (i:=0) (j:=3) (by decide) (by simp[px]))];rw[ly.hc];unfold cL;grind
 tk:=ly.tk.fr fr λb hb=>ly.off (i:=1) (j:=3) (by decide) hb
 bk hk:=by rw[fr.keep L.kb (aI (ly.bk hk)) (ly.off (i:=2) (j:=3) (by decide) (cG.2 ⟨hk,rfl⟩))];exact ly.bk hk
 f:=od
 m:=ly.m.fr fr λb hb=>by rw[B8]at hb;exact ly.off (i:=4) (j:=3) (by decide) hb
 p:=ly.p.fr fr λb hb=>by rw[B8]at hb;exact ly.off (i:=5) (j:=3) (by decide) hb
 w:=ly.w.fr fr λb hb=>by rw[B8]at hb;exact ly.off (i:=6) (j:=3) (by decide) hb
 dj:=aBs (· = 3) ly.dj ly.lt (λj hj=>by
  unfold px
  grind) (λj b hj hb=>by subst hj;exact sub b hb) (λi j b hi hj _ _ _=>hi.trans hj.symm)
theorem setm(ly:Lays h L s){l':OL}{xs:List (ByteArray×Int×Int)}(od:Od h' l' (xs.map (·.1)) (xs.map λp=>[I p.2.1,I p.2.2]) 5)(fr:Fr (idx L.m s.meters.length) h h')(sub:∀ b,b∈idx l' xs.length->b∈idx L.m s.meters.length\/h.length<=b)(ho:l'.o=L.m.o):Lays h' { L with m:=l' } { s with meters:=xs } where
 hc:=by rw[fr.keep L.c (aI ly.hc) (ly.off (i:=0) (j:=4) (by decide) (by simp[px]))];rw[ly.hc];unfold cL;grind
 tk:=ly.tk.fr fr λb hb=>ly.off (i:=1) (j:=4) (by decide) hb
 bk hk:=by rw[fr.keep L.kb (aI (ly.bk hk)) (ly.off (i:=2) (j:=4) (by decide) (cG.2 ⟨hk,rfl⟩))];exact ly.bk hk
 f:=ly.f.fr fr λb hb=>by rw[B8]at hb;exact ly.off (i:=3) (j:=4) (by decide) hb
 m:=od
 p:=ly.p.fr fr λb hb=>by rw[B8]at hb;exact ly.off (i:=5) (j:=4) (by decide) hb
 w:=ly.w.fr fr λb hb=>by rw[B8]at hb;exact ly.off (i:=6) (j:=4) (by decide) hb
 dj:=aBs (· = 4) ly.dj ly.lt (λj hj=>by
  unfold px
  grind) (λj b hj hb=>by subst hj;exact sub b hb) (λi j b hi hj _ _ _=>hi.trans hj.symm)
theorem setp(ly:Lays h L s){l':OL}{xs:List (ByteArray×Int)}(od:Od h' l' (xs.map (·.1)) (xs.map λp=>[I p.2]) 5)(fr:Fr (idx L.p s.pans.length) h h')(sub:∀ b,b∈idx l' xs.length->b∈idx L.p s.pans.length\/h.length<=b)(ho:l'.o=L.p.o):Lays h' { L with p:=l' } { s with pans:=xs } where
 hc:=by rw[fr.keep L.c (aI ly.hc) (ly.off (i:=0) (j:=5) (by decide) (by simp[px]))];rw[ly.hc];unfold cL;grind
 tk:=ly.tk.fr fr λb hb=>ly.off (i:=1) (j:=5) (by decide) hb
 bk hk:=by rw[fr.keep L.kb (aI (ly.bk hk)) (ly.off (i:=2) (j:=5) (by decide) (cG.2 ⟨hk,rfl⟩))];exact ly.bk hk
 f:=ly.f.fr fr λb hb=>by rw[B8]at hb;exact ly.off (i:=3) (j:=5) (by decide) hb
 m:=ly.m.fr fr λb hb=>by rw[B8]at hb;exact ly.off (i:=4) (j:=5) (by decide) hb
 p:=od
 w:=ly.w.fr fr λb hb=>by rw[B8]at hb;exact ly.off (i:=6) (j:=5) (by decide) hb
 dj:=aBs (· = 5) ly.dj ly.lt (λj hj=>by
  unfold px
  grind) (λj b hj hb=>by subst hj;exact sub b hb) (λi j b hi hj _ _ _=>hi.trans hj.symm)
theorem setw(ly:Lays h L s){l':OL}{xs:List (ByteArray×Int)}(od:Od h' l' (xs.map (·.1)) (xs.map λp=>[I p.2]) 300)(fr:Fr (idx L.w s.wagons.length) h h')(sub:∀ b,b∈idx l' xs.length->b∈idx L.w s.wagons.length\/h.length<=b)(ho:l'.o=L.w.o):Lays h' { L with w:=l' } { s with wagons:=xs } where
 hc:=by rw[fr.keep L.c (aI ly.hc) (ly.off (i:=0) (j:=6) (by decide) (by simp[px]))];rw[ly.hc];unfold cL;grind
 tk:=ly.tk.fr fr λb hb=>ly.off (i:=1) (j:=6) (by decide) hb
 bk hk:=by rw[fr.keep L.kb (aI (ly.bk hk)) (ly.off (i:=2) (j:=6) (by decide) (cG.2 ⟨hk,rfl⟩))];exact ly.bk hk
 f:=ly.f.fr fr λb hb=>by rw[B8]at hb;exact ly.off (i:=3) (j:=6) (by decide) hb
 m:=ly.m.fr fr λb hb=>by rw[B8]at hb;exact ly.off (i:=4) (j:=6) (by decide) hb
 p:=ly.p.fr fr λb hb=>by rw[B8]at hb;exact ly.off (i:=5) (j:=6) (by decide) hb
 w:=od
 dj:=aBs (· = 6) ly.dj ly.lt (λj hj=>by
  unfold px
  grind) (λj b hj hb=>by subst hj;exact sub b hb) (λi j b hi hj _ _ _=>hi.trans hj.symm)
end Lays
end
end Go.Proofs.YtfcdcgplogojbaaGreatDoor
