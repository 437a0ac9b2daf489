/- Parts of a proof, joined: GT SH Z1 Z2 Z3 Z5 Z6 Y0 Y1 Z4 Z7 PF F0 K1 K2 RTX K3 K4 K5 K6 K7 K8 K9 U1 K10 K11 K12 P1 P2 P3 P4 P5 P6 P7 K15 Q1 Q2 Q3 Q4 Q5. No statement of the seed is proved here. -/
import Derived.Shelf.Strings.Builder1
import Derived.Shelf.Strings.Builder2
import Derived.Shelf.Strings.OnBuilder
import Derived.Shelf.Strings.Trim
import Derived.Shelf.Small.Utf8
import Derived.Shelf.Small.Strs
import Derived.Shelf.Small.Wraps
import Derived.Shelf.Strings.BuilderF
import Derived.Shelf.Strings.BuilderK
import Derived.Shelf.Strconv.Atoi
import Derived.Shelf.Strconv.Itoa0
import Derived.Shelf.Strconv.Itoa1
import Derived.Shelf.LaysM
import Derived.Shelf.Strconv.Itoa2
import Derived.Shelf.Strconv.Itoa3
import Derived.Shelf.Strconv.AtoiErrFast
import Derived.Shelf.Strconv.ParseIntEmpty
import Derived.Shelf.Strconv.AtoiFail
import Derived.Shelf.Strconv.Clone
import Derived.Shelf.Strconv.SyntaxError
import Derived.Shelf.LaysC
import Derived.Shelf.Strconv.ToError
import Derived.Shelf.Strconv.Lower
import Derived.Shelf.Strconv.ParseUint10
import Derived.Shelf.Strconv.ParseUint10Empty
import Derived.Shelf.Strconv.ParseUint10Any
import Derived.Shelf.Strconv.ParseInt10
import Derived.Shelf.Strconv.AtoiLong
import Derived.Shelf.Strconv.AtoiInnerAll
import Derived.Shelf.Strconv.RangeError
import Derived.Shelf.Strconv.ToErrorRange
import Derived.Shelf.Strconv.AtoiAll
import Derived.Shelf.Strings.Search1
import Derived.Shelf.Strings.Search2
import Derived.Shelf.Strings.Search3
import Derived.Shelf.Strings.Count
import Derived.Shelf.Strings.Shaped
import Derived.Shelf.GgClosure.StringsIndexFunc
import Derived.Ground.GgwProg
import Derived.Shelf.GgClosure.StringsIndexFuncTop
import Derived.Shelf.GgClosure.StringsRunes
import Derived.Shelf.Strings.Prefix
import Derived.Shelf.Strings.Split
import Derived.Shelf.Strings.SplitShaped
import Derived.Shelf.Unicode.Decode
import Derived.Shelf.Strings.Runes
import Derived.Shelf.Strings.RuneCount
import Derived.Shelf.Strings.AsciiSet
import Derived.Shelf.Strings.Explode
import Derived.Shelf.Bits.Mul64
import Derived.Shelf.Strings.Repeat
import Derived.Shelf.Unicode.DecodeSlow
import Derived.Shelf.Unicode.DecodeAny
import Derived.Shelf.Unicode.DecodeLast
import Derived.Shelf.Strings.FuncGrows
import Derived.Shelf.Slices.Turned
import Derived.Test.YtjckchgdlbgolaaGreatDoorProg
import Derived.KernelRfl
import Derived.Lib.AtoiAllCases
import Derived.Test.YtjckchgdlbgolaaGreatDoorH6
set_option linter.unusedSimpArgs false
set_option linter.unusedVariables false
set_option linter.unusedSectionVars false
set_option maxRecDepth 100000
set_option maxHeartbeats 4000000
namespace Go.Proofs.YtjckchgdlbgolaaGreatDoor
open Go Go.DL Go.Proofs.Tryz

def zXF:XFn:={aYu with dfr:=some ([],0)}
theorem zBA:aK prog (205,zXF):=bQ (fun v w=>call205 v w) func205
def aZA:List (Nat×XFn):=[(4,x4),(5,x5),(7,x7),(8,x8),(9,x9),(10,sW),(12,x12),(13,x13),(14,x14),(15,x15),(16,x16),(17,x17),(18,x18),(19,x19),(20,x20),(21,x21),(24,x24),(25,x25),(26,x26),(27,nG),(28,wG),(29,x29),(30,x30),(31,x31),(32,x32),(33,x33),(34,x34),(36,x36),(38,x38),(39,x39),(40,x40),(41,x41),(42,x42),(43,x43),(44,x44),(45,x45),(46,x46),(47,x47),(48,x48),(51,x51),(52,x52),(54,x54),(55,x55),(56,x56),(57,x57),(58,x58),(59,x59),(60,x60),(61,x61),(62,x62),(63,x63),(64,x64),(65,x65),(66,x66),(68,x68),(69,x69),(70,x70),(71,x71),(73,x73),(74,x74),(76,x76),(77,x77),(78,x78),(79,x79),(80,x80),(81,x81),(82,x82),(83,x83),(84,x84),(85,x85),(86,x86),(87,x87),(88,x88),(89,x89),(90,x90),(91,x91),(96,x96),(97,x97),(98,x98),(99,x99),(100,aLA),(101,aHm),(102,aHl),(103,aLz),(104,aHk),(106,aRe),(107,aRd),(109,x109),(110,x110),(111,x111),(114,x114),(115,aRc),(116,aRb),(117,aYW),(118,aYV),(119,aYU),(120,aYT),(121,x121),(122,aYS),(123,oC),(138,x138),(142,aRa),(143,aYR),(144,aYQ),(145,x145),(159,aYP),(167,aYO),(168,aYN),(169,aYM),(170,aYL),(171,aYK),(172,aYJ),(186,aYI),(187,aYH),(188,aYG),(189,aYF),(190,aYE),(191,aYD),(192,aYC),(193,aYB),(194,aYA),(195,aYz),(196,aYy),(197,aYx),(198,aYw),(199,aYv),(205,zXF),(206,aYt),(207,aYs),(208,aYr),(209,aYq),(210,aYp),(211,aYo),(212,aYn),(213,aYm),(214,aYl),(215,aYk),(216,aYj),(217,aYi),(218,aYh),(219,aYg),(220,aYf),(221,aYe),(224,aYd),(225,aYc),(226,aYb),(227,aYa),(228,aXZ),(229,aXY),(230,aXX),(231,aXW),(232,aXV),(233,aXU),(234,aXT),(235,aXS),(236,aXR),(237,aXQ),(238,aXP),(239,aXO),(240,aXN),(241,aXM),(242,aXL),(258,aQZ),(264,aQY),(265,aQX),(266,aQW),(267,aQV)]
def aOS:Nat→Option XFn:=aIn aZA
theorem aBJ:∀ p∈aZA,aK prog p :=
 aM is4 (aM is5 (aM is7 (aM is8 (aM is9 (aM bHQ (aM bHP (aM bHO (aM bHN (aM bHM (aM bHL (aM bHK (aM bHJ (aM bHI (aM bHH (aM bHG (aM bHF (aM bHE (aM bHD (aM bHC (aM bHB (aM bHA (aM bHz (aM bHy (aM bHx (aM bHw (aM bHv (aM bHu (aM bHt (aM bHs (aM bHr (aM bHq (aM bHp (aM bHo (aM bHn (aM bHm (aM bHl (aM bHk (aM bHj (aM bHi (aM bHh (aM bHg (aM bHf (aM bHe (aM bHd (aM bHc (aM bHb (aM bHa (aM bGZ (aM bGY (aM bGX (aM bGW (aM bGV (aM bGU (aM bGT (aM bGS (aM bGR (aM bGQ (aM bGP (aM bGO (aM bGN (aM bGM (aM bGL (aM bGK (aM bGJ (aM bGI (aM bGH (aM bGG (aM bGF (aM bGE (aM bGD (aM bGC (aM bGB (aM bGA (aM bGz (aM bGy (aM bGx (aM bGw (aM bGv (aM bGu (aM bCD (aM bCC (aM bCB (aM bCA (aM bCz (aM bCy (aM bCx (aM bCw (aM bCv (aM bCu (aM bCt (aM bCs (aM bCr (aM bCq (aM bCp (aM bCo (aM bCn (aM bCm (aM bCl (aM bCk (aM bCj (aM bCi (aM bCh (aM bCg (aM bCf (aM bCe (aM bCd (aM bCc (aM bCb (aM bCa (aM bBZ (aM bBY (aM bBX (aM bBW (aM bBV (aM bBU (aM bBT (aM bBS (aM bBR (aM bBQ (aM bBP (aM bBO (aM bBN (aM bBM (aM bBL (aM bBK (aM zBA (aM bBI (aM bBH (aM bBG (aM bBF (aM bBE (aM bBD (aM bBC (aM bBB (aM bBA (aM bBz (aM bBy (aM bBx (aM bBw (aM bBv (aM bBu (aM bBt (aM bBs (aM bBr (aM bBq (aM bBp (aM bBo (aM bBn (aM bBm (aM bBl (aM bBk (aM bBj (aM bBi (aM bBh (aM bBg (aM bBf (aM bBe (aM bBd (aM bBc (aM bBb (aM bBa (aM bAZ (aM bAY (aM bAX (aM bAW (aM bAV (bIA)))))))))))))))))))))))))))))))))))))))))))))))))))))))))))))))))))))))))))))))))))))))))))))))))))))))))))))))))))))))))))))))))))))))))))))))))))))))))))))))))))))))
theorem aVK{k:Nat}{d:XFn}(h:aOS k=some d):d.prm=none:=(aBJ _ (qD h)).2.2.2
theorem progX_ok:XOk prog aOS:=⟨rfl,fun k d h _=>(aBJ _ (qD h)).1,fun k d f h hp=>(by rw[aVK h]at hp;cases hp),fun k d h=>(aBJ _ (qD h)).2.1,fun k d h=>(aBJ _ (qD h)).2.2.1⟩
end Go.Proofs.YtjckchgdlbgolaaGreatDoor
namespace Go.Proofs
open Go.Shelf
def Tryz.lays156_ren:Go.Shelf.Ren:=⟨fun|156=>67|165=>105|166=>32|169=>35|240=>75|241=>136|276=>113|277=>157|n=>n,fun|31=>80|9=>9|3=>3|4=>4|0=>0|20=>20|72=>104|76=>107|70=>102|37=>23|75=>106|127=>189|164=>219|5=>5|80=>39|n=>n,fun|n=>n⟩
theorem Tryz.lays156:Go.Proofs.Lays.n156 Tryz.prog Tryz.lays156_ren:=by constructor<;>(intros;kernel_rfl)
theorem Tryz.Builder_Extra_156:Builder.Extra Tryz.prog Tryz.lays156_ren:={
 sizeBuilder:=by kernel_rfl
 liesBuilder:=by kernel_rfl
 t5:=Tryz.underlying5
 a5:=Tryz.isAgg5
 z5:=Tryz.sizeOf5
 v5:=Tryz.zeroValue5
 infoByte:=by kernel_rfl
 cellsByte:=by kernel_rfl
 sizeByte:=by kernel_rfl
 neB5:=by decide }
open Go.RowKit in
theorem Tryz.strings_Join_none(a:Option Addr)(c:Nat)(sep:ByteArray)(w:World) :
 Calls Tryz.prog 67 #[.slice a 0 c,.string sep] w fun e w'=>e = .returned (.string ⟨#[]⟩)∧w'=w:=Any.strings_Join_none Tryz.lays156 Tryz.Builder_Extra_156 a c sep w
open Go.RowKit in
theorem Tryz.strings_Join(bk o c:Nat)(xs:List ByteArray)(sep:ByteArray)(w:World)(hcells:∀(j:Nat) x,xs[j]?=some x→w.cell? ⟨bk,o+j,none⟩=some (.string x))(hbk:bk<w.heap.size)(hN:xs.length≤140737488355328)(hcap:xs.length≤c)(hlen:(Lib.join (xs.map (·.data.toList)) sep.data.toList).length≤140737488355328) :
 Calls Tryz.prog 67 #[.slice (some ⟨bk,o,none⟩) xs.length c,.string sep] w fun e w'=>e = .returned (.string ⟨(Lib.join (xs.map (·.data.toList)) sep.data.toList).toArray⟩)∧Below w.heap.size w w':=Any.strings_Join Tryz.lays156 Tryz.Builder_Extra_156 bk o c xs sep w hcells hbk hN hcap hlen
def Tryz.lays162_ren:Go.Shelf.Ren:=⟨fun|162=>139|232=>160|227=>161|234=>162|236=>163|228=>181|271=>182|151=>183|120=>203|197=>151|152=>204|260=>173|137=>222|119=>223|224=>176|225=>175|217=>174|266=>200|n=>n,fun|9=>9|4=>4|3=>3|5=>5|117=>277|116=>276|0=>0|124=>280|21=>21|105=>263|46=>95|119=>336|139=>339|138=>338|n=>n,fun|3=>6|4=>7|n=>n⟩
theorem Tryz.lays162:Go.Proofs.Lays.n162 Tryz.prog Tryz.lays162_ren:=by constructor<;>(intros;kernel_rfl)
open Go.RowKit in
theorem Tryz.strings_TrimRight_one(s:ByteArray)(c:UInt8)(hc:c.toNat<128)(w:World)(hs:s.size≤9223372036854775807) :
 Calls Tryz.prog 139 #[.string s,.string ⟨#[c]⟩] w fun e w'=>e = .returned (.string ⟨(Lib.trimRightB s.data.toList c).toArray⟩)∧w'=w:=Any.strings_TrimRight_one Tryz.lays162 s c hc w hs
def Tryz.lays103_ren:Go.Shelf.Ren:=⟨fun|103=>72|210=>108|206=>137|n=>n,fun|9=>9|4=>4|24=>152|3=>3|n=>n,fun|n=>n⟩
theorem Tryz.lays103:Go.Proofs.Lays.n103 Tryz.prog Tryz.lays103_ren:=by constructor<;>(intros;kernel_rfl)
open Go.RowKit in
theorem Tryz.strings_CutPrefix(s p:ByteArray)(w:World) :
 Calls Tryz.prog 72 #[.string s,.string p] w fun e w'=>e = .returned (.tuple #[.string ⟨(Lib.trimPrefix s.data.toList p.data.toList).toArray⟩,.bool (Lib.hasPrefix s.data.toList p.data.toList)])∧w'=w:=Any.strings_CutPrefix Tryz.lays103 s p w
def Tryz.laysM171_ren:Go.Shelf.Ren:=⟨fun|171=>23|243=>49|246=>92|283=>124|284=>125|285=>126|286=>127|129=>147|317=>146|318=>148|319=>149|320=>85|337=>117|338=>118|n=>n,fun|3=>3|9=>9|2=>2|4=>4|171=>236|0=>0|53=>225|37=>23|5=>5|173=>238|212=>261|51=>223|20=>20|213=>262|46=>95|232=>253|233=>254|n=>n,fun|17=>2|18=>0|19=>1|n=>n⟩
theorem Tryz.laysM171:Go.Proofs.LaysM.n171 Tryz.prog Tryz.laysM171_ren:=by constructor<;>(intros;first|kernel_rfl|(constructor<;>(intros;first|kernel_rfl|(constructor<;>(intros;kernel_rfl)))))
open Go.RowKit Go.Sort Go.Lib in
theorem Tryz.strconv_Itoa (n:Int) (h0 : -9223372036854775808≤n) (h1:n≤9223372036854775807) (w:World) (htab:Lib.TabIs Tryz.prog w "internal/strconv.uint64pow10" .u64 Lib.pow10Tab) :
 Calls Tryz.prog 23 #[.int .i64 n] w fun e w'=>e = .returned (.string ⟨(Lib.itoa n).toArray⟩)∧∃ k os,w'=grow (w.drewN k) os:=Any.strconv_Itoa Tryz.laysM171 n h0 h1 w htab
def Tryz.laysC172_ren:Go.Shelf.Ren:=⟨fun|172=>53|244=>94|245=>95|247=>131|279=>132|280=>133|281=>134|282=>135|287=>154|316=>155|171=>23|205=>156|321=>178|322=>179|243=>49|246=>92|283=>124|284=>125|285=>126|286=>127|129=>147|317=>146|318=>148|319=>149|320=>85|337=>117|338=>118|n=>n,fun|9=>9|3=>3|75=>106|76=>107|4=>4|5=>5|167=>242|37=>23|0=>0|85=>243|2=>2|168=>245|53=>225|175=>266|46=>95|210=>269|127=>189|145=>307|143=>305|21=>21|171=>236|173=>238|212=>261|51=>223|20=>20|213=>262|232=>253|233=>254|80=>39|n=>n,fun|15=>3|16=>4|17=>2|18=>0|19=>1|n=>n⟩
theorem Tryz.laysC172:Go.Proofs.LaysC.n172 Tryz.prog Tryz.laysC172_ren:=by constructor<;>(intros;first|kernel_rfl|(constructor<;>(intros;first|kernel_rfl|(constructor<;>(intros;kernel_rfl)))))
open Go.RowKit in
theorem Tryz.strconv_Atoi_ok(s:ByteArray)(hmax:s.size≤9223372036854775806)(v:Int)(h:Lib.atoiAll s.data.toList = .ok v)(w:World) :
 Calls Tryz.prog 53 #[.string s] w fun e w'=>e = .returned (.tuple #[.int .i64 v,.nilIface])∧(w'=w∨∃ t,w'=Lib.bytesWorld w 5 t):=Any.strconv_Atoi_ok Tryz.laysC172 s hmax v h w
open Go.RowKit in
theorem Tryz.strconv_Atoi_syntax(s:ByteArray)(hlim:s.size≤281474976710656)(h:Lib.atoiAll s.data.toList=Lib.NumEnd.syntax)(ev:Value)(w:World)(hv:w.cell? ⟨3,0,none⟩=some ev)(hev:ev = .nilIface∨∃ te pe,ev = .iface te pe) :
 Calls Tryz.prog 53 #[.string s] w fun e w'=>∃ N,e = .returned (.tuple #[.int .i64 (0),.iface 245 (.pointer (some ⟨N,0,none⟩))])∧w.heap.size≤N∧w'.heap[N]?=some (.cells #[.string ⟨#[65,116,111,105]⟩,.string s,ev] 269 (0,0))∧Below w.heap.size w w':=Any.strconv_Atoi_syntax Tryz.laysC172 s hlim h ev w hv hev
open Go.RowKit in
theorem Tryz.strconv_Atoi_range(s:ByteArray)(hlim:s.size≤281474976710656)(h:Lib.atoiAll s.data.toList = .range)(ev:Value)(w:World)(hv:w.cell? ⟨4,0,none⟩=some ev)(hev:ev = .nilIface∨∃ te pe,ev = .iface te pe) :
 Calls Tryz.prog 53 #[.string s] w fun e w'=>∃ N,e = .returned (.tuple #[.int .i64 (Lib.atoiSat s.data.toList),.iface 245 (.pointer (some ⟨N,0,none⟩))])∧w.heap.size≤N∧w'.heap[N]?=some (.cells #[.string ⟨#[65,116,111,105]⟩,.string s,ev] 269 (0,0))∧Below w.heap.size w w':=Any.strconv_Atoi_range Tryz.laysC172 s hlim h ev w hv hev
def Tryz.laysGw17_ren:Go.Shelf.Ren:=⟨fun|17=>158|15=>180|20=>202|n=>n,fun|9=>9|23=>273|4=>4|3=>3|0=>0|21=>21|n=>n,fun|n=>n⟩
theorem Tryz.laysGw17:Go.Proofs.LaysGw.n17 Tryz.prog Tryz.laysGw17_ren:=by constructor<;>(intros;kernel_rfl)
open Go.RowKit Go.Lib in
theorem Tryz.strings_ContainsFunc_runes(g:Nat)(lb:Array Value)(eg:∀ args w,(callFunc g args).run Tryz.prog w = .ok (.enter g args) w)(p:Nat→Bool)(s:ByteArray)(w:World)(hp:PredAtRunes Tryz.prog g lb p w) :
 Calls Tryz.prog 158 #[.string s,.func (.func g) #[] lb] w fun e w'=>e = .returned (.bool (decide (0≤Lib.idxFunc p true s)))∧Below w.heap.size w w':=Any.strings_ContainsFunc_runes Tryz.laysGw17 g lb eg p s w hp
def Tryz.lays146_ren:Go.Shelf.Ren:=⟨fun|146=>50|221=>93|268=>128|138=>129|143=>130|195=>150|197=>151|218=>152|219=>153|260=>173|217=>174|225=>175|224=>176|267=>177|266=>200|314=>201|n=>n,fun|9=>9|31=>80|3=>3|4=>4|0=>0|105=>263|21=>21|5=>5|46=>95|119=>336|139=>339|138=>338|146=>311|51=>223|n=>n,fun|1=>5|3=>6|4=>7|n=>n⟩
theorem Tryz.lays146:Go.Proofs.Lays.n146 Tryz.prog Tryz.lays146_ren:=by constructor<;>(intros;kernel_rfl)
open Go.RowKit Go.Lib in
theorem Tryz.strings_Split(s sep:ByteArray)(m:Int)(w:World)(hs:s.size<4294967281)(hm:w.cell? ⟨5,0,none⟩=some (.int .i64 m))(h1:1≤sep.size) :
 Calls Tryz.prog 50 #[.string s,.string sep] w fun e w' =>
  e = .returned (.slice (some ⟨w.heap.size,0,none⟩) (Lib.countB s sep+1) (Lib.countB s sep+1))∧w'=w.alloc (.cells ((Lib.splitB sep 0 (Lib.countB s sep) s).map Value.string).toArray 9):=Any.strings_Split Tryz.lays146 (by kernel_rfl) s sep m w hs hm h1
def Tryz.lays105_ren:Go.Shelf.Ren:=⟨fun|105=>141|212=>164|99=>165|165=>105|166=>32|170=>166|169=>35|263=>184|264=>185|206=>137|240=>75|241=>136|276=>113|277=>157|n=>n,fun|9=>9|3=>3|4=>4|20=>20|0=>0|46=>95|109=>281|5=>5|72=>104|76=>107|51=>223|146=>311|53=>225|148=>313|70=>102|37=>23|75=>106|127=>189|164=>219|80=>39|n=>n,fun|n=>n⟩
theorem Tryz.lays105:Go.Proofs.Lays.n105 Tryz.prog Tryz.lays105_ren:=by constructor<;>(intros;kernel_rfl)
theorem Tryz.Builder_Extra_105:Builder.Extra Tryz.prog Tryz.lays105_ren:={
 sizeBuilder:=by kernel_rfl
 liesBuilder:=by kernel_rfl
 t5:=Tryz.underlying5
 a5:=Tryz.isAgg5
 z5:=Tryz.sizeOf5
 v5:=Tryz.zeroValue5
 infoByte:=by kernel_rfl
 cellsByte:=by kernel_rfl
 sizeByte:=by kernel_rfl
 neB5:=by decide }
open Go.RowKit Go.Lib in
theorem Tryz.strings_Repeat(s:ByteArray)(c:Nat)(w:World)(hc:c≤9223372036854775807)(hlen:s.size*c≤140737488355328) :
 Calls Tryz.prog 141 #[.string s,.int .i64 c] w fun e w'=>e = .returned (.string ⟨(Lib.repeatL s.data.toList c).toArray⟩)∧Below w.heap.size w w':=Any.strings_Repeat Tryz.lays105 Tryz.Builder_Extra_105 s c w hc hlen
def Tryz.lays110_ren:Go.Shelf.Ren:=⟨fun|110=>112|109=>140|n=>n,fun|31=>80|9=>9|4=>4|3=>3|0=>0|n=>n,fun|n=>n⟩
theorem Tryz.lays110:Go.Proofs.Lays.n110 Tryz.prog Tryz.lays110_ren:=by constructor<;>(intros;kernel_rfl)
open Go.Lib in
theorem Tryz.slices_Contains_string(b off n c:Nat)(zs:List ByteArray)(x:ByteArray)(w:World)(hz:n≤zs.length)(hbig:n≤9223372036854775807)(hc:∀ j,j<zs.length→w.cell? ⟨b,off+j,none⟩=some (.string (zs.getD j ByteArray.empty))) :
 Calls Tryz.prog 112 #[.slice (some ⟨b,off,none⟩) n c,.string x] w fun e w'=>e = .returned (.bool (Lib.containsS (zs.take n) x))∧w'=w:=Any.slices_Contains_string Tryz.lays110 b off n c zs x w hz hbig hc
open Go.Lib in
theorem Tryz.slices_Contains_string_empty(a:Option Addr)(c:Nat)(x:ByteArray)(w:World) :
 Calls Tryz.prog 112 #[.slice a 0 c,.string x] w fun e w'=>e = .returned (.bool false)∧w'=w:=Any.slices_Contains_string_empty Tryz.lays110 a c x w
end Go.Proofs
namespace Go.Proofs.YtjckchgdlbgolaaGreatDoor
section
open Go Go.DL Go.RowKit Go.Proofs.Tryz
variable{D:Nat→Option XFn}{Y:Nat→Option YI}{r:Nat→Option Nat}{h:XH}{H:Hp}{B:Base}

def jX(D:Nat→Option XFn)(K:Nat)(f:List AV→XH→Option (AV×XH)):Prop :=
 ∀(B:Base)(Y:Nat→Option YI)(r:Nat→Option Nat)(h:XH)(H:Hp)(xs ys:List AV)(v:AV)(h':XH),SH D Y r h H→RnL D Y r xs ys→f xs h=some (v,h')→FnW B Tryz.prog K ys H (fH D Y r v h')

def uD:List AV→XH→Option (AV×XH):=fun xs h=>match xs with
 | [.str s,.int .i64 n]=>if 0≤n∧n≤1000000∧s.size≤1000 then some (.str ⟨⟨Go.Lib.repeatL s.data.toList n.toNat⟩⟩,h) else none
 | _=>none
theorem aJh{s:ByteArray}{k:IntKind}{n:Int}{as':List AV}(hr:RnL D Y r [.str s,.int k n] as'):as'=[.str s,.int k n]:=by
 obtain⟨a,as1,rfl,h1,h2⟩:=hr.inv;obtain⟨b,as2,rfl,h3,h4⟩:=h2.inv
 grind [dB,dC,RnL]
theorem aOW:jX D 141 uD:=by
 intro B Y r h H xs ys v h' sh hr hx;unfold uD at hx;split at hx
 ·rename_i s n
  split at hx
  ·rename_i hn
   cases hx;rw[aJh hr];have hc:Calls Tryz.prog 141 #[.string s,.int .i64 (n.toNat:Int)]=Calls Tryz.prog 141 #[.string s,.int .i64 n]:=by grind
   refine FnW.shelf (r:=fun _=>.string ⟨(Go.Lib.repeatL s.data.toList n.toNat).toArray⟩) (fun vs w=>call141 vs w) (fun F w vs=>.str _) (fun F w vs hl ha=>?_) ⟨r,Sub.refl r,sh,.str _⟩;rw[ha.strInt,←hc];exact Tryz.strings_Repeat s n.toNat w AM (by
    have h1:n.toNat≤1000000:=AM
    have:=N8 hn.2.2 h1;omega)
  ·cases hx
 ·cases hx

def sZ:List (List AV)→Option (List ByteArray)
 | []=>some []
 | [.str x]::l=>(sZ l).map (x :: ·)
 | _=>none
theorem aAA:∀{rows:List (List AV)}{xs:List ByteArray},sZ rows=some xs→xs.length=rows.length∧∀(j:Nat)(x:ByteArray),xs[j]?=some x→rows[j]?=some [.str x]
 | [],xs,h=>by grind [sZ]
 | row::l,xs,h=>by
   unfold sZ at h;split at h;·rename_i h0;cases h0
   ·rename_i x l' h0
    cases h0;cases hl:sZ l with
    | none=>rw[hl]at h;cases h
    | some ys =>
      rw[hl]at h;simp only[C5,oSI]at h;subst h;obtain⟨h1,h2⟩:=aAA hl;refine⟨by simp[h1],fun j y hj=>?_⟩;cases j with
      | zero=>simp at hj;subst hj;rfl
      | succ j=>exact h2 j y (by simpa using hj)
   ·cases h

def aCP:List AV→XH→Option (AV×XH):=fun xs h=>match xs with
 | [.fs rows,.str sep]=>match sZ rows with
   | some l=>if l.length≤1000∧(Go.Lib.join (l.map (·.data.toList)) sep.data.toList).length≤100000 then some (.str ⟨⟨Go.Lib.join (l.map (·.data.toList)) sep.data.toList⟩⟩,h) else none
   | none=>none
 | _=>none
theorem aTU:jX D 67 aCP:=by
 intro B Y r h H xs ys v h' sh hr hx;unfold aCP at hx;split at hx
 ·rename_i rows sep
  split at hx
  ·rename_i l hl
   split at hx
   ·rename_i hn
    cases hx;obtain⟨a,as1,rfl,h1,h2⟩:=hr.inv;obtain⟨b,as2,rfl,h3,h4⟩:=h2.inv;rw[(tZ h1).1,dB h3,h4.nil_inv];obtain⟨hlen,hget⟩:=aAA hl;refine FnW.shelf (r:=fun _=>.string ⟨(Go.Lib.join (l.map (·.data.toList)) sep.data.toList).toArray⟩) (fun vs w=>call67 vs w) (fun F w vs=>.str _) (fun F w vs hlt ha=>?_) ⟨r,Sub.refl r,sh,.str _⟩;obtain⟨v1,vs1,rfl,k1,k2⟩:=ha.cons1;obtain⟨v2,vs2,rfl,k3,k4⟩:=k2.cons1;rw[k4.nil1];cases k3;have none:∀(a:Option Addr)(c:Nat),rows=[]→Calls Tryz.prog 67 #[.slice a 0 c,.string sep] w fun e w'=>e = .returned (.string ⟨(Go.Lib.join (l.map (·.data.toList)) sep.data.toList).toArray⟩)∧Below w.heap.size w w':=fun a c h0=>by
     subst h0;have:l=[]:=D5 AM;subst this;exact(Tryz.strings_Join_none a c sep w).mono fun e w' ⟨he,hw⟩=>⟨by rw[he];rfl,hw▸Below.refl _ _⟩
    cases k1 with
    | fs0 a cap=>grind
    | fs rows blk off s cap g hcap hF hs hc ho hv =>
      by_cases h0:rows=[];·grind
      ·have hs1:s=1:=by
        obtain⟨row,rest,rfl⟩:=aE6 h0;have hl0:l.length=rest.length+1:=AM
        obtain⟨x,hx0⟩:∃ x,l[0]?=some x:=⟨_,A8 AM⟩
        grind [List.getElem?_cons_zero]
       subst hs1;rw[←hlen];refine Tryz.strings_Join blk off cap l sep w (fun j x hj=>?_) (hlt _ hF) AM AM AM;have h5:=hget j x hj;have h6:=hc j _ 0 _ h5 rfl;have h7:=hv j _ 0 _ h5 rfl;generalize g j 0=y at h6 h7;cases h7
       grind
   ·cases hx
  ·cases hx
 ·cases hx

def fB(c:UInt8):List UInt8→List (List UInt8)
 | []=>[[]]
 | b::r=>if b=c then []::fB c r else match fB c r with
   | x::l=>(b::x)::l
   | []=>[[b]]
theorem aCi(c:UInt8):∀ s:List UInt8,Lib.splitK [c] 0 (Lib.count s [c]) s=fB c s
 | []=>by rfl
 | b::l=>by
   have ih:=aCi c l;by_cases h:b=c
   ·subst h
    have hix:Lib.index (b::l) [b]=0:=by rw[Lib.index];grind
    rw[Lib.count_cons_eq,Nat.add_comm,Lib.splitK,hix]
    grind [fB]
   ·have hp:([c]:List UInt8).isPrefixOf (b::l)=false:=by grind
    have hix:Lib.index (b::l) [c]=if Lib.index l [c] == -1 then -1 else Lib.index l [c]+1:=by rw[Lib.index,hp];simp
    rw[Lib.count_cons_ne b c l h];simp only[fB,if_neg h,←ih];cases hk:Lib.count l [c]with
    | zero=>rfl
    | succ k =>
      simp only[Lib.splitK];by_cases hm:Lib.index l [c] = -1;·grind
      ·have hge:=Lib.index_ge l [c]
       obtain⟨j,hj⟩:∃ j:Nat,Lib.index l [c]=j:=⟨(Lib.index l [c]).toNat,by omega⟩;rw[hix,if_neg (fun e=>hm (beq_iff_eq.1 e)),hj];rfl

def zS:List AV→XH→Option (AV×XH):=fun xs h=>match xs with
 | [.str s,.str ⟨⟨[c]⟩⟩]=>if s.size≤100000 then some (.fs ((fB c s.data.toList).map fun l=>[.str ⟨⟨l⟩⟩]),h) else none
 | _=>none
theorem aTW:jX D 50 zS:=by
 intro B Y r h H xs ys v h' sh hr hx;unfold zS at hx;split at hx
 ·rename_i s c
  split at hx
  ·rename_i hn
   cases hx;obtain⟨a,as1,rfl,h1,h2⟩:=hr.inv;obtain⟨b,as2,rfl,h3,h4⟩:=h2.inv;rw[dB h1,dB h3,h4.nil_inv];have hv:∀ x∈(fB c s.data.toList).map (fun l=>[AV.str ⟨⟨l⟩⟩]),∀ z∈x,Gd z:=fun x hx z hz=>by
    obtain⟨l,_,rfl⟩:=G1.1 hx;simp only[C6]at hz;subst hz;exact .str _
   refine FnW.shelfG (fun vs w=>call50 vs w) (fun F w vs gi hl ha=>?_) ⟨r,DL.Sub.refl r,sh,(Gd.fs _ hv).rn⟩;obtain⟨hF3,m,hm⟩:=gi.2.1 5 (by simp[aDx]);rw[ha.strStr];refine(Tryz.strings_Split s ⟨#[c]⟩ m w AM hm (by simp[ByteArray.size])).mono ?_;rintro e w' ⟨rfl,rfl⟩;have hsp:((Lib.splitB ⟨#[c]⟩ 0 (Lib.countB s ⟨#[c]⟩) s).map (·.data.toList))=fB c s.data.toList:=by
    grind [Lib.splitB_data,aCi]
   have hlen:(Lib.splitB ⟨#[c]⟩ 0 (Lib.countB s ⟨#[c]⟩) s).length=Lib.countB s ⟨#[c]⟩+1:=Lib.splitB_all _ (by simp[ByteArray.size]) 0 _ _ rfl;obtain⟨L,hL⟩:∃ L,L=Lib.splitB ⟨#[c]⟩ 0 (Lib.countB s ⟨#[c]⟩) s:=⟨_,rfl⟩;rw[←hL]at hsp hlen ⊢;have hrows:(fB c s.data.toList).map (fun l=>[AV.str ⟨⟨l⟩⟩])=L.map fun x=>[AV.str x]:=by
    rw[←hsp,aC5];rfl
   rw[hrows];refine⟨_,fun b=>F b∨b=w.heap.size,rfl,(Below.refl _ w).alloc (A6 _) _,fun b hb=>.inl hb,fun b hb=>hb.elim .inl fun e=>.inr AM,fun b hb=>?_,?_⟩
   ·rcases hb with hb|rfl
    ·have:=hl b hb;simp;omega
    ·simp
   ·have hcell:∀(j:Nat)(x:ByteArray),L[j]?=some x→(w.alloc (.cells (L.map Value.string).toArray 9)).cell? ⟨w.heap.size,j,none⟩=some (.string x):=fun j x hj=>by
     simp_all
    have hlen':(L.map fun x=>[AV.str x]).length=Lib.countB s ⟨#[c]⟩+1:=by grind
    rw[←hlen'];refine .fs _ w.heap.size 0 1 _ (fun i _=>.string (L.getD i ByteArray.empty)) AM (.inr rfl) (fun x hx=>?_) (fun i x j z hi hj=>?_) (fun _ _=>rfl) (fun i x j z hi hj=>?_);·grind
    ·grind
    ·rw[C4,A3]at hi
     obtain⟨y,hy,rfl⟩:=hi;cases j with
     | zero =>
       simp only[D4,oSI]at hj;subst hj;rw[C7,hy];exact .str _
     | succ j=>simp at hj
  ·cases hx
 ·cases hx

theorem aRo {F:Nat→Prop} {w:World} (gi:GI F w):Lib.TabIs prog w "internal/strconv.uint64pow10" IntKind.u64 Lib.pow10Tab:=by
 obtain⟨_,e,fr,h2⟩:=gi.2.2.1 (2,(List.range 20).map fun i=>Value.int .u64 ((10^i:Nat):Int)) (by simp[aDy])
 have hg:prog.globalNamed "internal/strconv.uint64pow10" = some 2:=by kernel_rfl
 unfold Lib.TabIs World.var?;rw[hg];simp only[E5];dsimp only at h2;rw[h2];rfl

def aAI:List AV→XH→Option (AV×XH):=fun xs h=>match xs with
 | [.int .i64 n]=>if -9223372036854775808≤n∧n≤9223372036854775807 then some (.str ⟨⟨Lib.itoa n⟩⟩,h) else none
 | _=>none
theorem aRT{k:IntKind}{n:Int}{as':List AV}(hr:RnL D Y r [.int k n] as'):as'=[.int k n]:=by
 obtain⟨b,as2,rfl,h3,h4⟩:=hr.inv
 grind [dC,RnL]
theorem aUb:jX D 23 aAI:=by
 intro B Y r h H xs ys v h' sh hr hx;unfold aAI at hx;split at hx
 ·rename_i n
  split at hx
  ·rename_i hn
   cases hx;rw[aRT hr];refine FnW.shelfG (fun vs w=>call23 vs w) (fun F w vs gi hl ha=>?_) ⟨r,DL.Sub.refl r,sh,.str _⟩;obtain⟨b,bs,rfl,h3,h4⟩:=ha.cons1;cases h3;rw[h4.nil1];refine(Tryz.strconv_Itoa n hn.1 hn.2 w (aRo gi)).mono ?_;rintro e w' ⟨rfl,k,os,rfl⟩;have hbel:Below w.heap.size w («Sort».grow (w.drewN k) os):=by
    have h0:(w.drewN k).heap=w.heap:=rfl;refine⟨rfl,rfl,rfl,?_,fun j hj=>?_⟩;·simp_all
    ·simp only[«Sort».grow,h0]
     grind
   exact⟨_,F,rfl,hbel,fun _ h=>h,fun _ h=>.inl h,fun b hb=>E6 (hl b hb) hbel.size,.str _⟩
  ·cases hx
 ·cases hx
theorem aZE(b g cap:Nat)(p:Value)(cur:Array Value)(fr fz:Nat×Nat)(l:List UInt8)(w:World)(hbk:w.heap[b]?=some (.cells #[p,.slice (some ⟨g,0,none⟩) l.length cap] 104 fr))(hg:w.heap[g]?=some (.cells cur 5 fz))
 (h0:l≠[]) (hnc:l.length≤cap) (hcs:l.length≤cur.size) (h63:l.length≤9223372036854775807) (hcell:∀(j:Nat)(x:UInt8),l[j]?=some x→cur[j]?=some (.int .u8 x.toNat)) :
 Calls prog 35 #[.pointer (some ⟨b,0,none⟩)] w fun e w'=>e = .returned (.string ⟨l.toArray⟩)∧w'=w.drew.freeze ⟨g,0,none⟩ l.length:=by
 have hl0:l.length≠0:=by simpa using h0
 have c1:w.drew.cell? ⟨b,1,none⟩=some (.slice (some ⟨g,0,none⟩) l.length cap):=by
  have:w.drew.heap[b]?=some (.cells #[p,.slice (some ⟨g,0,none⟩) l.length cap] 104 fr):=hbk;rw[Lib.cell_of_heap this];rfl
 have hSD:(Builtin.unsafeSliceData_ #[23] 189 #[.slice (some ⟨g,0,none⟩) l.length cap]).run prog w.drew = .ok (.pointer (some ⟨g,0,none⟩)) w.drew :=
  Lib.run_unsafeSliceData_row _ _ _ _ _ _ AM
 have hUS:(Builtin.unsafeString_ #[189,3] 9 #[.pointer (some ⟨g,0,none⟩),.int .i64 l.length]).run prog w.drew = .ok (.string ⟨l.toArray⟩) (w.drew.freeze ⟨g,0,none⟩ l.length):=by
  refine Lib.run_unsafeString_row w.drew 189 3 9 5 underlying189 (by kernel_rfl) g cur.size (by have hg':w.drew.heap[g]?=some (.cells cur 5 fz):=hg;simp[World.shape?,hg']) l h0 hcs h63 ?_;intro j x hx;have hg':w.drew.heap[g]?=some (.cells cur 5 fz):=hg;have:=hcell j x hx;have e:(⟨g,0,none⟩:Addr).add j=⟨g,j,none⟩:=by
   by_cases hj:j=0;·subst hj;simp[Addr.add]
   ·simp[Addr.add,hj]
  rw[e];unfold World.cell?;dsimp only;rw[hg'];simpa using this
 have mixed:prog.follows .mixedOrders=true:=rfl;have u126:=run_underlying underlying104;have u124:=run_underlying underlying102;have u59:=run_underlying underlying23;have u183:=run_underlying underlying189;have u3:=run_underlying underlying3;have u9:=run_underlying underlying9;have u5:=run_underlying underlying5
 go_enter func35,ntmps35
 go_wp2
 go_region_o
 all_goals (go_wp2;go_ret;exact⟨rfl,rfl⟩)

theorem aKt:∃ j,prog.info? 104=some j∧j.size=2:=A3.1 (by kernel_rfl:(prog.info? 104).map (·.size)=some 2)
theorem aSx:liesAt prog prog.depth 104 (2/prog.cellsOf 104) 0 104 1=true:=by kernel_rfl

theorem aEA(b:Nat)(w:World)(h0:w.cell? ⟨b,0,none⟩=some (.pointer none))(hsh:w.shape? b=some (104,2))(hfz:w.frozen? ⟨b,0,none⟩=false) :
 Calls prog 75 #[.pointer (some ⟨b,0,none⟩)] w fun e w'=>e = .returned (.tuple #[])∧w'=w.setCell ⟨b,0,none⟩ (.pointer (some ⟨b,0,none⟩)):=by
 obtain⟨j,hj,hjs⟩:=aKt;have mixed:prog.follows .mixedOrders=true:=rfl;have u126:=run_underlying underlying104;have u124:=run_underlying underlying102;have u215:=run_underlying underlying219;have u9:=run_underlying underlying9;have u4:=run_underlying underlying4
 go_enter func75,ntmps75
 go_wp2
 rw[Lib.run_to_unsafe w ⟨b,0,none⟩ underlying102 underlying219 hj (by rw[hjs];decide) hsh (Nat.zero_lt_succ 1)];simp only[Result.andThen];rw[Oper.upon_value]
 go_wp2
 rw[run_callFunc_extern func113 (by kernel_rfl) (by kernel_rfl) (by kernel_rfl) (e:=Extern.AbiNoEscape.same) (by kernel_rfl)];rw[Lib.run_noEscape];simp only[Result.andThen];rw[Oper.upon_value]
 go_wp2
 rw[Lib.run_from_unsafe w ⟨b,0,none⟩ underlying219 underlying102 hj hsh aSx];simp only[Result.andThen];rw[Oper.upon_value]
 go_wp2
 go_end0
 exact⟨rfl,rfl⟩

theorem aGV(b:Nat)(w:World)(h0:w.cell? ⟨b,0,none⟩=some (.pointer (some ⟨b,0,none⟩))) :
 Calls prog 75 #[.pointer (some ⟨b,0,none⟩)] w fun e w'=>e = .returned (.tuple #[])∧w'=w:=by
 obtain⟨j,hj,hjs⟩:=aKt;have mixed:prog.follows .mixedOrders=true:=rfl;have u126:=run_underlying underlying104;have u124:=run_underlying underlying102;have u215:=run_underlying underlying219;have u9:=run_underlying underlying9;have u4:=run_underlying underlying4
 go_enter func75,ntmps75
 go_wp2
 rw[Lib.run_neq_ptr_same w _ underlying102 hj]
 go_wp2
 go_end0
 exact⟨rfl,rfl⟩

section
variable{D:Nat→Option XFn}{Y:Nat→Option YI}{r:Nat→Option Nat}{h:XH}{H:Hp}{B:Base}

def aGs:List AV→XH→Option (AV×XH):=fun xs h=>match xs with
 | [.bp b]=>match hat h b with
   | some (.blk _ (.cells true (.nilpt::l)))=>some (.tup [],h.set b (some (.blk false (.cells true (.pt b 0::l)))))
   | some (.blk _ (.cells true (.pt b' 0::_)))=>if b'=b then some (.tup [],h) else none
   | _=>none
 | _=>none
theorem aGM{b:Nat}{g:Bool}{x:ABlk}(h0:hat h b=some (.blk g x)):aI h b=some x:=by unfold aI;rw[h0]
theorem aID{b:Nat}{w:World}{c:Array Value}{e:TypeId}{fr:Nat×Nat}{v:Value}(hb:w.heap[b]?=some (.cells c e fr))(j:Nat)(hv:c[j]?=some v):w.cell? ⟨b,j,none⟩=some v:=by
 unfold World.cell?
 grind

theorem aOX:jX D 75 aGs:=by
 intro B Y r h H xs ys v h' sh hr hx;unfold aGs at hx;split at hx
 ·rename_i b
  obtain⟨y,as1,rfl,h1,h2⟩:=hr.inv;obtain⟨c,rfl,hrb⟩:=aOA h1;rw[h2.nil_inv];split at hx
  ·rename_i g l hb
   cases hx;obtain⟨g',cs',_,k2,k3,_⟩:=sh.cells hrb (aGM hb);obtain⟨z,l',rfl,k4,k5⟩:=k3.inv;rw[aCF k4]at k2;refine⟨fun vs w=>call75 vs w,fun F w vs hB st ha=>?_⟩;obtain⟨v1,vs1,rfl,a1,a2⟩:=ha.cons1;rw[a2.nil1];cases a1 with
   | bp _ carr fr hcb hsz =>
   obtain⟨o,ho,hrb'⟩:=st.blk c _ k2;rw[hcb]at ho;simp only[oSI]at ho;subst ho;cases hrb' with
   | cells _ _ _ _ _ hfr hl hone hcells =>
   have hlt:c<w.heap.size:=(G3.1 hcb).1;obtain⟨v0,hv0⟩:∃ v0,carr[0]?=some v0:=⟨carr[0]'AM,D7 _⟩;have hn:=hcells 0 _ v0 rfl hv0;cases hn;refine callsIn_wide.2 ((aEA c w (aID hcb 0 hv0) (by simp[World.shape?,hcb,hsz,aTf]) (by
    have:=hfr 0 AM;unfold World.frozen?
    grind)).mono ?_)
   rintro e w' ⟨rfl,rfl⟩;have hheap:(w.setCell ⟨c,0,none⟩ (.pointer (some ⟨c,0,none⟩))).heap=w.heap.setIfInBounds c (.cells (carr.setIfInBounds 0 (.pointer (some ⟨c,0,none⟩))) aTf fr):=by
    apply aE2;intro j;rw[H7];simp only[World.setCell,Array.getElem?_modify]
    grind
   obtain⟨e1,e2⟩:=kO (w':=w.setCell ⟨c,0,none⟩ (.pointer (some ⟨c,0,none⟩))) (y:=.cells true (.pt c 0::l')) st k2 rfl hcb hheap ⟨rfl,rfl,rfl⟩ (fun c1 e1 fr1 hh=>by grind) (fun F1 w1 hu=>by
    refine .cells true _ _ _ fr (fun i hi=>hfr i (by grind)) (by grind) (fun i v hv=>?_) (fun i a v ha hv=>?_)
    ·rw[H7]at hv
     split at hv
     ·split at hv
      ·cases hv;rfl
      ·cases hv
     grind
    ·rw[H7]at hv
     split at hv
     ·rename_i hi0
      subst hi0;split at hv
      ·cases hv
       simp only[D4,oSI]at ha;subst ha;exact .pt _ _
      ·cases hv
     ·rename_i hi0
      obtain⟨m,rfl⟩:∃ m,i=m+1:=⟨i-1,by omega⟩;exact(hcells (m+1) a v (by grind) hv).up hu)
   refine⟨.tuple #[],.tup [],F,_,rfl,e1,e2,.tup _ _ rfl (by simp),r,DL.Sub.refl r,sh.turn hb hrb (.cells c false true _ _ (RnL.cons (.pt _ _ _ hrb) k5) (by simp)),.tup _ _ rfl (by simp)⟩
  ·rename_i g b' l hb
   split at hx
   ·rename_i hbb
    cases hx;subst hbb;obtain⟨g',cs',_,k2,k3,_⟩:=sh.cells hrb (aGM hb);obtain⟨z,l',rfl,k4,k5⟩:=k3.inv;obtain⟨c',rfl,hr'⟩:=lY k4;rw[hrb]at hr';cases hr';refine⟨fun vs w=>call75 vs w,fun F w vs hB st ha=>?_⟩;obtain⟨v1,vs1,rfl,a1,a2⟩:=ha.cons1;rw[a2.nil1];cases a1 with
    | bp _ carr fr hcb hsz =>
    obtain⟨o,ho,hrb'⟩:=st.blk c _ k2;rw[hcb]at ho;simp only[oSI]at ho;subst ho;cases hrb' with
    | cells _ _ _ _ _ hfr hl hone hcells =>
    obtain⟨v0,hv0⟩:∃ v0,carr[0]?=some v0:=⟨carr[0]'AM,D7 _⟩;have hn:=hcells 0 _ v0 rfl hv0;cases hn;refine callsIn_wide.2 ((aGV c w (aID hcb 0 hv0)).mono ?_);rintro e w' ⟨rfl,rfl⟩;exact⟨.tuple #[],.tup [],F,H,rfl,Ext.refl _ _ _,st,.tup _ _ rfl (by simp),r,DL.Sub.refl r,sh,.tup _ _ rfl (by simp)⟩
   ·cases hx
  ·cases hx
 ·cases hx

def aBv:List AV→Option (List UInt8)
 | []=>some []
 | .int .u8 n::r=>if 0≤n∧n<256 then (aBv r).map (UInt8.ofNat n.toNat :: ·) else none
 | _=>none
theorem aIG:∀{bs:List AV}{l:List UInt8},aBv bs=some l→l.length=bs.length∧∀(j:Nat)(x:UInt8),l[j]?=some x→bs[j]?=some (.int .u8 x.toNat)
 | [],l,h=>by grind [aBv]
 | v::bs,l,h=>by
   unfold aBv at h;split at h;·rename_i h0;cases h0
   ·rename_i n r h0
    cases h0;split at h
    ·rename_i hn
     cases hl:aBv bs with
     | none=>rw[hl]at h;cases h
     | some l' =>
       rw[hl]at h;simp only[C5,oSI]at h;subst h;obtain⟨h1,h2⟩:=aIG hl;refine⟨by simp[h1],fun j x hj=>?_⟩;cases j with
       | zero =>
         simp only[D4,oSI]at hj;subst hj;have:((UInt8.ofNat n.toNat).toNat:Int)=n:=by
          rw[aE7];have:n.toNat%2^8=n.toNat:=J9 AM;rw[this];omega
         rw[this];rfl
       | succ j=>exact h2 j x (by simpa using hj)
    ·cases h
   ·cases h

def aHM:List AV→XH→Option (AV×XH):=fun xs h=>match xs with
 | [.bp b]=>match hat h b with
   | some (.blk _ (.cells _ [_,.sb g n]))=>match hat h g with
     | some (.blk _ (.cells true bs))=>match aBv (bs.take n)with
       | some (x::l)=>if n≤bs.length∧g≠b∧n≤1000000 then some (.str ⟨⟨x::l⟩⟩,h.set g none) else none
       | _=>none
     | _=>none
   | _=>none
 | _=>none

theorem uQ{w:World}{g n:Nat}{c:Array Value}{e:TypeId}{fr:Nat×Nat}(hg:w.heap[g]?=some (.cells c e fr)):∃ fr',(w.drew.freeze ⟨g,0,none⟩ n).heap[g]?=some (.cells c e fr')∧(∀ j,j≠g→(w.drew.freeze ⟨g,0,none⟩ n).heap[j]?=w.heap[j]?) ∧
 (w.drew.freeze ⟨g,0,none⟩ n).heap.size=w.heap.size∧SameIO w (w.drew.freeze ⟨g,0,none⟩ n):=by
 unfold World.freeze;split;·exact⟨fr,hg,fun _ _=>rfl,rfl,⟨rfl,rfl,rfl⟩⟩
 ·have h0:w.drew.heap=w.heap:=rfl
  refine⟨if fr.1==fr.2 then (0,0+n) else (min fr.1 0,max fr.2 (0+n)),?_,fun j hj=>?_,by simp[h0],⟨rfl,rfl,rfl⟩⟩;all_goals grind

theorem aUa:jX D 35 aHM:=by
 intro B Y r h H xs ys v h' sh hr hx;unfold aHM at hx;split at hx
 ·rename_i b
  obtain⟨y,as1,rfl,h1,h2⟩:=hr.inv;obtain⟨c,rfl,hrb⟩:=aOA h1;rw[h2.nil_inv];split at hx
  ·rename_i fl wr a0 g n hb
   split at hx
   ·rename_i fl2 bs hg
    split at hx
    ·rename_i x l hbl
     split at hx
     ·rename_i hc
      cases hx;obtain⟨_,cs',_,k2,k3,_⟩:=sh.cells hrb (aGM hb);obtain⟨z0,l0,rfl,k4,k5⟩:=k3.inv;obtain⟨z1,l1,rfl,k6,k7⟩:=k5.inv;rw[k7.nil_inv]at k2;obtain⟨gc,rfl,hrg⟩:=aOy k6;obtain⟨_,bs',_,m2,m3,_⟩:=sh.cells hrg (aGM hg);obtain⟨hbl1,hbl2⟩:=aIG hbl;have hlen:(x::l).length=n:=by grind
      have hne:gc≠c:=fun e=>hc.2.1 (sh.inj g b c _ _ hg hb (e▸hrg) hrb);refine⟨fun vs w=>call35 vs w,fun F w vs hB st ha=>?_⟩;obtain⟨v1,vs1,rfl,a1,a2⟩:=ha.cons1;rw[a2.nil1];cases a1 with
      | bp _ carr fr hcb hsz =>
      obtain⟨o,ho,hrb'⟩:=st.blk c _ k2;rw[hcb]at ho;simp only[oSI]at ho;subst ho;cases hrb' with
      | cells _ _ _ _ _ hfr hl hone hcells =>
      obtain⟨v0,hv0⟩:∃ v0,carr[0]?=some v0:=⟨carr[0]'AM,D7 _⟩;obtain⟨v1,hv1⟩:∃ v1,carr[1]?=some v1:=⟨carr[1]'AM,D7 _⟩;have hs:=hcells 1 _ v1 rfl hv1;cases hs with
      | sb _ _ cap gcur gfr hgb hcap hle =>
      have hcarr:carr = #[v0,.slice (some ⟨gc,0,none⟩) n cap]:=by
       grind
      rw[hcarr]at hcb;obtain⟨o2,ho2,hrg'⟩:=st.blk gc _ m2;rw[hgb]at ho2;simp only[oSI]at ho2;subst ho2;cases hrg' with
      | cells _ _ _ _ _ hfr2 hl2 hone2 hcells2 =>
      have hl2':bs.length=bs'.length:=m3.1;rw[←hlen]at hcb;refine callsIn_wide.2 ((aZE c gc cap v0 gcur fr gfr (x::l) w hcb hgb (by simp) AM AM AM (fun j u hj=>?_)).mono ?_)
      ·have hb1:=hbl2 j u hj
       rw[List.getElem?_take]at hb1;split at hb1
       ·obtain⟨u',hu1,hu2⟩:=m3.get hb1
        have hlt:j<bs'.length:=(D0.1 hu1).1;obtain⟨q,hq⟩:∃ q,gcur[j]?=some q:=⟨gcur[j]'AM,D7 _⟩;have h9:=hcells2 j u' q hu1 hq;rw[dC hu2]at h9;cases h9;exact hq
       ·cases hb1
      ·rintro e w' ⟨rfl,rfl⟩
       obtain⟨fr',f1,f2,f3,f4⟩:=uQ (n:=(x::l).length) hgb;have hE:Ext F w H F (w.drew.freeze ⟨gc,0,none⟩ (x::l).length) (mV H gc):=by
        refine⟨fun _ h=>h,fun _ h=>.inl h,fun j hj=>?_,fun j hj=>?_,by omega,fun j hj hw=>?_,fun j c1 e1 fr1 hj=>?_,f4⟩
        ·unfold mV at hj
         grind
        ·left
         unfold sX at hj ⊢;unfold mV at hj
         grind
        ·refine f2 j fun e=>?_
         subst e;unfold sX at hw;rw[m2]at hw;simp[ABlk.wr]at hw
        grind
       have hU:=hE.up st;refine⟨.string ⟨(x::l).toArray⟩,.str ⟨⟨x::l⟩⟩,F,mV H gc,rfl,hE,⟨fun j hj=>by rw[f3];exact st.lt j hj,fun j y hj=>?_,fun j y hj=>?_⟩,.str _,r,DL.Sub.refl r,⟨fun b1 c1 hb1=>by simpa using sh.dom b1 c1 hb1,fun b1 b2 c1 x1 x2 q1 q2 q3 q4=>?_,fun b1 x1 q1=>?_,sh.gh.elim fun G hG=>⟨_,hG.drop hg hrg⟩⟩,.str _⟩
       ·unfold mV at hj
        split at hj;·cases hj
        ·exact st.dis j y hj
       ·unfold mV at hj
        split at hj;·cases hj
        ·rename_i hjg
         obtain⟨o,o1,o2⟩:=st.blk j y hj;exact⟨o,by grind,o2.up hU⟩
       ·have live:∀ b z,hat (h.set g none) b=some z→hat h b=some z:=fun b z hz=>by
         grind [fX]
        exact sh.inj b1 b2 c1 x1 x2 (live _ _ q1) (live _ _ q2) q3 q4
       ·rw[fX]at q1
        split at q1;·cases q1
        ·rename_i hcd
         obtain⟨c2,y2,w1,w2,w3⟩:=sh.blk b1 x1 q1;refine⟨c2,y2,w1,?_,w3⟩;unfold mV;rw[if_neg];·exact w2
         ·intro e
          subst e;exact hcd ⟨sh.inj b1 g _ x1 _ q1 hg w1 hrg,rC hg⟩
     ·cases hx
    ·cases hx
   ·cases hx
  ·cases hx
 ·cases hx
theorem aCG{s t:ByteArray}{as':List AV}(hr:RnL D Y r [.str s,.str t] as'):as'=[.str s,.str t]:=by
 obtain⟨a,as1,rfl,h1,h2⟩:=hr.inv;obtain⟨b,as2,rfl,h3,h4⟩:=h2.inv
 grind [dB,RnL]

def zT:List AV→XH→Option (AV×XH):=fun xs h=>match xs with
 | [.str s,.str p]=>some (.tup [.str ⟨⟨Lib.trimPrefix s.data.toList p.data.toList⟩⟩,.bool (Lib.hasPrefix s.data.toList p.data.toList)],h)
 | _=>none
theorem aTZ:jX D 72 zT:=by
 intro B Y r h H xs ys v h' sh hr hx;unfold zT at hx;split at hx
 ·rename_i s p
  cases hx;rw[aCG hr];have two:∀(F:Nat→Prop)(w:World),Rv F w (.tup [.str ⟨⟨Lib.trimPrefix s.data.toList p.data.toList⟩⟩,.bool (Lib.hasPrefix s.data.toList p.data.toList)]) (.tuple #[.string ⟨(Lib.trimPrefix s.data.toList p.data.toList).toArray⟩,.bool (Lib.hasPrefix s.data.toList p.data.toList)]):=fun F w =>
   .tup _ _ rfl fun i x y hx hy=>by
    match i with
    | 0=>simp at hx hy;subst hx hy;exact .str _
    | 1=>simp at hx hy;subst hx hy;exact .bool _
    | k+2=>simp at hx
  refine FnW.shelf (r:=fun _=>.tuple #[.string ⟨(Lib.trimPrefix s.data.toList p.data.toList).toArray⟩,.bool (Lib.hasPrefix s.data.toList p.data.toList)]) (fun vs w=>call72 vs w) (fun F w vs=>two F w) (fun F w vs hl ha=>?_) ⟨r,DL.Sub.refl r,sh,(Gd.tup _ (fun c hc=>by
   simp only[B5,F9,AAg]at hc;rcases hc with rfl|rfl;·exact .str _
   ·exact .bool _)).rn⟩
  rw[ha.strStr];exact(Tryz.strings_CutPrefix s p w).mono fun e w' ⟨he,hw⟩=>⟨he,hw▸Below.refl _ _⟩
 ·cases hx

def aCO:List AV→XH→Option (AV×XH):=fun xs h=>match xs with
 | [.str s,.str ⟨⟨[c]⟩⟩]=>if c.toNat<128∧s.size≤1000000 then some (.str ⟨⟨Lib.trimRightB s.data.toList c⟩⟩,h) else none
 | _=>none
theorem aTX:jX D 139 aCO:=by
 intro B Y r h H xs ys v h' sh hr hx;unfold aCO at hx;split at hx
 ·rename_i s c
  split at hx
  ·rename_i hn
   cases hx;rw[aCG hr];refine FnW.shelf (r:=fun _=>.string ⟨(Lib.trimRightB s.data.toList c).toArray⟩) (fun vs w=>call139 vs w) (fun F w vs=>.str _) (fun F w vs hl ha=>?_) ⟨r,DL.Sub.refl r,sh,.str _⟩;rw[ha.strStr];exact(Tryz.strings_TrimRight_one s c hn.1 w AM).mono fun e w' ⟨he,hw⟩=>⟨he,hw▸Below.refl _ _⟩
  ·cases hx
 ·cases hx

def aHN:List AV→XH→Option (AV×XH):=fun xs h=>match xs with
 | [.fs rows,.str x]=>match sZ rows with
   | some l=>if l.length≤1000000 then some (.bool (Lib.containsS l x),h) else none
   | none=>none
 | _=>none
theorem aUc:jX D 112 aHN:=by
 intro B Y r h H xs ys v h' sh hr hx;unfold aHN at hx;split at hx
 ·rename_i rows x
  split at hx
  ·rename_i l hl
   split at hx
   ·rename_i hn
    cases hx;obtain⟨a,as1,rfl,h1,h2⟩:=hr.inv;obtain⟨b,as2,rfl,h3,h4⟩:=h2.inv;rw[(tZ h1).1,dB h3,h4.nil_inv];obtain⟨hlen,hget⟩:=aAA hl;refine FnW.shelf (r:=fun _=>.bool (Lib.containsS l x)) (fun vs w=>call112 vs w) (fun F w vs=>.bool _) (fun F w vs hlt ha=>?_) ⟨r,DL.Sub.refl r,sh,.bool _⟩;obtain⟨v1,vs1,rfl,k1,k2⟩:=ha.cons1;obtain⟨v2,vs2,rfl,k3,k4⟩:=k2.cons1;rw[k4.nil1];cases k3;have none:∀(a:Option Addr)(c:Nat),rows=[]→Calls Tryz.prog 112 #[.slice a 0 c,.string x] w fun e w'=>e = .returned (.bool (Lib.containsS l x))∧Below w.heap.size w w':=fun a c h0=>by
     subst h0;have:l=[]:=D5 AM;subst this;exact(Tryz.slices_Contains_string_empty a c x w).mono fun e w' ⟨he,hw⟩=>⟨by rw[he];rfl,hw▸Below.refl _ _⟩
    cases k1 with
    | fs0 a cap=>grind
    | fs rows blk off s cap g hcap hF hs hc ho hv =>
      by_cases h0:rows=[];·grind
      ·have hs1:s=1:=by
        obtain⟨row,rest,rfl⟩:=aE6 h0;have hl0:l.length=rest.length+1:=AM
        obtain⟨y,hy0⟩:∃ y,l[0]?=some y:=⟨_,A8 AM⟩
        grind [List.getElem?_cons_zero]
       subst hs1;have hcl:=Tryz.slices_Contains_string blk off l.length cap l x w (A6 _) AM (fun j hj=>by
        obtain⟨y,hy⟩:∃ y,l[j]?=some y:=⟨_,A8 hj⟩;have h5:=hget j y hy;have h6:=hc j _ 0 _ h5 rfl;have h7:=hv j _ 0 _ h5 rfl;rw[C7,hy];generalize g j 0=z at h6 h7;cases h7
        grind)
       rw[List.take_length]at hcl;rw[←hlen];exact hcl.mono fun e w' ⟨he,hw⟩=>⟨he,hw▸Below.refl _ _⟩
   ·cases hx
  ·cases hx
 ·cases hx
end
def p75(r:Nat):Bool:=decide (r<32)||decide (126<r)

theorem bIe(x:Nat)(hx:x≤1114111)(W:World):FnGives prog 159 #[] #[encR x] (.bool (p75 x)) W:=by
 unfold FnGives;have u21:=run_underlying underlying21;have u4:=run_underlying underlying4;show Calls prog 159 (#[encR x] ++ #[]) W _;by_cases h1:x<32
 ·have e:p75 x=true:=by simp[p75,h1]
  rw[e];have h1':(x:Int)<32:=AM
  go_enter func159,ntmps159
  go_wp2
  all_goals (go_ret;exact⟨rfl,0,rfl⟩)
 ·by_cases h2:126<x
  ·have e:p75 x=true:=by simp[p75,h2]
   rw[e];have h1':¬(x:Int)<32:=AM
   have h2':(126:Int)<x:=AM
   go_enter func159,ntmps159
   go_wp2
   all_goals (go_ret;exact⟨rfl,0,rfl⟩)
  ·have e:p75 x=false:=by simp[p75];omega
   rw[e];have h1':¬(x:Int)<32:=AM
   have h2':¬(126:Int)<x:=AM
   go_enter func159,ntmps159
   go_wp2
   all_goals (go_ret;exact⟨rfl,0,rfl⟩)

def sM:List UInt8→Bool
 | []=>false
 | b::r=>decide (b.toNat<32)||(decide (126<b.toNat)||sM r)
theorem aMA(s:ByteArray)(pos:Nat)(h:128≤(s.get! pos).toNat):126<(Utf8.decode s pos).1:=by
 have h0:¬(s.get! (pos+0)).toNat<128:=by
  grind
 unfold Utf8.decode;dsimp only;rw[if_neg h0];split
 ·split
  ·omega
  ·decide
 ·split
  ·split
   ·grind
   ·decide
  ·split
   ·split
    ·grind
    ·decide
   ·decide
theorem aMz(s:ByteArray)(pos:Nat)(h:(s.get! pos).toNat<128):Utf8.decode s pos=((s.get! pos).toNat,1):=by
 have h0:(s.get! (pos+0)).toNat<128:=h;unfold Utf8.decode
 grind
theorem aPN{s:ByteArray}{pos:Nat}{b:UInt8}{l:List UInt8}(h:s.data.toList.drop pos=b::l):s.get! pos=b∧pos<s.size∧s.data.toList.drop (pos+1)=l:=by
 have hlt:pos<s.data.toList.length:=by
  grind [List.drop_eq_nil_of_le]
 have hsz:s.size=s.data.toList.length:=by rfl
 rw[aB3 hlt]at h;simp only[aD5]at h;refine⟨?_,by omega,h.2⟩;rw[←h.1];have:pos<s.data.size:=AM
 show s.data[pos]! = _
 grind
theorem aKV(s:ByteArray):∀(l:List UInt8)(f pos:Nat),s.data.toList.drop pos=l→l.length≤f→decide (0≤Lib.idxFuncFrom p75 true s f pos)=sM l
 | [],f,pos,h,hf=>by
   have hsz:s.size=s.data.toList.length:=by rfl
   grind [Lib.idxFuncFrom_end,sM]
 | b::l,0,pos,h,hf=>by simp at hf
 | b::l,f+1,pos,h,hf=>by
   obtain⟨h1,h2,h3⟩:=aPN h;unfold Lib.idxFuncFrom;rw[if_pos h2];by_cases hb:b.toNat<128
   ·rw[aMz s pos (by grind),h1]
    dsimp only;by_cases hp:p75 b.toNat=true;·grind [p75,sM]
    ·rw[if_neg hp,aKV s l f (pos+1) h3 (by grind)]
     grind [sM,p75]
   ·have hd:=aMA s pos (by grind)
    grind [p75,sM]

section
variable{D:Nat→Option XFn}{Y:Nat→Option YI}{r:Nat→Option Nat}{h:XH}{H:Hp}{B:Base}
def aKH:List AV→XH→Option (AV×XH):=fun xs h=>match xs with
 | [.str s,.fn (.func 159) [] []]=>some (.bool (sM s.data.toList),h)
 | _=>none
theorem aTY:jX D 158 aKH:=by
 intro B Y r h H xs ys v h' sh hr hx;unfold aKH at hx;split at hx
 ·rename_i s
  cases hx;obtain⟨a,as1,rfl,h1,h2⟩:=hr.inv;obtain⟨b,as2,rfl,h3,h4⟩:=h2.inv;rw[dB h1,h4.nil_inv];have hb:b = .fn (.func 159) [] []:=by
   cases h3 with
   | fn _ _ ys _ vs _ hl1 _ hl2 _ =>
     grind
  rw[hb];refine FnW.shelf (r:=fun _=>.bool (sM s.data.toList)) (fun vs w=>call158 vs w) (fun F w vs=>.bool _) (fun F w vs hl ha=>?_) ⟨r,DL.Sub.refl r,sh,.bool _⟩;obtain⟨v1,vs1,rfl,k1,k2⟩:=ha.cons1;obtain⟨v2,vs2,rfl,k3,k4⟩:=k2.cons1;rw[k4.nil1];cases k1;cases k3 with
  | fn _ _ _ fv cv hl1 hl2 _ _ =>
    have e1:fv = #[]:=by
     grind
    have e2:cv = #[]:=by
     grind
    rw[e1,e2];have hc:=Tryz.strings_ContainsFunc_runes 159 #[] (fun vs w=>call159 vs w) p75 s w (fun W x hx _=>bIe x hx W);have he:decide (0≤Lib.idxFunc p75 true s)=sM s.data.toList:=aKV s s.data.toList s.size 0 rfl (by simp_all)
    grind
 ·cases hx
end
end
section
open Go Go.DL Go.Proofs.Tryz

noncomputable def ops56:Array Oper:=match f22.body with
 | some (.seq (.region _ ops _) _)=>ops
 | _ => #[]
noncomputable def rest56:Code:=match f22.body with
 | some (.seq (.region _ _ _) c)=>c
 | _=>.skip
theorem aXp:f22.body=some (.seq (.region 0 ops56 false) rest56):=rfl
theorem aVW:∃ o,ops56[0]?=some o∧o.dst=some 4∧o.guard=none∧o.op = .call { callee:=.builtin .recover,args := #[],argTypes := #[] }:=⟨_,rfl,rfl,rfl,rfl⟩
theorem aVV:∃ o,ops56[1]?=some o∧o.dst=some 5∧o.guard=none∧o.op = .typeAssert (.tmp 4) 20 84 true:=⟨_,rfl,rfl,rfl,rfl⟩
def nQ:List DOper:=[⟨0,some 3,.mv (.t 5),none⟩,⟨0,some 6,.ext (.t 3) 0,none⟩,⟨0,some 7,.ext (.t 3) 1,none⟩,⟨0,some 1,.alloc [.int .i64 0],none⟩,⟨0,none,.store 1 (.t 1) (.t 6) [],none⟩,⟨0,some 2,.mv (.t 7),none⟩]
def xU:List DOper:=[⟨0,some 8,.mv (.t 2),none⟩]
def vY:List DOper:=[⟨0,some 9,.fld 0 (.t 1),none⟩,⟨0,some 10,.load false 1 (.t 9),none⟩,⟨0,some 11,.callf false (.c (.fn (.func 23) [] [])) [.t 10] [],none⟩,
 ⟨0,some 12,.bin .add (.c (.str ⟨#[110,111,32]⟩)) (.t 11),none⟩,⟨0,none,.store 1 (.t 0) (.t 12) [],none⟩]
noncomputable def ops56m:Array Oper:=match f22.body with
 | some (.seq _ (.seq (.region _ ops _) _))=>ops
 | _ => #[]
noncomputable def ops56l:Array Oper:=match f22.body with
 | some (.seq _ (.seq _ (.cond _ (.region _ ops _) _)))=>ops
 | _ => #[]
theorem aLX:rest56 = .seq (.region 1 ops56m false) (.cond (.tmp 8) (.region 2 ops56l false) .skip):=rfl
theorem aRX:((ops56.toList.drop 2).mapM (aFw prog ops56))=some nQ:=by kernel_rfl
theorem aXd:sK prog 13 ops56m false=some xU:=by kernel_rfl
theorem aSY:sK prog 13 ops56l false=some vY:=by kernel_rfl
theorem aVn:ops56.size=8:=rfl
theorem aZQ:f22.results = #[]:=rfl
theorem bAs:f22.ntmps=13:=rfl

noncomputable def code21:Code:=match f6.body with
 | some (.seq _ (.seq _ c))=>c
 | _=>.skip
noncomputable def r21_0:Array Oper:=match f6.body with
 | some (.seq (.region _ ops _) _)=>ops
 | _ => #[]
noncomputable def r21_1:Array Oper:=match f6.body with
 | some (.seq _ (.seq (.region _ ops _) _))=>ops
 | _ => #[]
theorem aXq:f6.body=some (.seq (.region 0 r21_0 false) (.seq (.region 1 r21_1 false) code21)):=rfl
theorem bAe:sK prog 41 r21_0 false=some [⟨0,some 4,.alloc [.str ⟨#[]⟩],none⟩]:=by kernel_rfl
theorem bAx:∃ o,r21_1[0]?=some o∧aFw prog r21_1 o=some ⟨0,some 7,.mkf (.func 22) [] [.t 4],none⟩:=⟨_,rfl,by kernel_rfl⟩
theorem bIi:∃ o,r21_1[1]?=some o∧o.dst=none∧o.guard=none∧o.op = .defer { callee:=.value (.tmp 7),args := #[],argTypes := #[] }:=⟨_,rfl,rfl,rfl,rfl⟩
theorem bEF:r21_1.size=2:=rfl
theorem bAt:f6.ntmps=41:=rfl
theorem aZR:f6.results.toList.mapM (aBD prog)=some [(4,some (false,1))]:=by kernel_rfl

section
variable{D:Nat→Option XFn}{B:Base}{Y:Nat→Option YI}{r:Nat→Option Nat}{h:XH}{H:Hp}{F:Nat→Prop}{w:World}

theorem aGN:∀(j:Nat)(d:DOper),nQ[j]?=some d→Reads prog ops56 (2+j) d:=by
 intro j d hj;obtain⟨h1,h2⟩:=aAL aRX
 grind [oN]
theorem aMk:∀ d∈nQ,aDN 13 d:=by
 intro d hd;simp only[nQ,B5,F9,AAg]at hd;rcases hd with rfl|rfl|rfl|rfl|rfl|rfl<;>exact⟨by grind,rfl⟩

theorem aVa{run:eA}{runY:fA}(hf:FnS prog B D Y run)(hy:YS prog B D Y runY)(hm:prog.follows .mixedOrders=true)(hB:B.Up F w)(st:St F w H)(sh:SH D Y r h H){c o b:Nat}(hrc:r c=some b)
 {i:aQO} (hi1:i.hops=nQ++xU) (hi2:i.hlast=vY) (hi3:i.is=8) {v v':AV} {t:Bool} (hv:Rn D Y r v v') {h3:XH} (hx:xF i run runY (.pt c o) v t h=some h3)
 {x vv:Value} (hta:(Instr.typeAssert x 20 84 true).run prog w = .ok (.tuple #[vv,.bool t]) w) (hvv:Rv F w v' vv) {cs:List Frame} {Q:Exit→Act→List Frame→World→Prop} {a:Act} (ha:a.tmps.size=13) (hdf:a.defers=[])
 (ha4:a.eval (.tmp 4)=x) (ha0:a.tmps.getD 0 undef = .pointer (some ⟨b,o,none⟩)) (gi:GI F w)
 (hQ:∀ a' F' w' H' r',a'.defers=[]→Ext F w H F' w' H'→St F' w' H'→Sub r r'→SH D Y r' h3 H'→Q .normal a' cs w') :
 wpOpsIn Fence.wide 0 prog ops56 (fun e a w=>Exit.thenS (rest56.wpSIn Fence.wide 0 prog Q) Q e a cs w) (List.range' 1 7) a w:=by
 obtain⟨o1,g1,g2,g3,g4⟩:=aVV;rw[aB1,wpOpsIn_cons];unfold wpOpIn;simp only[g1];have hw:Region.wanted o1 (yielded ops56 a.tmps)=true:=by unfold Region.wanted;rw[g3]
 rw[if_pos hw];refine⟨fun _ _=>trivial,?_⟩;have hs:(o1.semAt Fence.wide.round a.eval).run prog w = .ok (.value (.tuple #[vv,.bool t])) w:=by
  rw[Oper.semAt_eq _ _ _ (by grind)];simp[execOp,g4,ha4,hta]
 rw[hs,Oper.uponIn_value,g2];have hsr:SR D Y r (aBq (.pt c o) v t) h (aBq (.pt b o) v' t) H:=⟨sh,fun j=>by
  unfold aBq;split;·exact .pt _ _ _ hrc
  ·split
   ·exact .tup _ _ rfl fun i x y hx hy=>by
     match i with
     | 0=>grind
     | 1=>simp at hx hy;subst hx hy;exact .bool _
     | k+2=>simp at hx
   ·exact .any _⟩
 have hre:RE F w (aBq (.pt b o) v' t) (a.put (some 5) (.tuple #[vv,.bool t])):=⟨fun k=>by
  unfold aBq;have hsz5:5<a.tmps.size:=AM
  split
  ·rename_i hk;subst hk
   simp only[Act.put,E8,H7]at ha0 ⊢;simp only[show ¬(5=0) by omega,AAd];rw[ha0];exact .pt _ _
  ·split
   ·rename_i hk;subst hk
    simp only[Act.put,E8,H7,AAe,hsz5,G7];exact .tup _ _ rfl fun i x y hx hy=>by
     match i with
     | 0=>grind
     | 1=>simp at hx hy;subst hx hy;exact .bool _
     | k+2=>simp at hx
   ·exact .any _,gi⟩
 unfold xF at hx;split at hx
 ·rename_i e1 h1 hx1
  rw[hi1]at hx1;have R:=aLU (lD (P:=prog) (B:=B) hf hy (nQ++xU) r _ h _ H e1 h1 (fun env' H'=>∃ r',Sub r r'∧SR D Y r' e1 h1 env' H') rfl hsr hx1 (fun r' env' H' hs sr'=>⟨r',hs,sr'⟩));refine aJj (r:=none) (B:=B) (N:=13) nQ 2 aGN aMk F w H _ _ (by simp_all) hB st hre R ?_;intro a3 F3 w3 env3 H3 s1 s2 s3 s4 s5 s6;show rest56.wpSIn Fence.wide 0 prog Q a3 cs w3;rw[aLX];have hB3:=hB.step st s3;refine wpSIn_seq (wpSIn_of_wpIn rfl (qO (B:=B) (r:=none) (F:=F3) (H:=H3) (env:=env3) (N:=13) (draw:=false) hm aXd s1 hB3 s4 s5 s6 ?_));rintro a4 F4 w4 env4 H4 q1 q2 q3 q4 q5 ⟨r4,q6,q7⟩;show (Code.cond (.tmp 8) (.region 2 ops56l false) .skip).wpSIn Fence.wide 0 prog Q a4 cs w4;have hd4:a4.defers=[]:=by simp_all
  have E4:=s3.trans q3;have h8:=q7.re i.is;rw[hi3]at h8 hx;split at hx
  ·rename_i h8t
   rw[h8t]at h8;have hev:a4.eval (.tmp 8) = .bool true:=by
    have:=q5.rv 8;rw[eW h8]at this;show a4.tmps.getD 8 undef=_;generalize a4.tmps.getD 8 undef=z at this;cases this;rfl
   refine wpSIn_cond (t:=true) hev ?_;simp only[A3]at hx;obtain⟨⟨e5,h5⟩,hx5,rfl⟩:=hx;rw[hi2]at hx5
   refine wpSIn_of_wpIn rfl (qO (B:=B) (r:=none) (F:=F4) (H:=H4) (env:=env4) (N:=13) (draw:=false) hm aSY q1 (hB3.step s4 q3) q4 q5
    (lD (P:=prog) (B:=B) hf hy vY r4 _ h1 _ H4 e5 h5 (fun env' H'=>∃ r',Sub r r'∧SR D Y r' e5 h5 env' H') rfl q7 hx5 (fun r' env' H' hs sr'=>⟨r',q6.trans hs,sr'⟩)) ?_)
   rintro a5 F5 w5 env5 H5 p1 p2 p3 p4 p5 ⟨r5,p6,p7⟩;exact hQ a5 F5 w5 H5 r5 (by grind) (E4.trans p3) p4 p6 p7.sh
  ·rename_i h8t
   rw[h8t]at h8;simp only[oSI]at hx;subst hx;have hev:a4.eval (.tmp 8) = .bool false:=by
    have:=q5.rv 8;rw[eW h8]at this;show a4.tmps.getD 8 undef=_;generalize a4.tmps.getD 8 undef=z at this;cases this;rfl
   refine wpSIn_cond (t:=false) hev ?_;exact wpSIn_of_wpIn rfl (wpIn_skip (hQ a4 F4 w4 H4 r4 hd4 E4 q4 q6 q7.sh))
  ·simp at hx
 ·simp at hx

theorem aIH(vv:Value):(Instr.typeAssert (.iface 84 vv) 20 84 true).run prog w = .ok (.tuple #[vv,.bool true]) w:=by
 rfl
theorem aKa:(Instr.typeAssert .nilIface 20 84 true).run prog w = .ok (.tuple #[.agg #[.int .i64 0],.bool false]) w:=by
 rfl

theorem aWB{run:eA}{runY:fA}(hf:FnS prog B D Y run)(hy:YS prog B D Y runY)(hm:prog.follows .mixedOrders=true)(hB:B.Up F w)(st:St F w H)(sh:SH D Y r h H){c o b:Nat}(hrc:r c=some b)
 {i:aQO} (hi1:i.hops=nQ++xU) (hi2:i.hlast=vY) (hi3:i.is=8) {v v':AV} {t:Bool} (hv:Rn D Y r v v') {h3:XH} (hx:xF i run runY (.pt c o) v t h=some h3) {u:FrameMode} {R:Ending→FrameMode→World→Prop} {cval:Value}
 (hu:(t=true∧u = .panicking (pnc cval)∧Rv F w (.ifc 84 v') cval)∨(t=false∧u = .returning∧v' = .agg [.int .i64 0]))
 (hR:∀ F' w' H' r' u',settle u' = .returning→Ext F w H F' w' H'→St F' w' H'→Sub r r'→SH D Y r' h3 H'→R (.returned (.tuple #[])) u' w') :
 CallsDIn Fence.wide 0 prog 22 #[.pointer (some ⟨b,o,none⟩)] u w R:=by
 refine callsDIn_of_wpSIn func22 aXp trivial fun c₀ cs hc0=>?_;rw[bAs];obtain⟨o0,g1,g2,g3,g4⟩:=aVW;refine wpSIn_seq (aEd g1 g3 (fun _ _=>trivial) (by simp[execOp,resolve,g4,invoke,builtin]) rfl ?_)
 have fin:∀(x vv:Value)(cs':List Frame)(u':FrameMode),cs'={ c₀ with mode:=u' }::cs→settle u' = .returning→(Instr.typeAssert x 20 84 true).run prog w = .ok (.tuple #[vv,.bool t]) w→Rv F w v' vv →
  wpOpsIn Fence.wide 0 prog ops56 (fun e a w=>Exit.thenS (rest56.wpSIn Fence.wide 0 prog (bodyPostS prog f22 c₀ cs R)) (bodyPostS prog f22 c₀ cs R) e a cs' w) (List.range' 1 (ops56.size-1))
   (Act.put { tmps := #[.pointer (some ⟨b,o,none⟩)]++Array.replicate (13 - #[Value.pointer (some ⟨b,o,none⟩)].size) undef,defers:=[] } o0.dst x) w:=by
  intro x vv cs' u' hcs hset hta hvv;rw[g2,aVn];refine aVa hf hy hm hB st sh hrc hi1 hi2 hi3 hv hx hta hvv (by simp[Act.put]) rfl (by simp[Act.put,Act.eval]) (by simp[Act.put]) (B.gi.up hB) ?_;intro a' F' w' H' r' k1 k2 k3 k4 k5;refine⟨k1,u',hcs,.tuple #[],?_,hR F' w' H' r' u' hset k2 k3 k4 k5⟩;simp[results,aZQ]
 rcases hu with ⟨rfl,rfl,hc⟩|⟨rfl,rfl,rfl⟩
 ·cases hc with
  | ifc _ _ vv hvv =>
  have hrec:recoverD (c₀::cs)=some (.iface 84 vv,{ c₀ with mode:=.panicking [{ v:=.iface 84 vv,recovered:=true }] }::cs):=by
   simp[recoverD,hc0,pnc]
  rw[hrec];exact fin _ vv _ _ rfl rfl (aIH vv) hvv
 ·have hrec:recoverD (c₀::cs)=none:=by simp[recoverD,hc0]
  rw[hrec];exact fin _ (.agg #[.int .i64 0]) _ .returning (by rw[←hc0]) rfl aKa (.agg _ _ rfl (fun i v hv=>by
   match i with
   | 0=>simp at hv;subst hv;rfl
   | k+1=>simp at hv) (fun i x y hx hy=>by
   match i with
   | 0=>simp at hx hy;subst hx hy;exact .int _ _
   | k+1=>simp at hx))

def b21:XCode:=(.seq (.reg [(0,false)] false [⟨0,(some 8),(.mv (.t 0)),none⟩,⟨0,(some 9),(.callf false (.c (.fn (.func 25) [] [])) [(.t 8)] []),none⟩,⟨0,(some 10),
 (.not (.t 9)),none⟩,⟨0,(some 11),(.callf false (.c (.fn (.func 24) [] [])) [(.t 10),(.c (.int .i64 9))] []),none⟩]) (.seq (.reg [(1,false)] false
 [⟨0,(some 12),(.mv (.t 1)),none⟩,⟨0,(some 13),(.callf false (.c (.fn (.func 26) [] [])) [(.t 12)] []),none⟩,⟨0,(some 5),(.alloc [(.str ⟨#[]⟩),
 .nilsl,.nilsl]),none⟩,⟨0,none,(.store 3 (.t 5) (.t 13) []),none⟩]) (.seq (.reg [(0,false),(5,true)] false [⟨0,(some 14),(.mv (.t 0)),none⟩,⟨0,
 (some 15),(.load true 3 (.t 5)),none⟩,⟨0,(some 16),(.callf false (.c (.fn (.func 27) [] [])) [(.t 14),(.t 15)] []),none⟩,⟨0,(some 6),(.mv (.t
 16)),none⟩]) (.seq (.seq (.reg [] false [⟨0,(some 17),(.mv (.t 6)),none⟩,⟨0,(some 18),(.eqn 2 false (.t 17) (.c .nilfn)),none⟩]) (.cond (.t 18)
 (.seq (.reg [(0,false),(5,true)] false [⟨0,(some 19),(.mv (.t 0)),none⟩,⟨0,(some 20),(.load true 3 (.t 5)),none⟩,⟨0,(some 21),(.callf false (.c
 (.fn (.func 28) [] [])) [(.t 19),(.t 20)] []),none⟩,⟨0,none,(.store 1 (.t 4) (.t 21) []),none⟩]) .ret) .skip)) (.seq (.reg [] false [⟨0,(some 22),
 (.mv (.t 0)),none⟩,⟨0,(some 23),(.nilck (.t 22)),none⟩,⟨0,(some 24),(.fld 6 (.t 23)),none⟩,⟨0,(some 25),(.load false 1 (.t 24)),none⟩,⟨0,
 (some 26),(.len false (.t 25)),none⟩,⟨0,(some 27),(.bin .lss (.t 26) (.c (.int .i64 300))),none⟩,⟨0,(some 28),(.callf false (.c (.fn (.func 24) []
 [])) [(.t 27),(.c (.int .i64 15))] []),none⟩]) (.seq (.reg [] false [⟨0,(some 29),(.mv (.t 6)),none⟩,⟨0,(some 30),(.callf false (.t 29) [] []),
 none⟩]) (.seq (.reg [(1,false)] false [⟨0,(some 31),(.mv (.t 0)),none⟩,⟨0,(some 32),(.mv (.t 0)),none⟩,⟨0,(some 33),(.nilck (.t 32)),none⟩,⟨0,
 (some 34),(.fld 6 (.t 33)),none⟩,⟨0,(some 35),(.load false 1 (.t 34)),none⟩,⟨0,(some 36),(.mv (.t 1)),none⟩,⟨0,(some 37),(.bslice 1 1 [(.str
 ⟨#[]⟩)] [(0,(1,(.t 36)))]),none⟩,⟨0,(some 38),(.app 1 16 (.t 35) (.t 37)),none⟩,⟨0,(some 39),(.nilck (.t 31)),none⟩,⟨0,(some 40),(.fld 6 (.t
 39)),none⟩,⟨0,none,(.store 1 (.t 40) (.t 38) []),none⟩]) (.seq (.reg [] false [⟨0,none,(.store 1 (.t 4) (.c (.str ⟨#[111,107]⟩)) []),none⟩])
 .ret))))))))
def saySay:aQO:=⟨41,[(4,some (false,1))],[⟨0,some 4,.alloc [.str ⟨#[]⟩],none⟩],4,7,b21,110,.agg [.int .i64 0],nQ++xU,8,vY⟩
theorem aFy:bR prog 41 code21=some b21.erase:=by kernel_rfl
theorem bAr:nA b21=true:=by kernel_rfl
theorem bAu:uG b21=true:=by kernel_rfl

end
noncomputable def m58a:Array Oper:=match f24.body with
 | some (.seq (.region _ ops _) _)=>ops
 | _ => #[]
noncomputable def m58b:Array Oper:=match f24.body with
 | some (.seq _ (.cond _ (.region _ ops _) _))=>ops
 | _ => #[]
theorem aXo:f24.body=some (.seq (.region 0 m58a false) (.cond (.tmp 5) (.region 1 m58b false) .skip)):=rfl
def aWx:List DOper:=[⟨0,some 4,.mv (.t 0),none⟩,⟨0,some 5,.not (.t 4),none⟩]
def l58b:List DOper:=[⟨0,some 6,.mv (.t 1),none⟩,⟨0,some 7,.build [.int .i64 0] [(0,(1,.t 6))],none⟩,⟨0,some 8,.mkifc 84 (.t 7),none⟩]
theorem aQz:sK prog 9 m58a false=some aWx:=by kernel_rfl
theorem aQy:((m58b.toList.take 3).mapM (aFw prog m58b))=some l58b:=by kernel_rfl
theorem p58:∃ o,m58b[3]?=some o∧o.guard=none∧o.op = .panic (.tmp 8):=⟨_,rfl,rfl,rfl⟩
theorem s58:m58b.size=4:=rfl
section
variable{D:Nat→Option XFn}{B:Base}{Y:Nat→Option YI}{r:Nat→Option Nat}{h:XH}{H:Hp}
def aKN:eA:=fun _ _ _=>none
def aGw:fA:=fun _ _ _=>none
theorem aHR:FnS prog B D Y aKN:=fun _ _ _ _ _ _ _ _ _ _ hx=>by simp[aKN]at hx
theorem aFd:YS prog B D Y aGw:=fun _ _ _ _ _ _ _ _ _ _ _ _ hx=>by simp[aGw]at hx

theorem bDD(k:IntKind)(n:Int):∃ e1,fI aKN aGw aWx (aV [.bool false,.int k n]) h=some (e1,h)∧e1 5 = .bool true∧e1 1 = .int k n:=⟨_,rfl,rfl,rfl⟩
theorem bDC{e:aH}{k:IntKind}{n:Int}(he:e 1 = .int k n):∃ e1,fI aKN aGw l58b e h=some (e1,h)∧e1 8 = .ifc 84 (.agg [.int k n]):=by
 refine⟨aX (aX (aX e (some 6) (.int k n)) (some 7) (.agg [.int k n])) (some 8) (.ifc 84 (.agg [.int k n])),?_,rfl⟩;have h0:aL e (.t 1) = .int k n:=he;simp only[l58b,fI,gd,cS,aD,h0,E5];rfl

theorem aLY{P:Program}{ops:Array Oper}{r:Option Nat}{N:Nat}{Q:Exit→Act→World→Prop}{tl:List Nat}{K:aH→Hp→Prop}:∀(l:List DOper)(i:Nat),(∀ j d,l[j]?=some d→Reads P ops (i+j) d)→(∀ d∈l,aDN N d) →
 ∀(F:Nat→Prop)(w:World)(H:Hp)(env:aH)(a:Act),a.tmps.size=N→B.Up F w→St F w H→RE F w env a→RS B P l K env H→DL.Ends N a F w H K (fun a' w'=>wpOpsIn (FW r) 0 P ops Q tl a' w') →
 wpOpsIn (FW r) 0 P ops Q (List.range' i l.length++tl) a w:=by
 intro l;induction l with
 | nil=>intro i _ _ F w H env a hsz hB st re h hQ;exact hQ a F w env H hsz rfl (Ext.refl _ _ _) st re h
 | cons d l ih =>
   intro i hr hd F w H env a hsz hB st re h hQ;rw[D9,aB1,H9,wpOpsIn_cons];refine aCk (hr 0 d rfl) (hd d (by simp)).2 (hd d (by simp)).1 hsz hB st re h ?_;intro a' F' w' env' H' h1 h2 h3 h4 h5 h6;exact ih (i+1) (fun j d' hj=>by have:=hr (j+1) d' (by grind);grind) (fun d' hd'=>hd d' (by simp[hd'])) F' w' H' env' a' h1 (hB.step st h3) h4 h5 h6 (hQ.step h2 h3)

theorem bEZ(hm:prog.follows .mixedOrders=true)(k:IntKind)(n:Int){as':List AV}(sh:SH D Y r h H)(hA:RnL D Y r [.bool false,.int k n] as'):FnP B prog 24 as' H (fH D Y r (.ifc 84 (.agg [.int k n])) h):=by
 have hl:as'.length=2:=by simp_all [RnL]
 refine⟨fun vs w=>call24 vs w,fun F w vs hB st hAr=>?_⟩;have hsz:(vs++Array.replicate (f24.ntmps-vs.size) undef).size=9:=by
  have h1:=hAr.1
  simp_all
 have hre:=aBV (N:=9) (nt:=f24.ntmps-vs.size) hB hAr;obtain⟨e1,hx1,he5,he1⟩:=bDD (h:=h) k n;have RS0:=lD (P:=prog) (B:=B) aHR aFd aWx r _ h _ H e1 h (fun env' H'=>∃ r',DL.Sub r r'∧SR D Y r' e1 h env' H') rfl ⟨sh,nE hA⟩ hx1 (fun r' env' H' hs sr'=>⟨r',hs,sr'⟩);refine callsIn_of_wp_marks func24 aXo trivial (wpIn_seq (qO (B:=B) (r:=none) (N:=9) (draw:=false) hm aQz hsz hB st hre RS0 ?_));rintro a1 F1 w1 env1 H1 p1 p2 p3 p4 p5 ⟨r1,p6,p7⟩;show (Code.cond (.tmp 5) (.region 1 m58b false) .skip).wpIn Fence.wide 0 prog _ a1 w1;have hev:a1.eval (.tmp 5) = .bool true:=by
  have h5:=p7.re 5;rw[he5]at h5;have:=p5.rv 5;rw[eW h5]at this;show a1.tmps.getD 5 undef=_;generalize a1.tmps.getD 5 undef=z at this;cases this;rfl
 refine wpIn_cond (t:=true) hev (wpIn_region ?_);rw[s58,show List.range 4=List.range' 0 l58b.length++[3] from rfl];obtain⟨e2,hx2,he8⟩:=bDC (h:=h) he1;have dG:=lD (P:=prog) (B:=B) aHR aFd l58b r1 _ h _ H1 e2 h (fun env' H'=>∃ r',DL.Sub r r'∧SR D Y r' e2 h env' H') rfl p7 hx2 (fun r' env' H' hs sr'=>⟨r',p6.trans hs,sr'⟩);refine aLY (r:=none) (B:=B) (N:=9) l58b 0 (fun j d hj=>?_) (fun d hd=>?_) F1 w1 H1 env1 a1 p1 (hB.step st p3) p4 p5 dG ?_
 ·obtain⟨h1,h2⟩:=aAL aQy
  obtain⟨o,h3,h4⟩:=h2 j d hj;rw[M0]
  grind [oN]
 ·simp only[l58b,B5,F9,AAg]at hd
  rcases hd with rfl|rfl|rfl<;>exact⟨by grind,rfl⟩
 rintro a2 F2 w2 env2 H2 q1 q2 q3 q4 q5 ⟨r2,q6,q7⟩;obtain⟨o,g1,g2,g3⟩:=p58;rw[wpOpsIn_cons];unfold wpOpIn;simp only[g1];have hw:Region.wanted o (yielded m58b a2.tmps)=true:=by unfold Region.wanted;rw[g2]
 rw[if_pos hw];refine⟨fun _ _=>trivial,?_⟩;have h8:=q7.re 8;rw[he8]at h8;have hrv:=q5.rv 8;cases hz:env2 8<;>rw[hz]at h8<;>cases h8
 rename_i v8 h8;rw[hz]at hrv;obtain⟨cv,hcv⟩:∃ cv,a2.tmps.getD 8 undef=cv:=⟨_,rfl⟩;rw[hcv]at hrv;have hev8:a2.eval (.tmp 8)=cv:=hcv;have hrv0:=hrv;cases hrv with
 | ifc _ _ vv hvv =>
 have hsem:(o.semAt (FW none).round a2.eval).run prog w2 = .halt (.panic (.iface 84 vv)) w2:=by
  rw[Oper.semAt_eq _ _ _ (by grind)];simp[execOp,g3,hev8,Instr.panic,goPanic]
 rw[hsem,Oper.uponIn_panic];show LeavesInM Fence.wide 0 prog f24 a2.tmps _ a2.defers (.panicking _) w2;have hd2:a2.defers=[]:=by rw[q2,p2]
 rw[hd2];exact⟨.iface 84 vv,_,F2,H2,rfl,p3.trans q3,q4,hrv0,r2,q6,q7.sh,.ifc _ _ _ h8⟩
end
end
section
open Go Go.DL Go.Proofs.Tryz

def oF(f:List AV→XH→Option (AV×XH)):XFn:=⟨10,[],false,false,.skip,none,some f⟩
def bAf(n:Nat):XFn:=⟨n,[],false,false,.skip,none,some fun _ _=>none⟩
def aOT(K:Nat):Option XFn:=match K with
 | 112=>some (oF aHN)
 | 23=>some (oF aAI)
 | 35=>some (oF aHM)
 | 72=>some (oF zT)
 | 158=>some (oF aKH)
 | 139=>some (oF aCO)
 | 50=>some (oF zS)
 | 67=>some (oF aCP)
 | 75=>some (oF aGs)
 | 141=>some (oF uD)
 | 6=>some (bAf 41)
 | K=>aOS K

theorem aTT{D:Nat→Option XFn}{K:Nat}:jX D K (fun _ _=>none):=fun _ _ _ _ _ _ _ _ _ _ _ hx=>by cases hx
theorem XOk.over{D D':Nat→Option XFn}(ok:XOk prog D)(h:∀ K d,D' K=some d→(D K=some d∧d.prm=none)∨∃ n f,d=⟨n,[],false,false,.skip,none,some f⟩∧jX D' K f):XOk prog D' where
 mixed:=ok.mixed
 is K d hd hp:=by
  rcases h K d hd with ⟨h1,_⟩|⟨n,f,rfl,_⟩;·exact ok.is K d h1 hp
  ·cases hp
 prm K d f hd hp B Y _ r hh H xs ys v h' sh hr hx:=by
  rcases h K d hd with ⟨_,h2⟩|⟨n,f',rfl,h2⟩;·grind
  ·cases hp
   exact h2 B Y r hh H xs ys v h' sh hr hx
 ok K d hd:=by
  rcases h K d hd with ⟨h1,_⟩|⟨n,f,rfl,_⟩;·exact ok.ok K d h1
  ·rfl
 sites K d hd:=by
  rcases h K d hd with ⟨h1,_⟩|⟨n,f,rfl,_⟩;·exact ok.sites K d h1
  ·trivial

end
section
open Go Go.DL Go.RowKit Go.Proofs.Tryz
variable{D:Nat→Option XFn}{Y:Nat→Option YI}{r:Nat→Option Nat}{h:XH}{H:Hp}{B:Base}
def qJ(s:ByteArray):AV:=match Lib.atoiAll s.data.toList with
 | .ok v=>.tup [.int .i64 v,.nilifc]
 | Lib.NumEnd.syntax=>.tup [.int .i64 0,.ifc 245 .any]
 | .range=>.tup [.int .i64 (Lib.atoiSat s.data.toList),.ifc 245 .any]
def aCQ:List AV→XH→Option (AV×XH):=fun xs h=>match xs with
 | [.str s]=>if s.size≤100000 then some (qJ s,h) else none
 | _=>none
theorem aFK{F:Nat→Prop}{w:World}{a b:AV}{x y:Value}(h1:Rv F w a x)(h2:Rv F w b y):Rv F w (.tup [a,b]) (.tuple #[x,y]):=by
 refine .tup _ _ rfl fun i c v hc hv=>?_
 grind
theorem aFL{a b x y:AV}(h1:Rn D Y r a x)(h2:Rn D Y r b y):Rn D Y r (.tup [a,b]) (.tup [x,y]):=by
 refine .tup _ _ rfl fun i c v hc hv=>?_
 grind
theorem aTV:jX D 53 aCQ:=by
 intro B Y r h H xs ys v h' sh hr hx;unfold aCQ at hx;split at hx
 ·rename_i s
  split at hx
  ·rename_i hn
   cases hx;obtain⟨a,as1,rfl,h1,h2⟩:=hr.inv;rw[dB h1,h2.nil_inv];have hrn:Rn D Y r (qJ s) (qJ s):=by
    unfold qJ;split;·exact aFL (.int _ _) .nilifc
    ·exact aFL (.int _ _) (.ifc _ _ _ (.any _))
    ·exact aFL (.int _ _) (.ifc _ _ _ (.any _))
   refine FnW.shelfG (fun vs w=>call53 vs w) (fun F w vs gi hl ha=>?_) ⟨r,DL.Sub.refl r,sh,hrn⟩;obtain⟨b,bs,rfl,h3,h4⟩:=ha.cons1;cases h3;rw[h4.nil1];obtain⟨_,ev1,hv1,he1⟩:=gi.2.2.2 3 (by simp[aBQ]);obtain⟨_,ev2,hv2,he2⟩:=gi.2.2.2 4 (by simp[aBQ]);unfold qJ;cases hA:Lib.atoiAll s.data.toList with
   | ok v =>
     refine(Tryz.strconv_Atoi_ok s AM v hA w).mono ?_;rintro e w' ⟨rfl,hw⟩;have hbel:Below w.heap.size w w':=by
      grind [Below.refl,Lib.bytesWorld_below]
     exact⟨_,F,rfl,hbel,fun _ h=>h,fun _ h=>.inl h,fun b hb=>E6 (hl b hb) hbel.size,aFK (.int _ _) .nilifc⟩
   | range =>
     refine(Tryz.strconv_Atoi_range s AM hA ev2 w hv2 he2).mono ?_;rintro e w' ⟨N,rfl,_,_,hbel⟩;exact⟨_,F,rfl,hbel,fun _ h=>h,fun _ h=>.inl h,fun b hb=>E6 (hl b hb) hbel.size,aFK (.int _ _) (.ifc _ _ _ (.any _))⟩
   | _ =>
     refine(Tryz.strconv_Atoi_syntax s AM hA ev1 w hv1 he1).mono ?_;rintro e w' ⟨N,rfl,_,_,hbel⟩;exact⟨_,F,rfl,hbel,fun _ h=>h,fun _ h=>.inl h,fun b hb=>E6 (hl b hb) hbel.size,aFK (.int _ _) (.ifc _ _ _ (.any _))⟩
  ·cases hx
 ·cases hx
end
section
open Go Go.DL Go.Proofs.Tryz

def aB(K:Nat):Option XFn:=match K with
 | 53=>some (oF aCQ)
 | K=>aOT K
theorem aA:XOk prog aB:=by
 refine XOk.over progX_ok fun K d hd=>?_;unfold aB at hd;split at hd;·cases hd;exact .inr ⟨_,_,rfl,aTV⟩
 ·unfold aOT at hd
  split at hd;·cases hd;exact .inr ⟨_,_,rfl,aUc⟩
  ·cases hd;exact .inr ⟨_,_,rfl,aUb⟩
  ·cases hd;exact .inr ⟨_,_,rfl,aUa⟩
  ·cases hd;exact .inr ⟨_,_,rfl,aTZ⟩
  ·cases hd;exact .inr ⟨_,_,rfl,aTY⟩
  ·cases hd;exact .inr ⟨_,_,rfl,aTX⟩
  ·cases hd;exact .inr ⟨_,_,rfl,aTW⟩
  ·cases hd;exact .inr ⟨_,_,rfl,aTU⟩
  ·cases hd;exact .inr ⟨_,_,rfl,aOX⟩
  ·cases hd;exact .inr ⟨_,_,rfl,aOW⟩
  ·cases hd;exact .inr ⟨_,_,rfl,aTT⟩
  ·exact .inl ⟨hd,aVK hd⟩
theorem qX(K:Nat)(d:XFn)(hD:aB K=some d){vs:List AV}{h:XH}(hl:vs.length≤d.N:=by exact aC7 rfl)(hdf:d.dfr=none:=by rfl)(hpr:d.prm=none:=by rfl)(hg:lB K=false:=by rfl):runW aB K vs h=eX none d.res d.ownR h.length (execW aB K h.length none d.body (aV (if d.ownA then vs else lT vs)) h):=dO hD hl h hdf hpr hg
theorem qY(K:Nat)(d:XFn)(hD:aB K=some d){vs:List AV}{h:XH}(hl:vs.length≤d.N:=by exact aC7 rfl)(hdf:d.dfr=none:=by rfl)(hg:lB K=true:=by rfl)(hpr:d.prm=none:=by rfl):runW aB K vs h=aEs d.res (execW aB K h.length none d.body (aV (if d.ownA then vs else lT vs)) h):=aOr hD hl h hdf hg hpr
end
section
open Go Go.DL

def kQ(x:Nat):Nat:=(x+224)%256
def dQ(s:List Nat):List Nat:=s.take 40++List.replicate (40-s.length) 32
def vB:Nat→List Nat→Nat
 | _,[]=>0
 | i,x::r=>(i+1)*kQ x+vB (i+1) r
def yN(row:Nat)(f:List Nat):Nat:=(row+vB 0 f)%9973
def pA(c:Nat):List Nat:=[48+c/1000,48+c/100%10,48+c/10%10,48+c%10]
def jH(row:Nat)(f:List Nat):List Nat:=pA (yN row f)++(f++[10])
def eF(times:Nat):List Nat→List Nat→List Nat
 | a::f,b::o=>(32+(kQ a+times*kQ b)%95)::eF times f o
 | _,_=>[]
def bN(s:ByteArray):List Nat:=s.data.toList.map UInt8.toNat
def xC(l:List Nat):ByteArray:=⟨⟨l.map UInt8.ofNat⟩⟩
def vC(l:List Nat):AV:=.agg (l.map fun(n:Nat)=>.int .u8 (n:Int))
end
section
open Go Go.DL
abbrev U(n:Nat):AV:=.int .u8 (n:Int)
theorem ptf(p:Prop):p=True∨p=False:=by
 grind
theorem oP{α:Type}{l:List α}{i:Nat}(h:i<l.length):∃ x,l[i]?=some x:=by simp_all
theorem pL{n i:Nat}(h:i<n)(hn:n≤9223372036854775807):IntKind.i64.wrap ((i:Int)+1)=(i:Int)+1:=aE AM AM
theorem p57{xs:List AV}{h:XH}:runW aB 23 xs h=aAI xs h:=eJ rfl rfl xs h
theorem bFe{xs:List AV}{h:XH}:runW aB 141 xs h=uD xs h:=eJ rfl rfl xs h
theorem q44{vs:List AV}{h:XH}(hl:vs.length≤15):runW aB 77 vs h=eX none x77.res x77.ownR h.length (execW aB 77 h.length none x77.body (aV (if x77.ownA then vs else lT vs)) h):=dO rfl hl h rfl
theorem bEU{vs:List AV}{h:XH}(hl:vs.length≤33):runW aB 114 vs h=eX none x114.res x114.ownR h.length (execW aB 114 h.length none x114.body (aV (if x114.ownA then vs else lT vs)) h):=dO rfl hl h rfl

def bT(l:List Nat):List AV:=l.map fun(n:Nat)=>.int .u8 (n:Int)
theorem bS(l:List Nat):vC l = .agg (bT l):=rfl
theorem bE(l:List Nat):(bT l).length=l.length:=by simp[bT]
theorem aKn{l:List Nat}{i x:Nat}(h:l[i]?=some x):(bT l)[i]?=some (U x):=by simp[bT,h]
theorem bO(l:List Nat):kY (bT l)=true:=eU fun v hv=>by
 grind [jD,bT]
theorem cQ(l:List Nat):xM (bT l)=[]:=by
 induction l with
 | nil=>rfl
 | cons a l ih=>show slN _++xM (bT l)=[];rw[ih];rfl
theorem cM(l:List Nat):kB (bT l)=[]:=by
 induction l with
 | nil=>rfl
 | cons a l ih=>show kC _++kB (bT l)=[];rw[ih];rfl
theorem cL(s:Nat→Option Nat)(l:List Nat):kD s (bT l)=bT l:=by
 induction l with
 | nil=>rfl
 | cons a l ih=>show rnA s _::kD s (bT l)=_;rw[ih];rfl
theorem cR(l:List Nat):lT (bT l)=bT l:=by
 induction l with
 | nil=>rfl
 | cons a l ih=>show sQ _::lT (bT l)=_;rw[ih];rfl
theorem aIR{l:List Nat}{i x:Nat}(h:i<l.length):bG (bT l) i [.int .u8 (x:Int)]=bT (l.set i x):=by
 unfold bG bT;rw[List.map_set,I6,if_pos (by grind)];simp
theorem kI{a b:List Nat}(h:a.length=b.length):bG (bT a) 0 (bT b)=bT b:=by
 simp_all [bG,bT]
theorem gW{l:List Nat}(h:l.length=40):List.take 40 (bT l)=bT l:=C8 (by rw[bE];omega)
theorem lA{l:List Nat}(h:l.length=40):List.take 40 (List.drop 0 (bT l))=bT l:=by grind [gW]

def nf(i:Nat):List Nat:=List.replicate i 32++List.replicate (40-i) 0
theorem oZ{i:Nat}(h:i≤40):(nf i).length=40:=by simp[nf];omega
theorem aWb{i:Nat}(h:i<40):bG (bT (nf i)) i [.int .u8 32]=bT (nf (i+1)):=by
 have h1:=aIR (l:=nf i) (i:=i) (x:=32) (by grind [nf]);have h2:(nf i).set i 32=nf (i+1):=by
  unfold nf;obtain⟨k,hk⟩:∃ k,40-i=k+1:=⟨39-i,by omega⟩;have hk':40-(i+1)=k:=AM
  rw[hk,hk',H6,List.replicate_succ',aA2 _ _ (by simp)];simp
 grind
theorem iV(l:List Nat):(dQ l).length=40:=by simp[dQ];omega
theorem bIj(s:ByteArray):bG (bT (nf 40)) 0 ((s.data.toList.map fun b=>AV.int .u8 (b.toNat:Int)).take (min s.size 40))=bT (dQ (bN s)):=by
 have hs:s.size=s.data.toList.length:=by rfl
 have hn:bT (nf 40)=List.replicate 40 (U 32):=rfl;rw[hn];unfold bG dQ bN bT;rw[N9,List.map_take,aC5,List.take_zero,G6,hs];have e:((s.data.toList.map fun b=>AV.int .u8 (b.toNat:Int)).take (min s.data.toList.length 40))=(s.data.toList.map ((fun n:Nat=>AV.int .u8 (n:Int))∘UInt8.toNat)).take 40:=by
  by_cases h:s.data.toList.length≤40;·rw[aD7 h,C8 (by simp),C8 (by grind)];rfl
  ·rw[Nat.min_eq_right AM];rfl
 rw[e];congr 1;simp only[M0,aC8,A9,List.drop_replicate,List.map_replicate]
 grind
theorem cpR(s:ByteArray):aFJ 1 [some (XB.blk true (ABlk.cells true (bT (nf 0)))),some (XB.blk true (ABlk.cells true (bT (nf 40))))] (AV.sl 1 0 1 40) (AV.str s)=some (.int .i64 ((min s.size 40:Nat):Int),[some (XB.blk true (ABlk.cells true (bT (nf 0)))),some (XB.blk true (ABlk.cells true (bT (dQ (bN s)))))]):=by
 have hc:=bIj s;have l40:(bT (nf 40)).length=40:=by rfl
 unfold aFJ aBX;simp only[eT,hat,List.getD_cons_succ,aE0,AAe,l40];simp only[AAh,M0,aD0,A6,AAe,C5,aE8,List.set_cons_zero,fS,Bool.and_true];rw[hc]
theorem bAQ{i:Nat}(h:i<40):(i+1≤40)=True:=AAa
theorem w44(s:ByteArray):runW aB 77 [.str s] []=some (vC (dQ (bN s)),[]):=by
 rw[q44 (by simp)];unfold x77;dsimp only;have e0:((40:Int)<40)=False:=AAb;have l40:(bT (nf 40)).length=40:=by rfl
 have l0:(bT (nf 0)).length=40:=by rfl
 have g0:=bO (nf 0);rw[bS];sym =>
  simp[Zb,Zf,Zh,Zl,Zv,Zw,Wf,Vd,Te,Th,Ti,Tn,Tp,Tv,TX,TY,Se,Sf,Ra,Rf,Rg,Rp,e0]
  tactic =>
   unfold aTB;rw[aQ 40 (fun i=>[.str s,.pt 0 0,.pt 1 0,I (i:Nat)]) (fun i=>[some (.blk true (.cells true (bT (nf 0)))),some (.blk true (.cells true (bT (nf i))))])]
   ·have c2:=iV (bN s)
    have c4:=bE (dQ (bN s));rw[c2]at c4;have c5:=gW c2;have c6:=lA c2;have c7:=bO (dQ (bN s));have c3:=cpR s;have c8:=kI (a:=nf 0) (b:=dQ (bN s)) (by grind [oZ]);(exact lR e0 l40 l0 c3 c4 c5 c6 c7 c8 g0 cQ cM cL cR aG aG aG aG aG aG)
   ·rfl
   ·intro i hi
    have i1:((i:Int)<40)=True:=AAa;have a2:=pL (n:=40) hi AM;have n1:(bT (nf i)).length=40:=by grind [bT,nf]
    have n2:=aWb hi;have n3:=bAQ hi;(exact RS5 i1 a2 n1 n2 n3)
   ·(exact dG e0)
def wP(a b:Int):Int:=Int.tmod a b
def oV(a b:Int):Int:=Int.tdiv a b
def aOH(z:Bool)(k:IntKind)(v:Int):Option AV:=if z then none else some (.int k v)
theorem gT(k:IntKind)(v:Int):aOH false k v=some (.int k v):=rfl
theorem dM{k:IntKind}{a b:Int}:gU .rem k a k b=aOH (decide (b=0)) k (wP a b):=by
 simp[gU,aOH,wP]
theorem dN{k:IntKind}{a b:Int}:gU .quo k a k b=aOH (decide (b=0)) k (k.wrap (oV a b)):=by
 simp[gU,aOH,oV]
theorem gY(a b:Nat):wP (a:Int) (b:Int)=((a%b:Nat):Int):=by rfl

theorem aGW(x:Nat):kQ x<256:=I3 _ (by decide)
theorem aQm{x:Nat}(h:x<256):IntKind.u8.wrap ((x:Int)-32)=(kQ x:Int):=by
 unfold kQ;simp[IntKind.wrap,IntKind.bits,IntKind.signed];omega
theorem aFB(x:Nat):∀(l:List Nat)(k:Nat),vB k (l++[x])=vB k l+(k+l.length+1)*kQ x
 | [],k=>by simp[vB]
 | a::l,k=>by
   rw[H9,vB,aFB x l (k+1),vB,D9];rw[show k+1+l.length+1=k+(l.length+1)+1 by omega];omega
theorem aLo:∀(l:List Nat)(k:Nat),vB k l≤l.length*((k+l.length)*255)
 | [],k=>by simp[vB]
 | a::l,k=>by
   have h1:=aLo l (k+1);have h2:=aGW a;rw[vB,D9];have h3:(k+1)*kQ a≤(k+(l.length+1))*255:=N8 AM AM;have h4:k+1+l.length=k+(l.length+1):=AM
   rw[h4]at h1;rw[aF3 l.length 1];omega
def aAy(row:Nat)(f:List Nat)(i:Nat):Nat:=row+vB 0 (f.take i)
theorem bDo(row:Nat)(f:List Nat):aAy row f 0=row:=by rfl
theorem bDn{row:Nat}{f:List Nat}{i x:Nat}(h:f[i]?=some x):aAy row f (i+1)=aAy row f i+(i+1)*kQ x:=by
 grind [List.take_add_one,aFB,aAy]
theorem aXz{row:Nat}{f:List Nat}(hf:f.length=40)(i:Nat):aAy row f i≤row+408000:=by
 have h:=aLo (f.take i) 0;have h1:(f.take i).length≤40:=by grind
 have h2:(f.take i).length*((0+(f.take i).length)*255)≤40*(40*255):=N8 h1 (N8 AM (A6 _));unfold aAy;omega
theorem aXA{row:Nat}{f:List Nat}(hf:f.length=40):aAy row f 40%9973=yN row f:=by
 grind [aAy,yN]

theorem aXw(l1 l2:List UInt8):(⟨⟨l1⟩⟩:ByteArray)++⟨⟨l2⟩⟩=⟨⟨l1++l2⟩⟩:=by
 rfl
theorem tF{a b:ByteArray}(h:a.size+b.size≤1000000):aY BinOp.add a b=some (.str (a++b)):=by
 have e:IntKind.i64.max=9223372036854775807:=by decide
 grind [aY]
theorem yV(l:List UInt8):(⟨⟨l⟩⟩:ByteArray).size=l.length:=rfl
def aJO(c:Nat):ByteArray:=xC (pA c)
theorem aSU{c:Nat}(h:c<9973):1≤(Lib.itoa (c:Int)).length∧(Lib.itoa (c:Int)).length≤4∧Lib.repeatL [48] (4-(Lib.itoa (c:Int)).length)++Lib.itoa (c:Int)=(pA c).map UInt8.ofNat:=by
 have e:Lib.itoa (c:Int)=Lib.decDigits c:=by
  rfl
 rw[e];by_cases h1:c<10
 ·rw[Lib.decDigits_one h1]
  refine⟨by simp,by simp,?_⟩;have:pA c=[48,48,48,48+c]:=by simp[pA];omega
  rw[this];rfl
 ·by_cases h2:c<100
  ·rw[Lib.decDigits_two h1 h2]
   refine⟨by simp,by simp,?_⟩;have:pA c=[48,48,48+c/10,48+c%10]:=by simp[pA];omega
   rw[this];rfl
  ·have s3:∀{m:Nat},¬m<10→Lib.decDigits m=Lib.decDigits (m/10)++[UInt8.ofNat (48+m%10)]:=fun {m} hm=>by
    conv=>lhs;rw[Lib.decDigits,dif_neg hm]
   by_cases h3:c<1000
   ·rw[s3 h1,Lib.decDigits_two AM AM]
    refine⟨by simp,by simp,?_⟩;have:pA c=[48,48+c/10/10,48+c/10%10,48+c%10]:=by simp[pA];omega
    rw[this];rfl
   ·rw[s3 h1,s3 AM,Lib.decDigits_two AM AM]
    refine⟨by simp,by simp,?_⟩;have:pA c=[48+c/10/10/10,48+c/10/10%10,48+c/10%10,48+c%10]:=by simp[pA];omega
    rw[this];rfl

theorem w57{c:Nat}(h:c<9973):runW aB 23 [I (c:Int)] []=some (.str ⟨⟨Lib.itoa (c:Int)⟩⟩,[]):=by
 rw[p57];unfold aAI;grind
theorem bEm{d:Nat}(h:d≤4):runW aB 141 [.str ⟨#[48]⟩,I (d:Int)] []=some (.str ⟨⟨Lib.repeatL [48] d⟩⟩,[]):=by
 rw[bFe];unfold uD;dsimp only;rw[if_pos (by refine⟨by omega,by omega,by decide⟩)];simp

theorem bEs{f:List Nat}{row:Nat}(hf:f.length=40)(hb:∀(i x:Nat),f[i]?=some x→x<256)(hrow:row≤1000000):runW aB 114 [vC f,I (row:Int)] []=some (.str (aJO (yN row f)),[]):=by
 rw[bEU (by simp)];unfold x114;dsimp only;have e0:((40:Int)<40)=False:=AAb;have lf:=bE f;rw[hf]at lf;have gf:=bO f;rw[bS];have t1:=gW hf;have t2:=lA hf;sym =>
  simp[dM,dN,gT,Za,Zb,Zf,Zh,Zl,Zm,Zo,Zv,Zz,ZU,Wi,Vb,Ve,Vs,V3,V4,V5,VB,UV,Te,Ti,Tp,Se,Sf,Sw,Sx,SF,SG,SK,SQ,Ra,Rf,Rg,Ro,Rp,e0,lf,gf,t1,t2,cQ,cM,cL,cR]
  tactic =>
   unfold aNi;rw[aQ 40 (fun i=>[I (aAy row f i:Nat),.agg (bT f),I (i:Nat)]) (fun _=>[])]
   ·have hc:yN row f<9973:=I3 _ (by decide)
    have c1:wP ((aAy row f 40:Nat):Int) 9973=((yN row f:Nat):Int):=by grind [aXA,gY]
    have c2:=w57 hc;obtain⟨d1,d2,d3⟩:=aSU hc;have c3:=bEm (d:=4-(Lib.itoa ((yN row f:Nat):Int)).length) AM;have c4:aJO (yN row f)=(⟨⟨Lib.repeatL [48] (4-(Lib.itoa ((yN row f:Nat):Int)).length)⟩⟩:ByteArray)++⟨⟨Lib.itoa ((yN row f:Nat):Int)⟩⟩:=by
     rw[aXw,d3];rfl
    rw[c4];have c5:(⟨⟨Lib.itoa ((yN row f:Nat):Int)⟩⟩:ByteArray).size=(Lib.itoa ((yN row f:Nat):Int)).length:=rfl;have c6:IntKind.i64.wrap (4-((Lib.itoa ((yN row f:Nat):Int)).length:Int))=((4-(Lib.itoa ((yN row f:Nat):Int)).length:Nat):Int):=by grind [aE]
    have c7:=tF (a:=⟨⟨Lib.repeatL [48] (4-(Lib.itoa ((yN row f:Nat):Int)).length)⟩⟩) (b:=⟨⟨Lib.itoa ((yN row f:Nat):Int)⟩⟩) (by
     rw[yV,yV,Lib.repeatL_length]
     grind)
    generalize Lib.itoa ((yN row f:Nat):Int)=ss at *;generalize hz:(⟨⟨ss⟩⟩:ByteArray)=a at *;generalize hd:4-ss.length=d at *;generalize hy:(⟨⟨Lib.repeatL [48] d⟩⟩:ByteArray)=z at *;(sym=>(simp[dM,dN,gT,Za,Zb,Zf,Zh,Zl,Zm,Zv,ZA,ZQ,Yc,Yg,Yl,Ym,Yw,Y6,YE,Xy,XI,Wu,Ww,WH,Vd,VA,VK,VO,VP,VQ,VS,VT,VV,VW,Ui,Uj,Uk,Uw,UG,UH,UJ,UK,UL,UM,UN,UQ,UR,US,UT,UW,UZ,Tb,Tf,Tg,Ti,Tj,Tm,Tp,T8,TS,TT,TU,TV,TW,SY,SZ,Ra,Rb,Re,Rg,Rh,Rl,Ro,Rp,QM,Pb,PC,PD,PE,PG,e0,lf,c1,c2,c3,c5,c6,c7,cQ,cM,cL,cR];all_goals tactic=>exact rfl))
   ·have a0:=bDo row f
    (sym=>(simp[dM,dN,gT,Za,YU,Xy,XJ,Wu,Wy,VK,VP,VR,VS,VT,UX,UY,Tf,Tg,Tj,Tm,TT,TU,TV,TW,Rm,lf,a0,cQ,cM,cL,cR];all_goals tactic=>exact rfl))
   ·intro i hi
    have i1:((i:Int)<40)=True:=AAa;have a2:=pL (n:=40) hi AM;obtain⟨x,hx⟩:=oP (l:=f) (i:=i) AM;have hx':=aKn hx;have hxb:=hb i x hx;have b1:=aQm hxb;have hcx:=aGW x;have b2:IntKind.i64.wrap ((kQ x:Nat):Int)=((kQ x:Nat):Int):=aE AM AM;have hm:(i+1)*kQ x≤40*255:=N8 AM AM;have b3:IntKind.i64.wrap (((i:Int)+1)*((kQ x:Nat):Int))=(((i+1)*kQ x:Nat):Int):=by
     grind [aE]
    have hal:=aXz (row:=row) hf i;have b4:IntKind.i64.wrap (((aAy row f i:Nat):Int)+(((i+1)*kQ x:Nat):Int))=((aAy row f (i+1):Nat):Int):=by
     grind [bDn,aE]
    generalize aAy row f i=A at *;generalize aAy row f (i+1)=A' at *;generalize kQ x=cx at *;generalize (i+1)*cx=px at *;(sym=>(simp[dM,dN,gT,Za,Zb,Zf,Zh,Zl,Zm,Zv,ZA,ZE,ZI,Yq,Y5,Y6,Y7,YE,YJ,YK,Xw,Xy,XJ,Wu,Wy,VK,VP,VQ,VS,VT,UW,UX,UY,UZ,Ta,Tf,Tg,Tj,Tm,T2,T7,TS,TT,TU,TV,TW,SL,SY,Ra,Rc,Rf,Rg,Rj,Rm,Ro,Rp,RY,Pb,i1,a2,hx',b1,b2,b3,b4,lf,cQ,cM,cL,cR];all_goals tactic=>exact rfl))
   ·(sym=>(simp[dM,dN,gT,Za,Zb,Zf,Zh,Zl,Zm,ZA,YE,UW,UZ,Tb,Tc,T8,SY,Ra,Re,Rg,Rh,Ro,Rp,Pb,e0];all_goals tactic=>exact rfl))
end
section
open Go Go.DL
theorem pD{q0 q1 q2 q3 q4 q5 q6 q7 q8 q9 q10 q11 q12 q13 q14 q15 q16 q17 q18 q19 q20 q21 q22 q23 q24 q25 p:Prop}(x0:q0)(x1:q1)(x2:q2)(x3:q3)(x4:q4)(x5:q5)(x6:q6)(x7:q7)(x8:q8)(x9:q9)(sW:q10)(x11:q11)(x12:q12)(x13:q13)(x14:q14)(x15:q15)(x16:q16)(x17:q17)(x18:q18)(x19:q19)(x20:q20)(x21:q21)(x22:q22)(x23:q23)(x24:q24)(x25:q25)(h:q0→q1→q2→q3→q4→q5→q6→q7→q8→q9→q10→q11→q12→q13→q14→q15→q16→q17→q18→q19→q20→q21→q22→q23→q24→q25→p:=by intro x0 x1 x2 x3 x4 x5 x6 x7 x8 x9 sW x11 x12 x13 x14 x15 x16 x17 x18 x19 x20 x21 x22 x23 x24 x25; (sym=>(simp[x0,x1,x2,x3,x4,x5,x6,x7,x8,x9,sW,x11,x12,x13,x14,x15,x16,x17,x18,x19,x20,x21,x22,x23,x24,x25,dM,dN,gT,Za,Zb,Zc,Zd,Ze,Zf,Zg,Zh,Zi,Zj,Zk,Zl,Zm,Zn,Zo,Zp,Zq,Zr,Zs,Zt,Zu,Zv,Zw,Zx,Zy,Zz,Z0,Z8,Z9,ZA,ZB,ZC,ZD,ZE,ZF,ZG,ZH,ZI,ZJ,ZK,ZL,ZM,ZN,ZO,ZP,ZQ,ZR,ZS,ZT,ZU,ZV,ZW,ZX,ZY,ZZ,Ya,Yb,Yc,Ye,Yf,Yg,Yh,Yi,Yj,Yk,Yl,Ym,Yn,Yo,Yp,Yq,Yr,Ys,Yt,Yu,Yv,Yw,Yx,Yy,Yz,Y4,Y5,Y6,Y7,Y9,YA,YB,YC,YD,YE,YF,YG,YH,YJ,YK,YL,YM,YN,YO,YP,YQ,YR,YT,YU,YV,YX,YY,YZ,Xa,Xb,Xc,Xd,Xe,Xf,Xg,Xh,Xi,Xj,Xk,Xl,Xm,Xn,Xo,Xp,Xq,Xr,Xs,Xt,Xu,Xv,Xw,Xx,Xy,Xz,XI,XJ,XL,XM,XN,XO,XW,XX,XY,XZ,Wa,Wb,Wc,We,Wf,Wg,Wh,Wi,Wj,Wk,Wl,Wm,Wn,Wo,Wp,Wq,Wr,Wu,Wv,Ww,Wy,Wz,W3,W4,W5,W6,W7,W8,W9,WA,WB,WC,WE,WF,WG,WH,WI,WJ,WK,WL,WM,WN,WO,WP,WQ,WR,WS,WT,WU,WV,WW,WX,WY,WZ,Va,Vb,Vc,Vd,Ve,Vf,Vg,Vh,Vi,Vj,Vk,Vl,Vm,Vn,Vo,Vp,Vq,Vr,Vs,Vt,Vu,Vv,Vw,Vx,Vy,Vz,V0,V1,V2,V3,V4,V5,V6,V7,V8,V9,VA,VB,VC,VD,VE,VF,VG,VH,VI,VJ,VK,VL,VM,VN,VO,VP,VQ,VR,VS,VT,VU,VV,VW,VX,VY,VZ,Ua,Ub,Uc,Ud,Ue,Uf,Ug,Uh,Ui,Uj,Uk,Ul,Um,Un,Uo,Ur,Us,Ut,Uu,Uv,Uw,Ux,Uy,Uz,U0,U6,U7,U8,U9,UA,UB,UC,UD,UE,UF,UG,UH,UI,UJ,UK,UL,UM,UN,UO,UP,UQ,UR,US,UT,UU,UV,UW,UX,UY,UZ,Ta,Tb,Tc,Td,Te,Tf,Tg,Th,Ti,Tj,Tl,Tm,Tn,Tp,Tq,Tr,Ts,Tt,Tu,Tv,Tw,Tx,Ty,Tz,T0,T1,T2,T3,T4,T5,T6,T7,T8,T9,TR,TS,TT,TU,TV,TW,TX,TY,TZ,Sa,Sc,Sd,Se,Sf,Sg,Si,Sj,Sk,Sl,Sm,Sn,Sp,Sq,Sr,Ss,Su,Sv,Sw,Sx,Sy,Sz,S2,S3,S4,S5,S6,S7,S8,S9,SA,SB,SC,SD,SE,SF,SG,SI,SJ,SK,SL,SM,SN,SO,SP,SQ,SS,SU,SV,SW,SX,SY,SZ,Ra,Rb,Rc,Re,Rf,Rg,Rh,Ri,Rj,Rk,Rl,Rm,Ro,Rp,Rq,Rr,Rs,Rt,Ru,Rw,Rx,Ry,Rz,RA,RC,RF,RG,RH,RI,RJ,RK,RN,RO,RP,RQ,RR,RU,RV,RW,RX,RY,RZ,Qa,Qb,Qd,Qe,Qf,Qg,Qh,Qi,Qj,Qk,Ql,Qm,Qn,Qo,Qp,Qq,Qr,Qs,Qt,Qu,Qw,Qx,Qy,Qz,Q0,QA,QB,QD,QE,QF,QG,QH,QI,QJ,QK,QL,QM,QN,QO,QQ,QR,QS,QT,QU,QV,QW,QX,QY,QZ,Pa,Pb,Pc,Pd,Pe,Pf,Pg,Ph,Pj,Pk,Pl,Pm,Pn,Po,Pp,Pq,Pr,Ps,Pt,Pu,Pv,Pw,Px,Py,Pz,P0,P8,P9,PA,PB,PC,PD,PE,PG,PH,PI,PJ,PK,PL,PM,PN,PO,PP,PQ,PR,PS,PT,PU,PV,PW,PX,PY,aLd,aGR];all_goals tactic=>exact rfl))):p:=h x0 x1 x2 x3 x4 x5 x6 x7 x8 x9 sW x11 x12 x13 x14 x15 x16 x17 x18 x19 x20 x21 x22 x23 x24 x25
theorem yO{p:Prop}(h:p:=by exact pD aG aG aG aG aG aG aG aG aG aG aG aG aG aG aG aG aG aG aG aG aG aG aG aG aG aG):p:=h
theorem RT1{q0 p:Prop}(x0:q0)(h:q0→p:=by intro x0;exact pD @x0 aG aG aG aG aG aG aG aG aG aG aG aG aG aG aG aG aG aG aG aG aG aG aG aG aG):p:=h x0
theorem RT2{q0 q1 p:Prop}(x0:q0)(x1:q1)(h:q0→q1→p:=by intro x0 x1;exact pD @x0 @x1 aG aG aG aG aG aG aG aG aG aG aG aG aG aG aG aG aG aG aG aG aG aG aG aG):p:=h x0 x1
theorem RT3{q0 q1 q2 p:Prop}(x0:q0)(x1:q1)(x2:q2)(h:q0→q1→q2→p:=by intro x0 x1 x2;exact pD @x0 @x1 @x2 aG aG aG aG aG aG aG aG aG aG aG aG aG aG aG aG aG aG aG aG aG aG aG):p:=h x0 x1 x2
theorem RT4{q0 q1 q2 q3 p:Prop}(x0:q0)(x1:q1)(x2:q2)(x3:q3)(h:q0→q1→q2→q3→p:=by intro x0 x1 x2 x3;exact pD @x0 @x1 @x2 @x3 aG aG aG aG aG aG aG aG aG aG aG aG aG aG aG aG aG aG aG aG aG aG):p:=h x0 x1 x2 x3
theorem RT5{q0 q1 q2 q3 q4 p:Prop}(x0:q0)(x1:q1)(x2:q2)(x3:q3)(x4:q4)(h:q0→q1→q2→q3→q4→p:=by intro x0 x1 x2 x3 x4;exact pD @x0 @x1 @x2 @x3 @x4 aG aG aG aG aG aG aG aG aG aG aG aG aG aG aG aG aG aG aG aG aG):p:=h x0 x1 x2 x3 x4
theorem RT7{q0 q1 q2 q3 q4 q5 q6 p:Prop}(x0:q0)(x1:q1)(x2:q2)(x3:q3)(x4:q4)(x5:q5)(x6:q6)(h:q0→q1→q2→q3→q4→q5→q6→p:=by intro x0 x1 x2 x3 x4 x5 x6;exact pD @x0 @x1 @x2 @x3 @x4 @x5 @x6 aG aG aG aG aG aG aG aG aG aG aG aG aG aG aG aG aG aG aG):p:=h x0 x1 x2 x3 x4 x5 x6
theorem RT9{q0 q1 q2 q3 q4 q5 q6 q7 q8 p:Prop}(x0:q0)(x1:q1)(x2:q2)(x3:q3)(x4:q4)(x5:q5)(x6:q6)(x7:q7)(x8:q8)(h:q0→q1→q2→q3→q4→q5→q6→q7→q8→p:=by intro x0 x1 x2 x3 x4 x5 x6 x7 x8;exact pD @x0 @x1 @x2 @x3 @x4 @x5 @x6 @x7 @x8 aG aG aG aG aG aG aG aG aG aG aG aG aG aG aG aG aG):p:=h x0 x1 x2 x3 x4 x5 x6 x7 x8
theorem aTn{q0 q1 q2 q3 q4 q5 q6 q7 q8 q9 p:Prop}(x0:q0)(x1:q1)(x2:q2)(x3:q3)(x4:q4)(x5:q5)(x6:q6)(x7:q7)(x8:q8)(x9:q9)(h:q0→q1→q2→q3→q4→q5→q6→q7→q8→q9→p:=by intro x0 x1 x2 x3 x4 x5 x6 x7 x8 x9;exact pD @x0 @x1 @x2 @x3 @x4 @x5 @x6 @x7 @x8 @x9 aG aG aG aG aG aG aG aG aG aG aG aG aG aG aG aG):p:=h x0 x1 x2 x3 x4 x5 x6 x7 x8 x9
theorem aEa{q0 q1 q2 q3 q4 q5 q6 q7 q8 q9 q10 q11 q12 p:Prop}(x0:q0)(x1:q1)(x2:q2)(x3:q3)(x4:q4)(x5:q5)(x6:q6)(x7:q7)(x8:q8)(x9:q9)(sW:q10)(x11:q11)(x12:q12)(h:q0→q1→q2→q3→q4→q5→q6→q7→q8→q9→q10→q11→q12→p:=by intro x0 x1 x2 x3 x4 x5 x6 x7 x8 x9 sW x11 x12;exact pD @x0 @x1 @x2 @x3 @x4 @x5 @x6 @x7 @x8 @x9 @sW @x11 @x12 aG aG aG aG aG aG aG aG aG aG aG aG aG):p:=h x0 x1 x2 x3 x4 x5 x6 x7 x8 x9 sW x11 x12
theorem aEF{q0 q1 q2 q3 q4 q5 q6 q7 q8 q9 q10 q11 q12 q13 q14 q15 q16 q17 q18 q19 p:Prop}(x0:q0)(x1:q1)(x2:q2)(x3:q3)(x4:q4)(x5:q5)(x6:q6)(x7:q7)(x8:q8)(x9:q9)(sW:q10)(x11:q11)(x12:q12)(x13:q13)(x14:q14)(x15:q15)(x16:q16)(x17:q17)(x18:q18)(x19:q19)(h:q0→q1→q2→q3→q4→q5→q6→q7→q8→q9→q10→q11→q12→q13→q14→q15→q16→q17→q18→q19→p:=by intro x0 x1 x2 x3 x4 x5 x6 x7 x8 x9 sW x11 x12 x13 x14 x15 x16 x17 x18 x19;exact pD @x0 @x1 @x2 @x3 @x4 @x5 @x6 @x7 @x8 @x9 @sW @x11 @x12 @x13 @x14 @x15 @x16 @x17 @x18 @x19 aG aG aG aG aG aG):p:=h x0 x1 x2 x3 x4 x5 x6 x7 x8 x9 sW x11 x12 x13 x14 x15 x16 x17 x18 x19
end
section
open Go Go.DL
theorem q77{vs:List AV}{h:XH}(hl:vs.length≤12):runW aB 78 vs h=eX none x78.res x78.ownR h.length (execW aB 78 h.length none x78.body (aV (if x78.ownA then vs else lT vs)) h):=dO rfl hl h rfl
theorem q45{vs:List AV}{h:XH}(hl:vs.length≤31):runW aB 110 vs h=eX none x110.res x110.ownR h.length (execW aB 110 h.length none x110.body (aV (if x110.ownA then vs else lT vs)) h):=dO rfl hl h rfl
def sR(f:List Nat):Prop:=∀(i x:Nat),f[i]?=some x→x<256
theorem aAt:∀{f:List Nat},jQ (bT f)=some (f.map UInt8.ofNat)
 | []=>rfl
 | x::f=>by
   have ih:=aAt (f:=f);show (jQ (bT f)).map _=_;rw[ih];rfl

theorem aQr{run:eA}{g:Nat}{vs:List AV}{v:AV}{hl h:XH}(hn:kB vs=[])(hr:∀ s,kD s vs=vs)(hrun:run g vs []=some (v,hl))(hg:gdA v=true):nX run (.fn (.func g) [] []) vs h=some v:=by
 unfold nX;dsimp only;have hp:gZ ([]++vs++[]) h=[]:=by
  unfold gZ;rw[G6,I2,hn];rfl
 rw[hp,G6,I2,hr];show (match run g vs []with|some (v,hl)=>if gdA v&&aFk [] hl then some v else none|none=>none)=some v;rw[hrun];dsimp only;rw[hg];rfl
theorem w77{f:List Nat}{row:Nat}(hf:f.length=40)(hb:sR f)(hrow:row≤1000000):runW aB 78 [vC f,I (row:Int)] []=some (.str (xC (jH row f)),[]):=by
 rw[q77 (by simp)];unfold x78;dsimp only;have lf:=bE f;rw[hf]at lf;have gf:=bO f;have c1:=bEs hf hb hrow;rw[bS]at c1 ⊢;have t1:=gW hf;have t2:=lA hf;have bu:=aAt (f:=f);have cq:=aQr (run:=runW aB) (h:=[some (XB.blk true (ABlk.cells true (bT f)))]) (by show kC (.agg (bT f))++_=[];simp only[kC,cM];rfl) (fun s=>by show rnA s (.agg (bT f))::_=_;simp only[rnA,cL];rfl) c1 rfl;have hd:(aJO (yN row f)).size=4:=rfl;have s1:=tF (a:=aJO (yN row f)) (b:=⟨⟨f.map UInt8.ofNat⟩⟩) (by grind [yV]);have s2:=tF (a:=aJO (yN row f)++⟨⟨f.map UInt8.ofNat⟩⟩) (b:=⟨#[10]⟩) (by grind [yV]);have s3:xC (jH row f)=(aJO (yN row f)++⟨⟨f.map UInt8.ofNat⟩⟩)++⟨#[10]⟩:=by
  unfold aJO xC jH
  grind [aXw]
 rw[s3];(exact aEa lf gf t1 t2 cq bu s1 s2 cQ cM cL cR aG)

def pv(t x y:Nat):Nat:=32+(kQ x+t*kQ y)%95
theorem aCR{t x y:Nat}:∀{l m:List Nat},l.length=m.length→eF t (l++[x]) (m++[y])=eF t l m++[pv t x y]
 | [],[],_=>rfl
 | [],_::_,h=>by simp at h
 | _::_,[],h=>by simp at h
 | a::l,b::m,h=>by
   simp only[H9,eF];rw[aCR (by simpa using h)]
theorem mZ{t:Nat}:∀{l m:List Nat},l.length=m.length→(eF t l m).length=l.length
 | [],[],_=>rfl
 | [],_::_,h=>by simp at h
 | _::_,[],h=>by simp at h
 | a::l,b::m,h=>by simp only[eF,D9,mZ (l:=l) (m:=m) (by simpa using h)]
theorem aZX(t x y:Nat):pv t x y<127:=by
 grind [pv]
theorem vQ{t:Nat}:∀{l m:List Nat},sR (eF t l m)
 | [],m=>by simp[sR,eF]
 | a::l,[]=>by simp[sR,eF]
 | a::l,b::m=>by
   intro i x h;simp only[eF]at h;cases i with
   | zero=>simp at h;subst h;exact E6 (aZX t a b) (by decide)
   | succ i=>exact vQ (l:=l) (m:=m) i x (by simpa using h)
def plS(t:Nat)(f o:List Nat)(i:Nat):List Nat:=eF t (f.take i) (o.take i)++f.drop i
section
variable{t:Nat}{f o:List Nat}
theorem bAh(hf:f.length=40)(ho:o.length=40):plS t f o 40=eF t f o:=by
 grind [plS]
theorem aCT(hf:f.length=40)(ho:o.length=40){i:Nat}(hi:i≤40):(eF t (f.take i) (o.take i)).length=i:=by
 grind [mZ]
theorem aJo(hf:f.length=40)(ho:o.length=40){i:Nat}(hi:i≤40):(plS t f o i).length=40:=by
 grind [aCT,plS]
theorem bAg(hf:f.length=40)(ho:o.length=40){i x:Nat}(hi:i<40)(hx:f[i]?=some x):(plS t f o i)[i]?=some x:=by
 unfold plS;rw[G5 (by rw[aCT hf ho AM];omega),aCT hf ho AM,J5,List.getElem?_drop];exact hx
theorem aVQ(hf:f.length=40)(ho:o.length=40){i x y:Nat}(hi:i<40)(hx:f[i]?=some x)(hy:o[i]?=some y):bG (bT (plS t f o i)) i [.int .u8 ((pv t x y:Nat):Int)]=bT (plS t f o (i+1)):=by
 rw[aIR (by grind [aJo])];congr 1;unfold plS;have h1:f.take (i+1)=f.take i++[x]:=by grind [List.take_add_one]
 have h2:o.take (i+1)=o.take i++[y]:=by grind [List.take_add_one]
 have h3:f.drop i=x::f.drop (i+1):=by
  grind [List.drop_eq_getElem_cons]
 rw[h1,h2,aCR (by grind),h3,aA2 _ _ (by rw[aCT hf ho AM];omega),aCT hf ho AM,J5];simp
end

theorem w45{f o:List Nat}{t:Nat}(hf:f.length=40)(ho:o.length=40)(bf:sR f)(bo:sR o)(ht:t≤94):runW aB 110 [vC f,vC o,I (t:Int)] []=some (vC (eF t f o),[]):=by
 rw[q45 (by simp)];unfold x110;dsimp only;have e0:((40:Int)<40)=False:=AAb;have lf:=bE f;rw[hf]at lf;have lo:=bE o;rw[ho]at lo;have gf:=bO f;have go:=bO o;have l0:(bT (nf 0)).length=40:=by rfl
 have g0:=bO (nf 0);rw[bS,bS,bS];sym =>
  simp[dM,dN,gT,Za,Zb,Zf,Zh,Zl,Zo,Zv,Zw,Zz,Wf,Wi,Vb,Ve,Vs,VB,UV,Te,Th,Ti,Tn,Tp,Tv,TX,TY,Se,Sf,Sw,Sx,SQ,Ra,Rf,Rg,Ro,Rp,e0,lf,lo,gf,go,cQ,cM,cL,cR]
  tactic =>
   unfold aNj;rw[aQ 40 (fun i=>[I (t:Int),.pt 0 0,.pt 1 0,.pt 2 0,I (i:Nat)]) (fun i=>[some (.blk true (.cells true (bT (plS t f o i)))),some (.blk true (.cells true (bT o))),some (.blk true (.cells true (bT (nf 0))))])]
   ·have hp:=bAh (t:=t) hf ho
    have hpl:=aJo (t:=t) hf ho (i:=40) AM;rw[hp]at hpl;have c4:=bE (eF t f o);rw[hpl]at c4;have c5:=gW hpl;have c6:=lA hpl;have c7:=bO (eF t f o);have c8:=kI (a:=nf 0) (b:=eF t f o) (by grind [oZ]);(exact aEF e0 hp lo l0 c4 c5 c6 c7 c8 go g0 cQ cM cL cR aG aG aG aG aG)
   ·rfl
   ·intro i hi
    have i1:((i:Int)<40)=True:=AAa;have a2:=pL (n:=40) hi AM;obtain⟨x,hx⟩:=oP (l:=f) (i:=i) AM;obtain⟨y,hy⟩:=oP (l:=o) (i:=i) AM;have hx':=aKn (bAg (t:=t) hf ho hi hx);have hy':=aKn hy;have b1:=aQm (bf i x hx);have b2:=aQm (bo i y hy);have hcx:=aGW x;have hcy:=aGW y;have b3:IntKind.i64.wrap ((kQ x:Nat):Int)=((kQ x:Nat):Int):=aE AM AM;have b4:IntKind.i64.wrap ((kQ y:Nat):Int)=((kQ y:Nat):Int):=aE AM AM;have hm:t*kQ y≤94*255:=N8 ht AM;have b5:IntKind.i64.wrap ((t:Int)*((kQ y:Nat):Int))=((t*kQ y:Nat):Int):=by
     grind [aE]
    have b6:IntKind.i64.wrap (((kQ x:Nat):Int)+((t*kQ y:Nat):Int))=((kQ x+t*kQ y:Nat):Int):=by
     grind [aE]
    have b7:wP ((kQ x+t*kQ y:Nat):Int) 95=(((kQ x+t*kQ y)%95:Nat):Int):=gY _ _;have hr:=I3 (kQ x+t*kQ y) (show 0<95 by decide);have b8:IntKind.u8.wrap (((kQ x+t*kQ y)%95:Nat):Int)=(((kQ x+t*kQ y)%95:Nat):Int):=by
     simp[IntKind.wrap,IntKind.bits,IntKind.signed];omega
    have b9:IntKind.u8.wrap (32+(((kQ x+t*kQ y)%95:Nat):Int))=((pv t x y:Nat):Int):=by
     unfold pv;simp[IntKind.wrap,IntKind.bits,IntKind.signed];omega
    have ns:=aVQ (t:=t) hf ho hi hx hy;have n1:=bE (plS t f o i);rw[aJo hf ho AM]at n1;have n3:=bAQ hi;generalize pv t x y=P at *;generalize (kQ x+t*kQ y)%95=R at *;generalize kQ x+t*kQ y=S at *;generalize t*kQ y=T at *;generalize kQ x=cx at *;generalize kQ y=cy at *;(exact pD i1 a2 hx' hy' b1 b2 b3 b4 b5 b6 b7 b8 b9 ns n1 n3 lo l0 go g0 cQ cM cL cR aG aG)
   ·(exact RT1 e0)
theorem q46{vs:List AV}{h:XH}(hl:vs.length≤6):runW aB 111 vs h=eX none x111.res x111.ownR h.length (execW aB 111 h.length none x111.body (aV (if x111.ownA then vs else lT vs)) h):=dO rfl hl h rfl
theorem q36{vs:List AV}{h:XH}(hl:vs.length≤5):runW aB 138 vs h=eX none x138.res x138.ownR h.length (execW aB 138 h.length none x138.body (aV (if x138.ownA then vs else lT vs)) h):=dO rfl hl h rfl
theorem q42{vs:List AV}{h:XH}(hl:vs.length≤23):runW aB 109 vs h=eX none x109.res x109.ownR h.length (execW aB 109 h.length none x109.body (aV (if x109.ownA then vs else lT vs)) h):=dO rfl hl h rfl
theorem p74{xs:List AV}{h:XH}:runW aB 158 xs h=aKH xs h:=eJ rfl rfl xs h
theorem p80{xs:List AV}{h:XH}:runW aB 139 xs h=aCO xs h:=eJ rfl rfl xs h
def lnB(f:List Nat):ByteArray:=⟨⟨Lib.trimRightB (f.map UInt8.ofNat) 32⟩⟩
theorem w46{f:List Nat}(hf:f.length=40):runW aB 111 [vC f] []=some (.str (lnB f),[]):=by
 rw[q46 (by simp)];unfold x111;dsimp only;have lf:=bE f;rw[hf]at lf;have gf:=bO f;have bu:=aAt (f:=f);have t1:=gW hf;have t2:=lA hf;have c1:runW aB 139 [.str ⟨⟨f.map UInt8.ofNat⟩⟩,.str ⟨⟨[32]⟩⟩] []=some (.str (lnB f),[]):=by
  rw[p80];unfold aCO;dsimp only;rw[if_pos ⟨by decide,by grind [yV]⟩];rfl
 rw[bS];(exact pE lf gf t1 t2 bu c1 cQ cM cL cR)
theorem w36(s:ByteArray):runW aB 138 [.str s] []=some (.bool (sM s.data.toList),[]):=by
 rw[q36 (by simp)];unfold x138;dsimp only;have c1:runW aB 158 [.str s,.fn (.func 159) [] []] []=some (.bool (sM s.data.toList),[]):=by rw[p74];rfl
 (exact dG c1)

def txB(s:ByteArray):ByteArray:=nV s 4 44
def rdF(s:ByteArray):List Nat:=dQ (bN (txB s))
def aFn(s:ByteArray)(n:Nat):Bool := !sM (txB s).data.toList&&((xC (jH n (rdF s))).toList==s.toList)
theorem aAZ(s:ByteArray):sR (bN s):=by
 intro i x h;unfold bN at h;rw[C4,A3]at h;obtain⟨b,_,rfl⟩:=h;exact b.toNat_lt
theorem pW{l:List Nat}(h:sR l):sR (dQ l):=by
 grind [sR,dQ]
theorem aNP(a b:ByteArray):aY BinOp.eql a b=some (.bool (a.toList==b.toList)):=rfl
theorem w42{s:ByteArray}{n:Nat}(hs:s.size=45)(hn:n≤1000000):runW aB 109 [.str s,I (n:Int)] []=some (.tup [vC (rdF s),.bool (aFn s n)],[]):=by
 rw[q42 (by simp)];unfold x109;dsimp only;have hs':((45:Int)=45)=True:=AAk rfl;have l1:=iV (bN (txB s));have b1:=pW (aAZ (txB s));have c1:=w44 (txB s);have c2:=w36 (txB s);have c3:=w77 (row:=n) l1 b1 hn;have hx:nV s 4 44=txB s:=rfl;have n44:Int.toNat 44=44:=rfl;have n4:Int.toNat 4=4:=rfl;have n45:((4:Int)≤((44:Nat):Int))=True:=AAa;rw[bS]at c1 c3 ⊢;have lf:=bE (dQ (bN (txB s)));rw[l1]at lf;have t1:=gW l1;have t2:=lA l1;have gf:=bO (dQ (bN (txB s)));have l0:(bT (nf 0)).length=40:=by rfl
 have g0:=bO (nf 0);have a1:=kI (a:=nf 0) (b:=dQ (bN (txB s))) (by grind [oZ]);have e1:=aNP (xC (jH n (dQ (bN (txB s))))) s;unfold aFn rdF;cases hu:sM (txB s).data.toList with
 | true =>
   rw[hu]at c2;(exact lR hs hx n44 n4 n45 c1 c2 lf t1 t2 gf l0 g0 a1 cQ cM cL cR aG aG)
 | false =>
   rw[hu]at c2;(exact lR hs hx n44 n4 n45 c1 c2 c3 e1 lf t1 t2 gf l0 g0 a1 cQ cM cL cR)
theorem q43{vs:List AV}{h:XH}(hl:vs.length≤18):runW aB 79 vs h=eX none x79.res x79.ownR h.length (execW aB 79 h.length none x79.body (aV (if x79.ownA then vs else lT vs)) h):=dO rfl hl h rfl
def eV(C:List Nat)(k:Nat):List Nat:=(C.drop (k*40)).take 40
def fC(C:List Nat):Nat→List Nat
 | 0=>dQ []
 | k+1=>eF 1 (fC C k) (eV C k)
theorem rF{C:List Nat}{n k:Nat}(h:n*40≤C.length)(hk:k<n):(eV C k).length=40:=by
 grind [eV]
theorem aBS{C:List Nat}(h:sR C)(k:Nat):sR (eV C k):=by
 grind [sR,eV]
theorem fL{C:List Nat}{n:Nat}(h:n*40≤C.length):∀ k,k≤n→(fC C k).length=40
 | 0,_=>iV []
 | k+1,hk=>by
   have h1:=fL h k AM;rw[fC,mZ (by rw[h1,rF h AM])];exact h1
theorem vL{C:List Nat}:∀ k,sR (fC C k)
 | 0=>pW (fun i x h=>by simp at h)
 | k+1=>vQ
theorem aFt{C:List Nat}{k:Nat}:((bT C).drop (k*40)).take 40=bT (eV C k):=by
 simp[bT,eV]

def aMP:XCode:=(.loop [2,3,7,8,9] (.seq (.reg [] false [⟨0,(some 10),(.bin .lss (.t 9) (.t 8)),none⟩]) (.seq (.cond (.t 10) .skip (.exit 0)) (.seq (.block 1 (.seq (.reg [] false [⟨0,(some 11),(.idx 40 (.t 7) (.t 9)),none⟩,⟨0,(some 12),(.load true 40 (.t 11)),none⟩,⟨0,(some 5),(.alloc (bT (nf 0))),none⟩,⟨0,none,(.store 40 (.t 5) (.t 12) []),none⟩]) (.reg [] false [⟨0,(some 13),(.load true 40 (.t 3)),none⟩,⟨0,(some 14),(.load true 40 (.t 5)),none⟩,⟨0,(some 15),(.callf false (.c (.fn (.func 110) [] [])) [(.t 13),(.t 14),(.c (.int .i64 1))] []),none⟩,⟨0,none,(.store 40 (.t 3) (.t 15) []),none⟩]))) (.reg [] false [⟨0,(some 16),(.bin .add (.t 9) (.c (.int .i64 1))),none⟩,⟨0,(some 9),(.mv (.t 16)),none⟩])))))
theorem aMQ:aTA=aMP:=rfl
theorem w43{C:List Nat}{n:Nat}(hC:n*40≤C.length)(hb:sR C)(hn:n≤1000):runW aB 79 [.sl 0 0 40 n] [some (.blk true (.cells true (bT C)))]=some (vC (fC C n),[some (.blk true (.cells true (bT C)))]):=by
 rw[q43 (by simp)];unfold x79;dsimp only;have c1:=w44 ⟨⟨[]⟩⟩;have hnf:dQ (bN ⟨⟨[]⟩⟩)=dQ []:=rfl;rw[hnf]at c1;rw[bS]at c1 ⊢;have l0:(bT (nf 0)).length=40:=by rfl
 have g0:=bO (nf 0);have l1:=iV [];have lf:=bE (dQ []);rw[l1]at lf;have gf:=bO (dQ []);have a1:=kI (a:=nf 0) (b:=dQ []) (by rfl);have t1:=gW l1;have t2:=lA l1;have gC:=bO C;sym =>
  simp[Za,Zb,Zc,Zf,Zh,Zl,Zm,Zv,Zw,ZQ,ZY,ZZ,Yc,Yg,Yl,Ym,Yu,XI,Wf,Ww,Wy,Vh,Vs,V3,V6,V7,V9,VA,VB,VK,VO,VQ,VV,VW,Ui,Uj,Uk,UV,Te,Tf,Tg,Th,Ti,Tj,Tn,Tp,Tv,T2,TS,TT,TU,TV,TW,TX,TY,Se,Sf,Sg,SM,SN,Ra,Rf,Rg,Ro,Rp,PC,PD,PE,PG,c1,l0,g0,lf,gf,a1,t1,t2,gC,cQ,cM,cL,cR]
  tactic =>
   rw[aMQ];unfold aMP;rw[aQ n (fun i=>[.pt 1 0,.pt 2 0,.sl 0 0 40 n,I (n:Nat),I (i:Nat)]) (fun i=>[some (.blk true (.cells true (bT C))),some (.blk true (.cells true (bT (nf 0)))),some (.blk true (.cells true (bT (fC C i))))])]
   ·have e0:((n:Int)<(n:Int))=False:=AAb
    have l3:=fL hC n (A6 _);have c4:=bE (fC C n);rw[l3]at c4;have c5:=gW l3;have c6:=lA l3;have c7:=bO (fC C n);have c8:=kI (a:=nf 0) (b:=fC C n) (by grind [oZ]);(exact oI e0 l0 g0 c4 c5 c6 c7 c8 gC cQ cM cL cR)
   ·rfl
   ·intro i hi
    have i1:((i:Int)<(n:Int))=True:=AAa;have a2:=pL hi AM;have lC:=bE C;have i3:(i*40+40≤(bT C).length)=True:=AAk (by
     omega)
    have fu:=aFt (C:=C) (k:=i);have l3:=fL hC i AM;have l4:=fL hC (i+1) AM;have l5:=rF hC hi;have w:=w45 (t:=1) l3 l5 (vL i) (aBS hb i) AM;have ws:eF 1 (fC C i) (eV C i)=fC C (i+1):=rfl;rw[ws]at w;rw[bS,bS,bS]at w;have m3:=bE (fC C i);rw[l3]at m3;have m4:=bE (fC C (i+1));rw[l4]at m4;have m5:=bE (eV C i);rw[l5]at m5;have c8:=kI (a:=nf 0) (b:=eV C i) (by grind [oZ]);have c9:=kI (a:=fC C i) (b:=fC C (i+1)) (by rw[l3,l4]);have k3:=gW l3;have k4:=lA l3;have k5:=gW l5;have k6:=lA l5;have g3:=bO (fC C i);have g4:=bO (fC C (i+1));have g5:=bO (eV C i);have w':runW aB 110 [.agg (bT (fC C i)),.agg (bT (eV C i)),I 1] []=some (.agg (bT (fC C (i+1))),[]):=w;generalize fC C (i+1)=S' at *;generalize fC C i=S at *;generalize eV C i=f at *;(exact vG i1 a2 i3 fu w' m3 m4 m5 c8 c9 k3 k4 k5 k6 g3 g4 g5 gC l0 g0 cQ cM cL cR aG aG)
   ·have e0:((n:Int)<(n:Int))=False:=AAb
    (exact dG e0)
theorem aFA{cs:List AV}{s:Nat}:∀{n o i:Nat},i<n→(bM cs o s n)[i]?=some ((cs.drop (o+i*s)).take s)
 | 0,_,_,h=>absurd h AM
 | n+1,o,0,_=>by simp[bM]
 | n+1,o,i+1,h=>by
   rw[bM,D8,aFA AM,aF3 i 1,Nat.one_mul,aH5,Nat.add_comm s]
theorem bDf{C:List Nat}{n:Nat}(hC:n*40≤C.length):(bM (bT C) 0 40 n).length=n∧∀ i,i<n→(bM (bT C) 0 40 n)[i]?=some (bT (eV C i)):=by
 obtain⟨h1,_,_⟩:=yB (cs:=bT C) (s:=40) (n:=n) (o:=0) (by rw[bE];omega);refine⟨h1,fun i hi=>?_⟩;rw[aFA hi,M0,aFt]
theorem bDL{C:List Nat}{n:Nat}(hC:n*40≤C.length)(hb:sR C)(hn:n≤1000):runW aB 79 [.fs (bM (bT C) 0 40 n)] []=some (vC (fC C n),[]):=by
 rw[q43 (by simp)];unfold x79;dsimp only;have c1:=w44 ⟨⟨[]⟩⟩;have hnf:dQ (bN ⟨⟨[]⟩⟩)=dQ []:=rfl;rw[hnf]at c1;rw[bS]at c1 ⊢;have l0:(bT (nf 0)).length=40:=by rfl
 have g0:=bO (nf 0);have l1:=iV [];have lf:=bE (dQ []);rw[l1]at lf;have gf:=bO (dQ []);have a1:=kI (a:=nf 0) (b:=dQ []) (by rfl);have t1:=gW l1;have t2:=lA l1;obtain⟨rl,ra⟩:=bDf hC;generalize bM (bT C) 0 40 n=R at *;sym =>
  simp[Za,Zb,Zc,Zf,Zh,Zl,Zm,Zv,Zw,ZQ,ZY,ZZ,Yc,Yg,Yl,Ym,Yt,XI,Wf,Ww,Wy,Vg,Vs,V3,V6,V7,V9,VA,VB,VK,VO,VQ,VV,VW,Ui,Uj,Uk,UV,Te,Tf,Tg,Th,Ti,Tj,Tn,Tp,Tv,T2,TS,TT,TU,TV,TW,TX,TY,Se,Sf,Sg,SM,SN,Ra,Rf,Rg,Ro,Rp,PC,PD,PE,PG,rl,c1,l0,g0,lf,gf,a1,t1,t2,cQ,cM,cL,cR]
  tactic =>
   rw[aMQ];unfold aMP;rw[aQ n (fun i=>[.pt 0 0,.pt 1 0,.fs R,I (n:Nat),I (i:Nat)]) (fun i=>[some (.blk true (.cells true (bT (nf 0)))),some (.blk true (.cells true (bT (fC C i))))])]
   ·have e0:((n:Int)<(n:Int))=False:=AAb
    have l3:=fL hC n (A6 _);have c4:=bE (fC C n);rw[l3]at c4;have c5:=gW l3;have c6:=lA l3;have c7:=bO (fC C n);have c8:=kI (a:=nf 0) (b:=fC C n) (by grind [oZ]);(exact oI e0 l0 g0 c4 c5 c6 c7 c8 cQ cM cL cR aG)
   ·rfl
   ·intro i hi
    have i1:((i:Int)<(n:Int))=True:=AAa;have a2:=pL hi AM;have i3:(i<R.length)=True:=AAa;have fu:=ra i hi;have l3:=fL hC i AM;have l4:=fL hC (i+1) AM;have l5:=rF hC hi;have w:=w45 (t:=1) l3 l5 (vL i) (aBS hb i) AM;have ws:eF 1 (fC C i) (eV C i)=fC C (i+1):=rfl;rw[ws]at w;rw[bS,bS,bS]at w;have m3:=bE (fC C i);rw[l3]at m3;have m4:=bE (fC C (i+1));rw[l4]at m4;have m5:=bE (eV C i);rw[l5]at m5;have c8:=kI (a:=nf 0) (b:=eV C i) (by grind [oZ]);have c9:=kI (a:=fC C i) (b:=fC C (i+1)) (by rw[l3,l4]);have k3:=gW l3;have k4:=lA l3;have k5:=gW l5;have k6:=lA l5;have g3:=bO (fC C i);have g4:=bO (fC C (i+1));have g5:=bO (eV C i);have w':runW aB 110 [.agg (bT (fC C i)),.agg (bT (eV C i)),I 1] []=some (.agg (bT (fC C (i+1))),[]):=w;generalize fC C (i+1)=S' at *;generalize fC C i=S at *;generalize eV C i=f at *;(exact vG i1 a2 i3 fu rl w' m3 m4 m5 c8 c9 k3 k4 k5 k6 g3 g4 g5 l0 g0 cQ cM cL cR aG aG)
   ·have e0:((n:Int)<(n:Int))=False:=AAb
    (exact dG e0)
theorem q69{vs:List AV}{h:XH}(hl:vs.length≤19):runW aB 32 vs h=eX none x32.res x32.ownR h.length (execW aB 32 h.length none x32.body (aV (if x32.ownA then vs else lT vs)) h):=dO rfl hl h rfl
theorem bAp{xs:List AV}{h:XH}:runW aB 75 xs h=aGs xs h:=eJ rfl rfl xs h
theorem p71{xs:List AV}{h:XH}:runW aB 35 xs h=aHM xs h:=eJ rfl rfl xs h
def dR(s:ByteArray):List AV:=s.data.toList.map fun b=>.int .u8 (b.toNat:Int)
theorem aNN(s:ByteArray):s.data.toList.map (fun b=>AV.int .u8 (b.toNat:Int))=dR s:=rfl
theorem aCe(s:ByteArray):(dR s).length=s.size:=by
 simp[dR]
theorem aNO(a b:ByteArray):dR a++dR b=dR (a++b):=by
 simp[dR]
theorem fK(s:ByteArray):kY (dR s)=true:=eU fun v hv=>by
 grind [jD,dR]
theorem aPp{α:Type}{g:α→AV}(hg:∀ a,kC (g a)=[])(l:List α):kB (l.map g)=[]:=by
 induction l with
 | nil=>rfl
 | cons a l ih=>grind [kB]
theorem aPn{α:Type}{g:α→AV}(hg:∀ a,slN (g a)=[])(l:List α):xM (l.map g)=[]:=by
 induction l with
 | nil=>rfl
 | cons a l ih=>grind [xM]
theorem aPo{α:Type}{g:α→AV}{s:Nat→Option Nat}(hg:∀ a,rnA s (g a)=g a)(l:List α):kD s (l.map g)=l.map g:=by
 induction l with
 | nil=>rfl
 | cons a l ih=>grind [kD]
theorem eC(s:ByteArray):kB (dR s)=[]:=aPp (fun _=>rfl) _
theorem eO(s:ByteArray):xM (dR s)=[]:=aPn (fun _=>rfl) _
theorem eP(f:Nat→Option Nat)(s:ByteArray):kD f (dR s)=dR s:=aPo (fun _=>rfl) _
theorem aLp:∀ l:List UInt8,aBv (l.map fun b=>AV.int .u8 (b.toNat:Int))=some l
 | []=>rfl
 | b::l=>by
   have ih:=aLp l;have hb:=b.toNat_lt;show (if 0≤(b.toNat:Int)∧(b.toNat:Int)<256 then (aBv (l.map fun b=>AV.int .u8 (b.toNat:Int))).map (UInt8.ofNat (b.toNat:Int).toNat :: ·) else none)=_;rw[if_pos AM,ih];simp

theorem aHp(H:Hp)(s:ByteArray):eT 1 H (.str s)=some (s.size,dR s):=rfl
theorem aIk(h:XH)(s:ByteArray):fS h (.str s)=true:=rfl
theorem aUS{s:ByteArray}(h0:0<s.size)(h1:s.size≤100000):runW aB 32 [.bp 0,.str s] [some (.blk true (.cells true [.nilpt,.nilsl]))] =
 some (.tup [I (s.size:Nat),.nilifc],[some (.blk false (.cells true [.pt 0 0,.sb 1 s.size])),some (.blk true (.cells true (dR s)))]):=by
 rw[q69 (by simp)];unfold x32;dsimp only;have c1:runW aB 75 [.bp 0] [some (.blk true (.cells true [.nilpt,.nilsl]))]=some (.tup [],[some (.blk false (.cells true [.pt 0 0,.nilsl]))]):=by rw[bAp];rfl
 have z1:(s.size=0)=False:=AAb;have z2:(s.size*1048577≤1099511627776)=True:=AAa;have z3:(s.size≤1099511627776)=True:=AAa;have g1:=fK s;(exact pE c1 z1 z2 z3 aHp aIk eC eO eP g1)

theorem aUR{s a:ByteArray}(h0:0<s.size)(h1:s.size≤100000)(h2:a.size≤100000):runW aB 32 [.bp 0,.str s] [some (.blk false (.cells true [.pt 0 0,.sb 1 a.size])),some (.blk true (.cells true (dR a)))] =
 some (.tup [I (s.size:Nat),.nilifc],[some (.blk false (.cells true [.pt 0 0,.sb 2 (a.size+s.size)])),none,some (.blk true (.cells true (dR (a++s))))]):=by
 rw[q69 (by simp)];unfold x32;dsimp only;have c1:runW aB 75 [.bp 0] [some (.blk false (.cells true [.pt 0 0,.sb 1 a.size])),some (.blk true (.cells true (dR a)))]=some (.tup [],[some (.blk false (.cells true [.pt 0 0,.sb 1 a.size])),some (.blk true (.cells true (dR a)))]):=by rw[bAp];rfl
 have l1:=aCe a;have z3:(a.size+s.size≤1099511627776)=True:=AAa;have z4:(a.size+s.size≤1099511627776∧True)=True:=AAk ⟨by omega,trivial⟩;have g1:=fK s;have g2:=fK a;have g3:=fK (a++s);have e1:=aNO a s;(exact oI c1 l1 z3 aHp aIk eC eO eP g1 g2 g3 e1 aG)
theorem w71{a:ByteArray}(h0:0<a.size)(h1:a.size≤1000000):runW aB 35 [.bp 0] [some (.blk false (.cells true [.pt 0 0,.sb 1 a.size])),some (.blk true (.cells true (dR a)))]=some (.str a,[some (.blk false (.cells true [.pt 0 0,.sb 1 a.size])),none]):=by
 rw[p71];have hl:=aCe a;have hb:=aLp a.data.toList;have hsz:a.size=a.data.toList.length:=by rfl
 unfold aHM;simp only[hat,aE0,List.getD_cons_succ];rw[C8 AM];unfold dR;rw[hb];cases hd:a.data.toList with
 | nil=>grind
 | cons x l =>
   dsimp only;have hc:a.size≤(List.map (fun b:UInt8=>AV.int IntKind.u8 (b.toNat:Int)) (x::l)).length∧(1:Nat)≠0∧a.size≤1000000:=⟨by grind,by decide,h1⟩;rw[if_pos hc];have ha:(⟨⟨x::l⟩⟩:ByteArray)=a:=by
    rw[←hd]
   rw[ha];rfl
def aTu:XCode:=(.loop [1,5,6,9,10,11] (.seq (.reg [] false [⟨0,(some 12),(.bin .lss (.t 11) (.t 10)),none⟩]) (.seq (.cond (.t 12) .skip (.exit 0)) (.seq (.block 1 (.seq (.reg [] false [⟨0,(some 13),(.mv (.t 11)),none⟩,⟨0,(some 14),(.idx 1 (.t 9) (.t 11)),none⟩,⟨0,(some 15),(.load false 1 (.t 14)),none⟩,⟨0,(some 7),(.mv (.t 13)),none⟩,⟨0,(some 8),(.mv (.t 15)),none⟩]) (.seq (.reg [(8,false)] false [⟨0,(some 16),(.mv (.t 6)),none⟩,⟨0,(some 17),(.mv (.t 8)),none⟩,⟨0,(some 18),(.callf false (.c (.fn (.func 77) [] [])) [(.t 17)] []),none⟩,⟨0,(some 19),(.bslice 40 1 (bT (nf 0)) [(0,(40,(.t 18)))]),none⟩,⟨0,(some 20),(.app 40 40 (.t 16) (.t 19)),none⟩,⟨0,(some 6),(.mv (.t 20)),none⟩]) (.reg [(5,false)] false [⟨0,(some 21),(.mv (.t 6)),none⟩,⟨0,(some 22),(.mv (.t 7)),none⟩,⟨0,(some 23),(.idx 40 (.t 21) (.t 22)),none⟩,⟨0,(some 24),(.load true 40 (.t 23)),none⟩,⟨0,(some 25),(.mv (.t 1)),none⟩,⟨0,(some 26),(.mv (.t 7)),none⟩,⟨0,(some 27),(.bin .add (.t 25) (.t 26)),none⟩,⟨0,(some 28),(.callf false (.c (.fn (.func 78) [] [])) [(.t 24),(.t 27)] []),none⟩,⟨0,(some 29),(.callf false (.c (.fn (.func 32) [] [])) [(.t 5),(.t 28)] []),none⟩])))) (.reg [] false [⟨0,(some 30),(.bin .add (.t 11) (.c (.int .i64 1))),none⟩,⟨0,(some 11),(.mv (.t 30)),none⟩])))))
theorem aUs:aTH=aTu:=rfl
def yM(s:ByteArray):List Nat:=dQ (bN s)
theorem vV(s:ByteArray):(yM s).length=40:=iV _
theorem aGE(s:ByteArray):sR (yM s):=pW (aAZ s)
def Cn(ls:List ByteArray)(i:Nat):List Nat:=((ls.take i).map yM).flatten
def rwB(row:Nat)(f:List Nat):ByteArray:=xC (jH row f)
def Bn(ls:List ByteArray)(row:Nat):Nat→ByteArray
 | 0=>⟨⟨[]⟩⟩
 | i+1=>Bn ls row i++rwB (row+i) (yM (ls.getD i ⟨⟨[]⟩⟩))
theorem aOt{row:Nat}{f:List Nat}(h:f.length=40):(jH row f).length=45:=by simp[jH,pA,h]
theorem zK{row:Nat}{f:List Nat}(h:f.length=40):(rwB row f).size=45:=by
 unfold rwB xC
 grind [yV,aOt]
theorem aBW(ls:List ByteArray)(row:Nat):∀ i,(Bn ls row i).size=i*45
 | 0=>rfl
 | i+1=>by rw[Bn,I1,aBW ls row i,zK (vV _)];omega
theorem aSQ(a:ByteArray):(⟨⟨[]⟩⟩:ByteArray)++a=a:=by
 rfl
theorem oA{ls:List ByteArray}:∀{i:Nat},i≤ls.length→(Cn ls i).length=i*40
 | 0,_=>by simp[Cn]
 | i+1,h=>by
   have ih:=oA (ls:=ls) (i:=i) AM;unfold Cn at *;rw[I4];obtain⟨x,hx⟩:=oP (l:=ls) (i:=i) AM;rw[hx];simp only[Option.toList_some,N9,F8,aG7,aE1,M8,aA9,I2,C9,ih,vV];omega
theorem aTs{ls:List ByteArray}{i:Nat}{s:ByteArray}(h:ls[i]?=some s):Cn ls (i+1)=Cn ls i++yM s:=by
 grind [List.take_add_one,Cn]
theorem aXC(ls:List ByteArray)(i:Nat):sR (Cn ls i):=by
 intro k x h;have hm:=A5 h;unfold Cn at hm;obtain⟨l,h1,h2⟩:=aG4.1 hm;obtain⟨s,_,rfl⟩:=G1.1 h1;obtain⟨j,hj⟩:=E9 h2;exact aGE s j x hj
theorem bDw{ls:List ByteArray}{i:Nat}{s:ByteArray}(h:ls[i]?=some s):((bT (Cn ls (i+1))).drop (i*40)).take 40=bT (yM s):=by
 have hi:i<ls.length:=(D0.1 h).1;have hl:=oA (ls:=ls) (i:=i) AM;rw[aTs h];unfold bT;rw[N9,List.drop_append_of_le_length (by grind),J6 (by grind),G6];exact C8 (by rw[A9,vV];omega)
theorem aNC(a b:List Nat):bT a++bT b=bT (a++b):=by simp[bT]
theorem aXD{ls:List ByteArray}{row i:Nat}{s:ByteArray}(h:ls[i]?=some s):Bn ls row (i+1)=Bn ls row i++rwB (row+i) (yM s):=by
 grind [Bn]
def rS(ls:List ByteArray):List (List AV):=ls.map fun s=>[.str s]
theorem aVF(ls:List ByteArray):(rS ls).length=ls.length:=by simp[rS]
theorem q35{vs:List AV}{h:XH}(hl:vs.length≤15):runW aB 54 vs h=eX none x54.res x54.ownR h.length (execW aB 54 h.length none x54.body (aV (if x54.ownA then vs else lT vs)) h):=dO rfl hl h rfl
theorem w35(lo n hi:Int):runW aB 54 [I lo,I n,I hi] []=some (.bool (decide (lo≤n)&&decide (n≤hi)),[]):=by
 rw[q35 (by simp)];unfold x54;dsimp only;rcases ptf (lo≤n)with h1|h1
 ·have d1:decide (lo≤n)=true:=by simp[h1]
  (exact RS2 h1 d1)
 ·have d1:decide (lo≤n)=false:=by simp[h1]
  (exact RS2 h1 d1)
def lnE(s:ByteArray):Int:=if 40<s.size then 14 else if s.size=0||(sM s.data.toList||Lib.hasSuffix s.data.toList [32]) then 13 else 0
def emB:ByteArray:=⟨#[]⟩
def pgB(ls:List ByteArray)(row:Nat):ByteArray:=Bn ls row ls.length++rwB (row+ls.length) (fC (Cn ls ls.length) ls.length)
theorem aNH(s:ByteArray):s.toList=s.data.toList:=ByteArray.toList_eq s
theorem q16{vs:List AV}{h:XH}(hl:vs.length≤121):runW aB 74 vs h=eX none x74.res x74.ownR h.length (execW aB 74 h.length none x74.body (aV (if x74.ownA then vs else lT vs)) h):=dO rfl hl h rfl
def aTw:XCode:=(.loop [0,1,4,5,7,8,9,35,36] (.seq (.reg [] false [⟨0,(some 37),(.bin .lss (.t 36) (.t 35)),none⟩]) (.seq (.cond (.t 37) .skip (.exit 1)) (.seq (.block 2 (.seq (.reg [] false [⟨0,(some 38),(.mv (.t 36)),none⟩,⟨0,(some 10),(.mv (.t 38)),none⟩]) (.seq (.reg [] false [⟨0,(some 40),(.mv (.t 0)),none⟩,⟨0,(some 41),(.mv (.t 10)),none⟩,⟨0,(some 42),(.bin .mul (.t 41) (.c (.int .i64 45))),none⟩,⟨0,(some 43),(.mv (.t 10)),none⟩,⟨0,(some 44),(.bin .add (.t 43) (.c (.int .i64 1))),none⟩,⟨0,(some 45),(.bin .mul (.t 44) (.c (.int .i64 45))),none⟩,⟨0,(some 46),(.slstr (.t 40) (some (.t 42)) (some (.t 45))),none⟩,⟨0,(some 47),(.mv (.t 1)),none⟩,⟨0,(some 48),(.mv (.t 10)),none⟩,⟨0,(some 49),(.bin .add (.t 47) (.t 48)),none⟩,⟨0,(some 50),(.callf false (.c (.fn (.func 109) [] [])) [(.t 46),(.t 49)] []),none⟩,⟨0,(some 39),(.mv (.t 50)),none⟩,⟨0,(some 51),(.ext (.t 39) 0),none⟩,⟨0,(some 52),(.ext (.t 39) 1),none⟩,⟨0,(some 11),(.alloc (bT (nf 0))),none⟩,⟨0,none,(.store 40 (.t 11) (.t 51) []),none⟩,⟨0,(some 12),(.mv (.t 52)),none⟩]) (.seq (.seq (.reg [] false [⟨0,(some 53),(.mv (.t 12)),none⟩,⟨0,(some 54),(.not (.t 53)),none⟩]) (.cond (.t 54) (.seq (.reg [] false [⟨0,(some 55),(.mv (.t 10)),none⟩,⟨0,(some 9),(.mv (.t 55)),none⟩]) (.reg [] false [⟨0,(some 56),(.mv (.t 5)),none⟩,⟨0,(some 57),(.bin .add (.t 56) (.c (.int .i64 1))),none⟩,⟨0,(some 5),(.mv (.t 57)),none⟩])) .skip)) (.reg [] false [⟨0,(some 58),(.mv (.t 8)),none⟩,⟨0,(some 59),(.load true 40 (.t 11)),none⟩,⟨0,(some 60),(.bslice 40 1 (bT (nf 0)) [(0,(40,(.t 59)))]),none⟩,⟨0,(some 61),(.app 40 40 (.t 58) (.t 60)),none⟩,⟨0,(some 8),(.mv (.t 61)),none⟩]))))) (.reg [] false [⟨0,(some 62),(.bin .add (.t 36) (.c (.int .i64 1))),none⟩,⟨0,(some 36),(.mv (.t 62)),none⟩])))))
def aTv:XCode:=(.loop [4,5,105,106,107] (.seq (.reg [] false [⟨0,(some 108),(.bin .lss (.t 107) (.t 106)),none⟩]) (.seq (.cond (.t 108) .skip (.exit 4)) (.seq (.block 5 (.seq (.reg [] false [⟨0,(some 109),(.idx 40 (.t 105) (.t 107)),none⟩,⟨0,(some 110),(.load true 40 (.t 109)),none⟩,⟨0,(some 15),(.alloc (bT (nf 0))),none⟩,⟨0,none,(.store 40 (.t 15) (.t 110) []),none⟩]) (.reg [] false [⟨0,(some 111),(.mv (.t 4)),none⟩,⟨0,(some 112),(.load true 40 (.t 15)),none⟩,⟨0,(some 113),(.callf false (.c (.fn (.func 111) [] [])) [(.t 112)] []),none⟩,⟨0,(some 114),(.bslice 1 1 [(.str ⟨#[]⟩)] [(0,(1,(.t 113)))]),none⟩,⟨0,(some 115),(.app 1 16 (.t 111) (.t 114)),none⟩,⟨0,(some 4),(.mv (.t 115)),none⟩]))) (.reg [] false [⟨0,(some 116),(.bin .add (.t 107) (.c (.int .i64 1))),none⟩,⟨0,(some 107),(.mv (.t 116)),none⟩])))))
def aUt:XCode:=(.seq (.seq (.reg [] false [⟨0,(some 103),(.mv (.t 8)),none⟩,⟨0,(some 104),(.mv (.t 13)),none⟩,⟨0,(some 105),(.slsl 40 (.t 103) none (some (.t 104))),none⟩,⟨0,(some 106),(.len false (.t 105)),none⟩,⟨0,(some 107),(.mv (.c (.int .i64 0))),none⟩]) (.block 4 aTv)) (.seq (.seq (.reg [(4,false)] false [⟨0,(some 117),(.mv (.t 4)),none⟩,⟨0,(some 118),(.callf false (.c (.fn (.func 112) [] [])) [(.t 117),(.c (.str ⟨#[]⟩))] []),none⟩]) (.cond (.t 118) (.seq (.reg [] false [⟨0,(some 4),(.mv (.c .nilsl)),none⟩,⟨0,(some 5),(.mv (.c (.int .i64 0))),none⟩,⟨0,(some 6),(.mv (.c (.int .i64 13))),none⟩]) .ret) .skip)) (.seq (.reg [] false [⟨0,(some 119),(.mv (.t 4)),none⟩,⟨0,(some 120),(.mv (.t 5)),none⟩,⟨0,(some 4),(.mv (.t 119)),none⟩,⟨0,(some 5),(.mv (.t 120)),none⟩,⟨0,(some 6),(.mv (.c (.int .i64 0))),none⟩]) .ret)))
def aXH:XCode:=(.seq (.reg [] false [⟨0,(some 4),(.mv (.c .nilsl)),none⟩,⟨0,(some 5),(.mv (.c (.int .i64 0))),none⟩,⟨0,(some 6),(.mv (.c (.int .i64 0))),none⟩]) (.seq (.reg [] false [⟨0,(some 16),(.mv (.t 0)),none⟩,⟨0,(some 17),(.len true (.t 16)),none⟩,⟨0,(some 18),(.bin .quo (.t 17) (.c (.int .i64 45))),none⟩,⟨0,(some 7),(.mv (.t 18)),none⟩]) (.seq (.block 0 (.seq (.reg [] false [⟨0,(some 20),(.mv (.t 1)),none⟩,⟨0,(some 21),(.callf false (.c (.fn (.func 54) [] [])) [(.c (.int .i64 0)),(.t 20),(.c (.int .i64 1000))] []),none⟩,⟨0,(some 22),(.not (.t 21)),none⟩,⟨0,(some 19),(.mv (.t 22)),none⟩]) (.cond (.t 19) (.seq (.reg [] false [⟨0,(some 4),(.mv (.c .nilsl)),none⟩,⟨0,(some 5),(.mv (.c (.int .i64 0))),none⟩,⟨0,(some 6),(.mv (.c (.int .i64 2))),none⟩]) .ret) (.seq (.reg [] false [⟨0,(some 24),(.mv (.t 0)),none⟩,⟨0,(some 25),(.len true (.t 24)),none⟩,⟨0,(some 26),(.bin .rem (.t 25) (.c (.int .i64 45))),none⟩,⟨0,(some 27),(.bin .neq (.t 26) (.c (.int .i64 0))),none⟩,⟨0,(some 28),(.mv (.t 27)),none⟩,⟨0,(some 29),(.mv (.t 7)),(some (28,false))⟩,⟨0,(some 30),(.bin .lss (.t 29) (.c (.int .i64 2))),(some (28,false))⟩,⟨0,(some 31),(.pick (.t 28) (.c (.bool true)) (.t 30)),none⟩,⟨0,(some 23),(.mv (.t 31)),none⟩]) (.cond (.t 23) (.seq (.reg [] false [⟨0,(some 4),(.mv (.c .nilsl)),none⟩,⟨0,(some 5),(.mv (.c (.int .i64 0))),none⟩,⟨0,(some 6),(.mv (.c (.int .i64 20))),none⟩]) .ret) (.seq (.reg [] false [⟨0,(some 33),(.mv (.t 7)),none⟩,⟨0,(some 34),(.bin .gtr (.t 33) (.c (.int .i64 6))),none⟩,⟨0,(some 32),(.mv (.t 34)),none⟩]) (.cond (.t 32) (.seq (.reg [] false [⟨0,(some 4),(.mv (.c .nilsl)),none⟩,⟨0,(some 5),(.mv (.c (.int .i64 0))),none⟩,⟨0,(some 6),(.mv (.c (.int .i64 1))),none⟩]) .ret) .skip))))))) (.seq (.reg [] false [⟨0,(some 8),(.mv (.c .nilsl)),none⟩]) (.seq (.reg [] false [⟨0,(some 9),(.mv (.c (.int .i64 (-1)))),none⟩]) (.seq (.seq (.reg [] false [⟨0,(some 35),(.mv (.t 7)),none⟩,⟨0,(some 36),(.mv (.c (.int .i64 0))),none⟩]) (.block 1 aTw)) (.seq (.reg [] false [⟨0,(some 63),(.mv (.t 7)),none⟩,⟨0,(some 64),(.bin .sub (.t 63) (.c (.int .i64 1))),none⟩,⟨0,(some 13),(.mv (.t 64)),none⟩]) (.seq (.block 3 (.seq (.reg [] false [⟨0,(some 66),(.mv (.t 5)),none⟩,⟨0,(some 67),(.bin .gtr (.t 66) (.c (.int .i64 1))),none⟩,⟨0,(some 65),(.mv (.t 67)),none⟩]) (.cond (.t 65) (.seq (.reg [] false [⟨0,(some 4),(.mv (.c .nilsl)),none⟩,⟨0,(some 5),(.mv (.c (.int .i64 0))),none⟩,⟨0,(some 6),(.mv (.c (.int .i64 19))),none⟩]) .ret) (.seq (.reg [] true [⟨0,(some 69),(.mv (.t 5)),none⟩,⟨1,(some 70),(.bin .eql (.t 69) (.c (.int .i64 0))),none⟩,⟨2,(some 71),(.mv (.t 70)),none⟩,⟨3,(some 72),(.mv (.t 8)),(some (71,true))⟩,⟨4,(some 73),(.mv (.t 13)),(some (71,true))⟩,⟨5,(some 74),(.slsl 40 (.t 72) none (some (.t 73))),(some (71,true))⟩,⟨7,(some 76),(.mv (.t 8)),(some (71,true))⟩,⟨8,(some 77),(.mv (.t 13)),(some (71,true))⟩,⟨9,(some 78),(.idx 40 (.t 76) (.t 77)),(some (71,true))⟩,⟨10,(some 79),(.load true 40 (.t 78)),(some (71,true))⟩,⟨6,(some 75),(.callf false (.c (.fn (.func 79) [] [])) [(.t 74)] [10]),(some (71,true))⟩,⟨11,(some 80),(.eqag true (List.replicate 40 0) (.t 75) (.t 79)),(some (71,true))⟩,⟨12,(some 81),(.pick (.t 71) (.t 80) (.c (.bool false))),none⟩,⟨13,(some 68),(.mv (.t 81)),none⟩]) (.cond (.t 68) (.seq (.reg [] false [⟨0,(some 4),(.mv (.c .nilsl)),none⟩,⟨0,(some 5),(.mv (.c (.int .i64 0))),none⟩,⟨0,(some 6),(.mv (.c (.int .i64 22))),none⟩]) .ret) (.seq (.reg [] false [⟨0,(some 83),(.mv (.t 9)),none⟩,⟨0,(some 84),(.mv (.t 13)),none⟩,⟨0,(some 85),(.bin .sub (.t 84) (.c (.int .i64 1))),none⟩,⟨0,(some 86),(.callf false (.c (.fn (.func 54) [] [])) [(.c (.int .i64 0)),(.t 83),(.t 85)] []),none⟩,⟨0,(some 82),(.mv (.t 86)),none⟩]) (.cond (.t 82) (.seq (.reg [] false [⟨0,(some 87),(.mv (.t 8)),none⟩,⟨0,(some 88),(.mv (.t 9)),none⟩,⟨0,(some 89),(.callf false (.c (.fn (.func 77) [] [])) [(.c (.str ⟨#[]⟩))] []),none⟩,⟨0,(some 90),(.idx 40 (.t 87) (.t 88)),none⟩,⟨0,none,(.store 40 (.t 90) (.t 89) []),none⟩]) (.reg [] true [⟨0,(some 91),(.mv (.t 8)),none⟩,⟨1,(some 92),(.mv (.t 9)),none⟩,⟨2,(some 93),(.mv (.t 8)),none⟩,⟨3,(some 94),(.mv (.t 13)),none⟩,⟨4,(some 95),(.idx 40 (.t 93) (.t 94)),none⟩,⟨5,(some 96),(.load true 40 (.t 95)),none⟩,⟨6,(some 97),(.mv (.t 8)),none⟩,⟨7,(some 98),(.mv (.t 13)),none⟩,⟨8,(some 99),(.slsl 40 (.t 97) none (some (.t 98))),none⟩,⟨9,(some 100),(.callf false (.c (.fn (.func 79) [] [])) [(.t 99)] [5]),none⟩,⟨10,(some 101),(.callf false (.c (.fn (.func 110) [] [])) [(.t 96),(.t 100),(.c (.int .i64 94))] []),none⟩,⟨11,(some 102),(.idx 40 (.t 91) (.t 92)),none⟩,⟨12,none,(.store 40 (.t 102) (.t 101) []),none⟩])) .skip))))))) aUt))))))))
theorem aUu:x74=⟨121,[(4,none),(5,none),(6,none)],false,false,aXH,none,none⟩:=rfl
theorem aNJ(a b:Nat):oV (a:Int) (b:Int)=((a/b:Nat):Int):=by
 rfl
def rwS(s:ByteArray)(i:Nat):ByteArray:=nV s (i*45) ((i+1)*45)
def gdS(s:ByteArray)(row i:Nat):Bool:=aFn (rwS s i) (row+i)
def FnS(s:ByteArray):Nat→List Nat
 | 0=>[]
 | i+1=>FnS s i++rdF (rwS s i)
def bdS(s:ByteArray)(row:Nat):Nat→Int
 | 0 => -1
 | i+1=>if gdS s row i then bdS s row i else (i:Int)
def mdS(s:ByteArray)(row:Nat):Nat→Nat
 | 0=>0
 | i+1=>if gdS s row i then mdS s row i else mdS s row i+1
theorem aGp(s:ByteArray):(rdF s).length=40:=iV _
theorem rU(s:ByteArray):∀ i,(FnS s i).length=i*40
 | 0=>rfl
 | i+1=>by rw[FnS,C9,rU s i,aGp];omega
theorem aLw(s:ByteArray):∀ i,sR (FnS s i)
 | 0=>by simp[sR,FnS]
 | i+1=>by
   intro k x h;rw[FnS,G4]at h;split at h;·exact aLw s i k x h
   ·exact pW (aAZ _) _ x h
theorem aJu(s:ByteArray)(row:Nat):∀ i,mdS s row i≤i
 | 0=>A6 _
 | i+1=>by
   have:=aJu s row i;rw[mdS];split<;>omega
theorem aQE(s:ByteArray)(row:Nat):∀ i,-1≤bdS s row i∧bdS s row i<i
 | 0=>by simp[bdS]
 | i+1=>by
   have:=aQE s row i
   grind [bdS]
theorem aCA{s:ByteArray}{i:Nat}(h:(i+1)*45≤s.size):(rwS s i).size=45:=by
 unfold rwS;rw[←aLg,ByteArray.size_extract];omega

def setC(C:List Nat)(k:Nat)(f:List Nat):List Nat:=C.take (k*40)++(f++C.drop (k*40+40))
def aJE(C:List Nat)(n k:Nat):List Nat:=setC (setC C k (dQ [])) k (eF 94 (eV (setC C k (dQ [])) n) (fC (setC C k (dQ [])) n))
def lns(C:List Nat)(n:Nat):List ByteArray:=(List.range n).map fun i=>lnB (eV C i)
def erV(e:Int):AV:=.tup [.fs [],I 0,I e]
def aCX(C:List Nat)(n md:Nat):AV:=if Lib.containsS (lns C n) emB then erV 13 else .tup [.fs (rS (lns C n)),I (md:Nat),I 0]
def uY(C:List Nat)(n:Nat)(bad:Int)(md:Nat):AV:=if 1<md then erV 19 else if md=0∧fC C n≠eV C n then erV 22 else
 if 0≤bad∧bad<n then aCX (aJE C n bad.toNat) n md else aCX C n md
def mnV(s:ByteArray)(row:Int):AV:=if (decide (0≤row)&&decide (row≤1000))=true then
 (if s.size%45≠0∨s.size/45<2 then erV 20 else if 6<s.size/45 then erV 1 else uY (FnS s (s.size/45)) (s.size/45-1) (bdS s row.toNat (s.size/45)) (mdS s row.toNat (s.size/45))) else erV 2
def mS(i:Nat):AV:=if i=0 then .nilsl else .sl 0 0 40 i
def mG(s:ByteArray)(i:Nat):XH:=if i=0 then [] else [some (.blk true (.cells true (bT (FnS s i))))]

theorem q47{xs:List AV}{h:XH}:runW aB 112 xs h=aHN xs h:=eJ rfl rfl xs h
theorem aKp:∀ l:List ByteArray,sZ (rS l)=some l
 | []=>rfl
 | s::l=>by
   have ih:=aKp l;show (sZ (rS l)).map (s :: ·)=_;rw[ih];rfl
theorem w47{l:List ByteArray}{x:ByteArray}(h:l.length≤1000000):runW aB 112 [.fs (rS l),.str x] []=some (.bool (Lib.containsS l x),[]):=by
 rw[q47];unfold aHN;dsimp only;rw[aKp];grind
def oE(l:List ByteArray):List AV:=l.map AV.str
theorem aFQ(l:List ByteArray):(oE l).length=l.length:=by simp[oE]
theorem eS(l:List ByteArray):kB (oE l)=[]:=aPp (fun _=>rfl) _
theorem eQ(l:List ByteArray):xM (oE l)=[]:=aPn (fun _=>rfl) _
theorem eR(f:Nat→Option Nat)(l:List ByteArray):kD f (oE l)=oE l:=aPo (fun _=>rfl) _
theorem mL(l:List ByteArray):kY (oE l)=true:=eU fun v hv=>by
 grind [jD,oE]
theorem aVh(l:List ByteArray):bM (oE l) 0 1 l.length=rS l:=rM (f:=AV.str) l []
theorem aKQ(C:List Nat)(n:Nat):(lns C n).length=n:=by simp[lns]
theorem bAR(C:List Nat)(i:Nat):oE (lns C i)++[.str (lnB (eV C i))]=oE (lns C (i+1)):=by
 simp[oE,lns,aB7]
def tS(i:Nat):AV:=if i=0 then .nilsl else .sl 0 0 1 i
def tB(p i:Nat):AV:=if i=0 then .sl 0 0 40 p else .sl 1 0 40 p
def tG(C:List Nat)(i:Nat):XH:=if i=0 then [some (.blk true (.cells true (bT C)))] else [some (.blk true (.cells true (oE (lns C i)))),some (.blk true (.cells true (bT C)))]
theorem t16{C:List Nat}{n p md:Nat}{e:aH}(hn:n=p+1)(hC:C.length=n*40)(hb:sR C)(h0:1≤p)(h1:p≤1000)(e4:e 4 = .nilsl)(e5:e 5=I (md:Nat))(e8:e 8 = .sl 0 0 40 n)(e13:e 13=I (p:Nat)) :
 eX none [(4,none),(5,none),(6,none)] false 0 (execW aB 74 0 none aUt e [some (.blk true (.cells true (bT C)))])=some (aCX C p md,[]):=by
 unfold aUt;have z1:((p:Int)≤(n:Int))=True:=AAa;have z2:(0<p)=True:=AAa;sym =>
  simp[dM,dN,gT,Za,Zb,Zf,Zh,Zl,Zm,Zn,Zv,ZL,ZQ,Yu,YJ,YK,T2,Sq,Sr,Ss,Ra,Rf,Rg,Ro,Rp,RC,RG,RJ,RK,Qd,e4,e5,e8,e13,z1,z2]
  tactic =>
   unfold aTv;rw[aQ p (fun i=>[tS i,I (md:Nat),tB p i,I (p:Nat),I (i:Nat)]) (fun i=>tG C i)]
   ·have s0:tS p = .sl 0 0 1 p:=if_neg AM
    have b0:tB p p = .sl 1 0 40 p:=if_neg AM;have g0:tG C p=[some (.blk true (.cells true (oE (lns C p)))),some (.blk true (.cells true (bT C)))]:=if_neg AM;have x0:((p:Int)<(p:Int))=False:=AAb;have ll:=aKQ C p;have lc:=aFQ (lns C p);rw[ll]at lc;have ch:=aVh (lns C p);rw[ll]at ch;have c1:=w47 (l:=lns C p) (x:=⟨#[]⟩) AM;unfold aCX;have hE:Lib.containsS (lns C p) emB=Lib.containsS (lns C p) ⟨#[]⟩:=rfl;rw[hE];have p1:(p*1≤p)=True:=AAa;have p2:(p≤p)=True:=AAa;generalize lns C p=L at *;cases hc:Lib.containsS L ⟨#[]⟩with
    | true =>
      rw[hc]at c1;unfold erV;(exact RT9 s0 b0 g0 x0 lc ch c1 p1 p2)
    | false =>
      rw[hc]at c1;(exact RT9 s0 b0 g0 x0 lc ch c1 p1 p2)
   ·have s0:tS 0 = .nilsl:=rfl
    have b0:tB p 0 = .sl 0 0 40 p:=rfl;have g0:tG C 0=[some (.blk true (.cells true (bT C)))]:=rfl;(exact RT9 s0 b0 g0 e4 e5 cQ cM cL cR)
   ·intro i hi
    have i1:((i:Int)<(p:Int))=True:=AAa;have a2:=pL hi AM;have hC2:p*40≤C.length:=AM
    have lC:=bE C;have i3:(i*40+40≤(bT C).length)=True:=AAk (by
     omega)
    have fu:=aFt (C:=C) (k:=i);have l5:=rF hC2 hi;have c1:=w46 l5;rw[bS]at c1;have m5:=bE (eV C i);rw[l5]at m5;have l0:(bT (nf 0)).length=40:=by rfl
    have gz:=bO (nf 0);have c8:=kI (a:=nf 0) (b:=eV C i) (by grind [oZ]);have k5:=gW l5;have k6:=lA l5;have g5:=bO (eV C i);have gC:=bO C;have ls:=bAR C i;have n1:=aFQ (lns C i);rw[aKQ]at n1;have n2:=mL (lns C i);have n3:=mL (lns C (i+1));have s1:tS (i+1) = .sl 0 0 1 (i+1):=if_neg AM;have b1:tB p (i+1) = .sl 1 0 40 p:=if_neg AM;have g1:tG C (i+1)=[some (.blk true (.cells true (oE (lns C (i+1))))),some (.blk true (.cells true (bT C)))]:=if_neg AM;have z3:(i+1≤1099511627776)=True:=AAa;have z4:((i+1)*16≤1099511627776)=True:=AAa;by_cases hi0:i=0
    ·subst hi0
     have s0:tS 0 = .nilsl:=rfl;have b0:tB p 0 = .sl 0 0 40 p:=rfl;have g0:tG C 0=[some (.blk true (.cells true (bT C)))]:=rfl;have L0:oE (lns C 0)=[]:=rfl;rw[L0,G6]at ls;have j1:((0:Int)<(p:Int))=True:=AAa;rw[s1,b1,g1];rw[←ls];have fu:List.take 40 (bT C)=bT (eV C 0):=fu;have fv:List.take 40 (List.drop 0 (bT C))=bT (eV C 0):=fu;have i3:(40≤(bT C).length)=True:=AAa;generalize lnB (eV C 0)=B at *;generalize eV C 0=f at *;(exact aEF j1 i3 fu fv m5 c1 l0 gz c8 k5 k6 g5 gC s0 b0 g0 cQ cM cL cR)
    ·have s0:tS i = .sl 0 0 1 i:=if_neg hi0
     have b0:tB p i = .sl 1 0 40 p:=if_neg hi0;have g0:tG C i=[some (.blk true (.cells true (oE (lns C i)))),some (.blk true (.cells true (bT C)))]:=if_neg hi0;rw[s1,b1,g1];generalize lns C (i+1)=L1 at *;generalize lns C i=L0 at *;generalize lnB (eV C i)=B at *;generalize eV C i=f at *;(sym=>(simp[dM,dN,gT,Za,Zb,Zc,Zd,Ze,Zf,Zh,Zl,Zm,Zo,Zv,Zw,Z8,ZA,ZH,ZU,ZY,ZZ,Yc,Yg,Yk,Yl,Ym,Yx,Y5,YE,YJ,YK,Xy,XJ,XN,Wh,Wu,Ww,Wy,W4,Vr,Vs,V3,V4,V5,V6,V7,V8,V9,VA,VD,VE,VH,VI,VK,VM,VN,VO,VP,VQ,VR,VS,VT,VU,VV,VW,VZ,Ua,Uf,Ui,Uj,Uk,UW,UX,UY,UZ,Ta,Tf,Tg,Th,Ti,Tj,Tm,Tn,Tp,Ts,Tv,T2,T6,T7,T9,TR,TS,TT,TU,TV,TW,TX,TY,Sg,Si,Sj,Sk,Sy,Sz,S2,S3,S8,S9,SA,SC,SD,SF,SG,SK,SM,SN,SQ,SS,SU,SV,SY,Ra,Rc,Rf,Rg,Rj,Rm,Ro,Rp,RY,RZ,Qa,Qh,PC,PD,PE,PG,i1,a2,i3,fu,m5,c1,l0,gz,c8,k5,k6,g5,gC,ls,n1,n2,n3,s0,b0,g0,z3,z4,cQ,cM,cL,cR,eS,eQ,eR];all_goals tactic=>exact rfl))
   ·have x0:((p:Int)<(p:Int))=False:=AAb
    (exact RT1 x0)

theorem aFC:∀{a b:List Nat}{n:Nat},a.length=n→b.length=n→bC (List.replicate n 0) (bT a) (bT b)=some (decide (a=b))
 | [],[],0,_,_=>rfl
 | x::a,y::b,n+1,ha,hb=>by
   have ih:=aFC (a:=a) (b:=b) (n:=n) (by grind) (by grind);rw[H6];show (match kU 0 (.int .u8 (x:Int)) (.int .u8 (y:Int)),bC (List.replicate n 0) (bT a) (bT b)with
    | some x,some y=>some (x&&y)
    | _,_=>none)=_
   rw[ih];show some (decide ((x:Int)=(y:Int))&&decide (a=b))=_;congr 1
   grind
theorem aKw{C:List Nat}{k:Nat}{f:List Nat}(hf:f.length=40):bG (bT C) (k*40) (bT f)=bT (setC C k f):=by
 simp_all [bG,bT,setC]
theorem tJ{C:List Nat}{k n:Nat}{f:List Nat}(hC:C.length=n*40)(hk:k<n)(hf:f.length=40):(setC C k f).length=n*40:=by
 grind [setC]
theorem yZ{C:List Nat}{k:Nat}{f:List Nat}(hC:sR C)(hf:sR f):sR (setC C k f):=by
 grind [sR,setC]
theorem aDG{C:List Nat}{n p:Nat}(hC:C.length=n*40)(hp:n=p+1):(eV C p).length=40:=rF (n:=n) AM AM
theorem aQF(b:Bool):b=false∨b=true:=by grind
theorem aFV:∀ l:List Nat,fO (bT l) (bT l)=true
 | []=>rfl
 | x::l=>by
   show (cD (.int .u8 (x:Int)) (.int .u8 (x:Int))&&fO (bT l) (bT l))=true;rw[aFV l];simp[cD]
theorem aLj:runW aB 77 [.str ⟨#[]⟩] []=some (.agg (bT (dQ [])),[]):=w44 ⟨#[]⟩
theorem w16{s:ByteArray}{row:Int}(hz:s.size≤1000000):runW aB 74 [.str s,I row] []=some (mnV s row,[]):=by
 rw[q16 (by simp),aUu];unfold aXH;dsimp only;have c1:=w35 0 row 1000;have d1:oV (s.size:Int) 45=((s.size/45:Nat):Int):=aNJ s.size 45;have d2:wP (s.size:Int) 45=((s.size%45:Nat):Int):=gY s.size 45;have d3:IntKind.i64.wrap ((s.size/45:Nat):Int)=((s.size/45:Nat):Int):=aE AM AM;cases hb:decide (0≤row)&&decide (row≤1000)with
 | false =>
   rw[hb]at c1;have hv:mnV s row=erV 2:=by unfold mnV;grind
   rw[hv];unfold erV;(exact RT4 c1 d1 d2 d3)
 | true =>
   rw[hb]at c1;rcases ptf (s.size%45=0)with h0|h0
   ·have h0':=of_eq_true h0
    have z0:(((s.size%45:Nat):Int)=0)=True:=AAa;rcases ptf (s.size/45<2)with h2|h2
    ·have h2':=of_eq_true h2
     have z2:(((s.size/45:Nat):Int)<2)=True:=AAa;have hv:mnV s row=erV 20:=by unfold mnV;grind
     rw[hv];unfold erV;generalize s.size%45=rm at *;generalize s.size/45=n at *;(exact RT7 c1 d1 d2 d3 z0 z2 aG)
    ·have h2':=of_eq_false h2
     have z2:(((s.size/45:Nat):Int)<2)=False:=AAb;rcases ptf (6<s.size/45)with h6|h6
     ·have h6':=of_eq_true h6
      have z6:((6:Int)<((s.size/45:Nat):Int))=True:=AAa;have hv:mnV s row=erV 1:=by unfold mnV;grind
      rw[hv];unfold erV;generalize s.size%45=rm at *;generalize s.size/45=n at *;(exact RT7 c1 d1 d2 d3 z0 z2 z6)
     ·have h6':=of_eq_false h6
      have z6:((6:Int)<((s.size/45:Nat):Int))=False:=AAb;have hv:mnV s row=uY (FnS s (s.size/45)) (s.size/45-1) (bdS s row.toNat (s.size/45)) (mdS s row.toNat (s.size/45)):=by unfold mnV;grind
      rw[hv];have hsz:s.size/45*45=s.size:=AM
      simp only[A4,AAf]at hb;obtain⟨R,hR⟩:∃ R:Nat,row=(R:Int):=⟨row.toNat,by omega⟩;have hR1:row.toNat=R:=AM
      rw[hR1];subst hR;generalize s.size%45=rm at *;generalize s.size/45=n at *;sym =>
       simp[dM,dN,gT,Za,Zb,Zf,Zh,Zl,Zm,Zp,Zr,Zv,Zy,ZA,ZD,ZQ,Yc,Yg,Yl,Ym,Yo,Yp,Yw,YD,YE,YG,Xy,Wu,Wv,Vb,Vd,VA,VB,VK,VO,VQ,VV,VW,Ui,Uj,Uk,UV,UZ,Tb,Te,Tf,Tg,Ti,Tj,Tp,Ty,T7,T8,TS,TT,TU,TV,TW,Se,Sf,SY,Ra,Rc,Rf,Rg,Rj,Ro,Rp,PC,PD,PE,PG,c1,d1,d2,d3,z0,z2,z6]
       tactic =>
        unfold aTw;rw[aQ n (fun i=>[.str s,I (R:Int),.nilsl,I (mdS s R i:Nat),I (n:Nat),mS i,I (bdS s R i),I (n:Nat),I (i:Nat)]) (fun i=>mG s i)]
        ·obtain⟨p,hp⟩:∃ p,n=p+1:=⟨n-1,by omega⟩
         have hnp:n-1=p:=AM
         have s0:mS n = .sl 0 0 40 n:=if_neg AM;have g0:mG s n=[some (.blk true (.cells true (bT (FnS s n))))]:=if_neg AM;have x0:((n:Int)<(n:Int))=False:=AAb;have wr:IntKind.i64.wrap ((n:Int)-1)=(p:Int):=by grind [aE]
         have wq:IntKind.i64.wrap ((p:Int)-1)=(p:Int)-1:=aE AM AM;have hC:=rU s n;have hB:=aLw s n;have hmd:=aJu s R n;have hbd:=aQE s R n;rw[hnp];generalize FnS s n=C at *;generalize mdS s R n=md at *;generalize bdS s R n=bad at *;have lC:=bE C;rw[hC]at lC;have gC:=bO C;have sC:=aFV C;rcases ptf ((1:Int)<(md:Int))with k1|k1
         ·have hv:uY C p bad md=erV 19:=by unfold uY;grind
          rw[hv];unfold erV;(exact aEa s0 g0 x0 wr k1 lC gC cQ cM cL cR aG aG)
         ·have k1':¬1<md:=by grind
          rcases ptf ((md:Int)=0)with k0|k0
          ·have k0':md=0:=by grind
           have f9:=aFt (C:=C) (k:=p);have l9:=aDG hC hp;have l8:=fL (C:=C) (n:=p) AM p (A6 _);have cs9:=w43 (C:=C) (n:=p) AM hB AM;rw[bS]at cs9;have ce:=aFC l8 l9;have y1:((p:Int)<(n:Int))=True:=AAa;have y2:(p*40+40≤n*40)=True:=AAa;have y3:((p:Int)≤(n:Int))=True:=AAa;have y4:(0<p)=True:=AAa;have g9:=bO (eV C p);have g8:=bO (fC C p);have m9:=bE (eV C p);rw[l9]at m9;have m8:=bE (fC C p);rw[l8]at m8;rcases aQF (decide (fC C p=eV C p))with hq|hq
           ·skip
            rw[hq]at ce;have hv:uY C p bad md=erV 22:=by unfold uY;grind
            rw[hv];unfold erV;(exact pD s0 g0 x0 wr wq k1 k0 lC gC sC f9 cs9 ce y1 y2 y3 y4 g9 g8 m9 m8 cQ cM cL cR aG)
           ·skip
            rw[hq]at ce;have hz9:¬(md=0∧fC C p≠eV C p):=fun hh=>hh.2 (of_decide_eq_true hq);have c35:=w35 0 bad ((p:Int)-1);rcases aQF (decide (0≤bad)&&decide (bad≤(p:Int)-1))with hbt|hbt
            ·skip
             rw[hbt]at c35;have hfx:¬(0≤bad∧bad<p):=fun hh=>by
              grind
             have hv:uY C p bad md=aCX C p md:=by unfold uY;grind
             rw[hv];sym =>
              simp[dM,dN,gT,Za,Zb,Zd,Ze,Zf,Zh,Zi,Zl,Zm,Zn,Zp,Zq,Zv,Zy,ZA,ZB,ZH,ZL,ZV,ZX,Ya,Yc,Yg,Yh,Yi,Yl,Ym,Yn,Yx,Y6,YC,YE,YG,YJ,YK,Xm,Xn,Xy,XN,Wu,Wv,Wy,W4,V3,V4,V5,V6,V9,VA,VD,VF,VH,VK,VM,VN,VO,VQ,VR,VV,VW,VX,VZ,Ua,Uf,Ui,Uj,Uk,Ul,Un,Uo,Ur,Us,UW,UZ,Tb,Tf,Tg,Ti,Tj,Tn,Tp,Tv,Ty,T1,T2,T6,T7,T8,T9,TR,TS,TT,TU,TV,TW,Sq,Sr,Ss,SE,SF,SG,SK,SY,Ra,Rc,Re,Rf,Rg,Rh,Rj,Rl,Ro,Rp,RC,RG,RJ,RK,RZ,Qd,QS,PC,PD,PE,PG,PH,s0,g0,x0,wr,wq,k1,lC,gC,sC,c35,cQ,cM,cL,cR,k0,f9,cs9,ce,y1,y2,y3,y4,g9,g8,m9,m8]
              tactic =>
               exact t16 hp hC hB AM AM rfl rfl rfl rfl
            ·skip
             rw[hbt]at c35;have hfx:0≤bad∧bad<p:=by
              grind
             have hv:uY C p bad md=aCX (aJE C p bad.toNat) p md:=by unfold uY;grind
             rw[hv];obtain⟨k,hk⟩:∃ k:Nat,bad=(k:Int):=⟨bad.toNat,by omega⟩;subst hk;have ht:((k:Int)).toNat=k:=rfl;rw[ht];unfold aJE;have j1:((k:Int)<(n:Int))=True:=AAa;have f0:=aLj;have le0:=iV [];have su:=aKw (C:=C) (k:=k) le0;have hC1:=tJ (k:=k) hC AM le0;have hB1:=yZ (k:=k) hB (pW (l:=[]) (fun i x h=>by simp at h));have m0:=bE (dQ []);rw[le0]at m0;have t0:=gW le0;have gf0:=bO (dQ []);generalize setC C k (dQ [])=C1 at *;have lC1:=bE C1;rw[hC1]at lC1;have gC1:=bO C1;have sC1:=aFV C1;have f1:=aFt (C:=C1) (k:=p);have lf1:=aDG hC1 hp;have cs:=w43 (C:=C1) (n:=p) AM hB1 AM;rw[bS]at cs;have ls1:=fL (C:=C1) (n:=p) AM p (A6 _);have w9:=w45 (t:=94) lf1 ls1 (aBS hB1 p) (vL p) AM;rw[bS,bS,bS]at w9;have w9:runW aB 110 [.agg (bT (eV C1 p)),.agg (bT (fC C1 p)),I 94] []=some (.agg (bT (eF 94 (eV C1 p) (fC C1 p))),[]):=w9;have lp:=mZ (t:=94) (l:=eV C1 p) (m:=fC C1 p) AM;rw[lf1]at lp;have bp:=vQ (t:=94) (l:=eV C1 p) (m:=fC C1 p);have su2:=aKw (C:=C1) (k:=k) lp;have hC2:=tJ (k:=k) hC1 AM lp;have hB2:=yZ (k:=k) hB1 bp;have q1:=bE (eV C1 p);rw[lf1]at q1;have q2:=bE (fC C1 p);rw[ls1]at q2;have q3:=bE (eF 94 (eV C1 p) (fC C1 p));rw[lp]at q3;have g1:=bO (eV C1 p);have g2:=bO (fC C1 p);have g3:=bO (eF 94 (eV C1 p) (fC C1 p));have tk1:=gW lp;generalize eF 94 (eV C1 p) (fC C1 p)=fp at *;generalize fC C1 p=fs at *;generalize eV C1 p=fa at *;generalize setC C1 k fp=C2 at *;have kl:(k*40+40≤n*40)=True:=AAa;sym =>
              simp[dM,dN,gT,Za,Zb,Zc,Zd,Ze,Zf,Zh,Zi,Zl,Zm,Zn,Zp,Zq,Zv,Zy,ZA,ZB,ZH,ZL,ZV,ZX,ZY,ZZ,Ya,Yb,Yc,Yg,Yh,Yi,Yl,Ym,Yn,Yx,Y6,YC,YE,YG,YJ,YK,Xm,Xn,Xy,XI,XJ,XN,Wu,Wv,Ww,Wy,W4,Vs,V1,V3,V4,V5,V6,V9,VA,VD,VF,VH,VK,VM,VN,VO,VQ,VR,VV,VW,VX,VZ,Ua,Uf,Ui,Uj,Uk,Ul,Um,Un,Uo,Ur,Us,UW,UZ,Ta,Tb,Tf,Tg,Ti,Tj,Tn,Tp,Tv,Ty,Tz,T0,T1,T2,T6,T7,T8,T9,TR,TS,TT,TU,TV,TW,Sq,Sr,Ss,SE,SF,SG,SK,SM,SN,SY,Ra,Re,Rf,Rg,Rh,Rj,Rl,Ro,Rp,RC,RG,RJ,RK,RZ,Qd,QL,QS,PC,PD,PE,PG,PH,s0,g0,x0,wr,wq,k1,lC,gC,sC,c35,cQ,cM,cL,cR,k0,f9,cs9,ce,y1,y2,y3,y4,g9,g8,m9,m8,j1,f0,su,m0,t0,gf0,lC1,gC1,sC1,f1,cs,w9,su2,q1,q2,q3,g1,g2,g3,tk1,kl]
              tactic =>
               exact t16 hp hC2 hB2 AM AM rfl rfl rfl rfl
          ·have k0':¬md=0:=by grind
           have hz9:¬(md=0∧fC C p≠eV C p):=fun hh=>k0' hh.1;have y1:((p:Int)<(n:Int))=True:=AAa;have y2:(p*40+40≤n*40)=True:=AAa;have y3:((p:Int)≤(n:Int))=True:=AAa;have y4:(0<p)=True:=AAa;have c35:=w35 0 bad ((p:Int)-1);rcases aQF (decide (0≤bad)&&decide (bad≤(p:Int)-1))with hbt|hbt
           ·skip
            rw[hbt]at c35;have hfx:¬(0≤bad∧bad<p):=fun hh=>by
             grind
            have hv:uY C p bad md=aCX C p md:=by unfold uY;grind
            rw[hv];sym =>
             simp[dM,dN,gT,Za,Zb,Zf,Zh,Zi,Zl,Zm,Zp,Zs,Zv,Zy,ZA,Yc,Yg,Yl,Ym,Yo,Y6,YC,YE,YG,Xy,Wu,Wv,VA,VK,VO,VQ,VV,VW,Ui,Uj,Uk,UW,UZ,Tb,Tf,Tg,Ti,Tj,Tn,Tp,T8,TS,TT,TU,TV,TW,SE,SY,Ra,Rc,Re,Rf,Rg,Rh,Rj,Rl,Ro,Rp,PC,PD,PE,PG,s0,g0,x0,wr,wq,k1,lC,gC,sC,c35,cQ,cM,cL,cR,k0,y1,y2,y3,y4]
             tactic =>
              exact t16 hp hC hB AM AM rfl rfl rfl rfl
           ·skip
            rw[hbt]at c35;have hfx:0≤bad∧bad<p:=by
             grind
            have hv:uY C p bad md=aCX (aJE C p bad.toNat) p md:=by unfold uY;grind
            rw[hv];obtain⟨k,hk⟩:∃ k:Nat,bad=(k:Int):=⟨bad.toNat,by omega⟩;subst hk;have ht:((k:Int)).toNat=k:=rfl;rw[ht];unfold aJE;have j1:((k:Int)<(n:Int))=True:=AAa;have f0:=aLj;have le0:=iV [];have su:=aKw (C:=C) (k:=k) le0;have hC1:=tJ (k:=k) hC AM le0;have hB1:=yZ (k:=k) hB (pW (l:=[]) (fun i x h=>by simp at h));have m0:=bE (dQ []);rw[le0]at m0;have t0:=gW le0;have gf0:=bO (dQ []);generalize setC C k (dQ [])=C1 at *;have lC1:=bE C1;rw[hC1]at lC1;have gC1:=bO C1;have sC1:=aFV C1;have f1:=aFt (C:=C1) (k:=p);have lf1:=aDG hC1 hp;have cs:=w43 (C:=C1) (n:=p) AM hB1 AM;rw[bS]at cs;have ls1:=fL (C:=C1) (n:=p) AM p (A6 _);have w9:=w45 (t:=94) lf1 ls1 (aBS hB1 p) (vL p) AM;rw[bS,bS,bS]at w9;have w9:runW aB 110 [.agg (bT (eV C1 p)),.agg (bT (fC C1 p)),I 94] []=some (.agg (bT (eF 94 (eV C1 p) (fC C1 p))),[]):=w9;have lp:=mZ (t:=94) (l:=eV C1 p) (m:=fC C1 p) AM;rw[lf1]at lp;have bp:=vQ (t:=94) (l:=eV C1 p) (m:=fC C1 p);have su2:=aKw (C:=C1) (k:=k) lp;have hC2:=tJ (k:=k) hC1 AM lp;have hB2:=yZ (k:=k) hB1 bp;have q1:=bE (eV C1 p);rw[lf1]at q1;have q2:=bE (fC C1 p);rw[ls1]at q2;have q3:=bE (eF 94 (eV C1 p) (fC C1 p));rw[lp]at q3;have g1:=bO (eV C1 p);have g2:=bO (fC C1 p);have g3:=bO (eF 94 (eV C1 p) (fC C1 p));have tk1:=gW lp;generalize eF 94 (eV C1 p) (fC C1 p)=fp at *;generalize fC C1 p=fs at *;generalize eV C1 p=fa at *;generalize setC C1 k fp=C2 at *;have kl:(k*40+40≤n*40)=True:=AAa;sym =>
             simp[dM,dN,gT,Za,Zb,Zc,Zd,Ze,Zf,Zh,Zi,Zl,Zm,Zn,Zp,Zs,Zv,Zy,ZA,ZH,ZL,ZV,ZX,ZY,ZZ,Ya,Yb,Yc,Yg,Yh,Yi,Yl,Ym,Yo,Yx,Y6,YC,YE,YG,YJ,YK,Xy,XI,XJ,XN,Wu,Wv,Ww,Wy,W4,Vs,V1,V3,V4,V5,V6,V9,VA,VD,VF,VH,VK,VM,VN,VO,VQ,VR,VV,VW,VX,VZ,Ua,Uf,Ui,Uj,Uk,Ul,Um,Un,Uo,Ur,Us,UW,UZ,Ta,Tb,Tf,Tg,Ti,Tj,Tn,Tp,Tv,Ty,Tz,T0,T1,T2,T6,T8,T9,TR,TS,TT,TU,TV,TW,Sq,Sr,Ss,SE,SF,SG,SK,SM,SN,SY,Ra,Re,Rf,Rg,Rh,Rj,Rl,Ro,Rp,RC,RG,RJ,RK,RZ,Qd,QL,QS,PC,PD,PE,PG,PH,s0,g0,x0,wr,wq,k1,lC,gC,sC,c35,cQ,cM,cL,cR,k0,y1,y2,y3,y4,j1,f0,su,m0,t0,gf0,lC1,gC1,sC1,f1,cs,w9,su2,q1,q2,q3,g1,g2,g3,tk1,kl]
             tactic =>
              exact t16 hp hC2 hB2 AM AM rfl rfl rfl rfl
        ·rfl
        ·intro i hi
         have i1:((i:Int)<(n:Int))=True:=AAa;have a2:=pL hi AM;have a3:IntKind.i64.wrap ((i:Int)*45)=((i*45:Nat):Int):=by grind [aE]
         have a4:IntKind.i64.wrap (((i:Int)+1)*45)=(((i+1)*45:Nat):Int):=by grind [aE]
         have a5:IntKind.i64.wrap ((R:Int)+(i:Int))=((R+i:Nat):Int):=by grind [aE]
         have hle:(i+1)*45≤s.size:=AM
         have a6:(((i+1)*45:Nat):Int)≤(s.size:Int):=AM
         have a6b:(((i*45:Nat):Int)≤(((i+1)*45:Nat):Int))=True:=AAa;have hx:nV s (i*45) ((i+1)*45)=rwS s i:=rfl;have c2:=w42 (s:=rwS s i) (n:=R+i) (aCA hle) AM;have hg:aFn (rwS s i) (R+i)=gdS s R i:=rfl;rw[hg]at c2;rw[bS]at c2;have lf:=aGp (rwS s i);have m1:=bE (rdF (rwS s i));rw[lf]at m1;have k5:=gW lf;have k6:=lA lf;have g5:=bO (rdF (rwS s i));have l0:(bT (nf 0)).length=40:=by rfl
         have gz:=bO (nf 0);have c8:=kI (a:=nf 0) (b:=rdF (rwS s i)) (by grind [oZ]);have ap:=aNC (FnS s i) (rdF (rwS s i));have hF:FnS s i++rdF (rwS s i)=FnS s (i+1):=rfl;rw[hF]at ap;have lc:=bE (FnS s i);rw[rU]at lc;have lc1:=bE (FnS s (i+1));rw[rU]at lc1;have gc:=bO (FnS s i);have gc1:=bO (FnS s (i+1));have ml:=aJu s R i;have a7:IntKind.i64.wrap (((mdS s R i:Nat):Int)+1)=((mdS s R i+1:Nat):Int):=by grind [aE]
         have s1:mS (i+1) = .sl 0 0 40 (i+1):=if_neg AM;have g1:mG s (i+1)=[some (.blk true (.cells true (bT (FnS s (i+1)))))]:=if_neg AM;have z2':((i+1)*40≤1099511627776)=True:=AAa;have z3:(i+1≤1099511627776)=True:=AAa;by_cases hi0:i=0
         ·subst hi0
          have s0:mS 0 = .nilsl:=rfl;have g0:mG s 0=[]:=rfl;have b0:bdS s R 0 = -1:=rfl;have m0:mdS s R 0=0:=rfl;have F1:FnS s (0+1)=rdF (rwS s 0):=rfl;rw[s1,g1,F1];have j1:((0:Int)<(n:Int))=True:=AAa;have hx':nV s 0 45=rwS s 0:=rfl;have a8:IntKind.i64.wrap ((R:Int)+0)=(R:Int):=aE AM AM;have a9:((45:Int)≤(s.size:Int))=True:=AAa;have wz:IntKind.i64.wrap 45=45:=rfl;have tz:Int.toNat 45=45:=rfl;have j4:(0<n)=True:=AAa;rw[J0]at c2;cases hg:gdS s R 0 with
          | true =>
            rw[hg]at c2;have bb:bdS s R (0+1) = -1:=by rw[bdS,hg];rfl
            have mm:mdS s R (0+1)=0:=by rw[mdS,hg];rfl
            rw[bb,mm];generalize rdF (rwS s 0)=f at *;(exact pD s0 g0 b0 m0 wz tz j1 j4 hx' c2 a8 a9 m1 k5 k6 g5 l0 gz c8 cQ cM cL cR aG aG aG)
          | false =>
            rw[hg]at c2;have bb:bdS s R (0+1)=0:=by rw[bdS,hg];rfl
            have mm:mdS s R (0+1)=1:=by rw[mdS,hg];rfl
            rw[bb,mm];generalize rdF (rwS s 0)=f at *;(exact pD s0 g0 b0 m0 wz tz j1 j4 hx' c2 a8 a9 m1 k5 k6 g5 l0 gz c8 cQ cM cL cR aG aG aG)
         ·have s0:mS i = .sl 0 0 40 i:=if_neg hi0
          have g0:mG s i=[some (.blk true (.cells true (bT (FnS s i))))]:=if_neg hi0;have e45:(i+1)*45=i*45+45:=AM
          have a3':((i*45:Nat):Int).toNat=i*45:=rfl;rw[s1,g1];cases hg:gdS s R i with
          | true =>
            rw[hg]at c2;have bb:bdS s R (i+1)=bdS s R i:=by rw[bdS,hg];rfl
            have mm:mdS s R (i+1)=mdS s R i:=by rw[mdS,hg];rfl
            rw[bb,mm];generalize FnS s (i+1)=C1 at *;generalize FnS s i=C0 at *;generalize rdF (rwS s i)=f at *;(sym=>(simp[dM,dN,gT,Za,Zb,Zc,Zd,Ze,Zf,Zh,Zl,Zm,Zn,Zo,Zv,Zw,Z8,ZA,ZD,ZM,ZP,ZU,ZY,ZZ,Yc,Yg,Yk,Yl,Ym,Yp,Y4,Y5,Y7,YE,YJ,YK,Xy,XI,XN,XX,Wi,Wu,Wv,Ww,Wy,Wz,W4,W7,Vs,V3,V4,V5,V6,VA,VC,VD,VH,VI,VK,VM,VN,VO,VP,VQ,VR,VS,VT,VU,VV,VW,VZ,Ua,Uf,Ui,Uj,Uk,UW,UX,UY,UZ,Ta,Tb,Tf,Tg,Th,Ti,Tj,Tm,Tn,Tp,Ts,Tv,Ty,T2,T6,T7,T9,TR,TS,TT,TU,TV,TW,Si,Sj,Sk,Sr,Ss,Sy,Sz,S2,S3,S8,S9,SA,SC,SD,SF,SG,SK,SM,SN,SQ,SS,SU,SV,SY,Ra,Rc,Rf,Rg,Rj,Rm,Ro,Rp,RN,RO,RP,RQ,Qa,Qh,PC,PD,PE,PG,s0,g0,i1,a2,a3,a4,a5,a6,a6b,hx,c2,m1,k5,k6,g5,l0,gz,c8,ap,lc,lc1,gc,gc1,z2',z3,cQ,cM,cL,cR];all_goals tactic=>exact rfl))
          | false =>
            rw[hg]at c2;have bb:bdS s R (i+1)=(i:Int):=by rw[bdS,hg];rfl
            have mm:mdS s R (i+1)=mdS s R i+1:=by rw[mdS,hg];rfl
            rw[bb,mm];generalize FnS s (i+1)=C1 at *;generalize FnS s i=C0 at *;generalize rdF (rwS s i)=f at *;generalize mdS s R i=md at *;(sym=>(simp[dM,dN,gT,Za,Zb,Zc,Zd,Ze,Zf,Zh,Zl,Zm,Zn,Zo,Zv,Zw,Z8,ZA,ZD,ZM,ZP,ZU,ZY,ZZ,Yc,Yg,Yk,Yl,Ym,Yp,Y4,Y5,Y7,YE,YJ,YK,Xy,XI,XN,XX,Wi,Wu,Wv,Ww,Wy,Wz,W4,W7,Vs,V3,V4,V5,V6,VA,VC,VD,VH,VI,VK,VM,VN,VO,VP,VQ,VR,VS,VT,VU,VV,VW,VZ,Ua,Uf,Ui,Uj,Uk,UW,UX,UY,UZ,Ta,Tf,Tg,Th,Ti,Tj,Tm,Tn,Tp,Ts,Tv,Tz,T2,T6,T7,T9,TR,TS,TT,TU,TV,TW,Si,Sj,Sk,Sr,Ss,Sy,Sz,S2,S3,S8,S9,SA,SC,SD,SF,SG,SK,SM,SN,SQ,SS,SU,SV,SY,Ra,Rc,Rf,Rg,Rj,Rm,Ro,Rp,RN,RO,RP,RQ,Qa,Qh,PC,PD,PE,PG,s0,g0,i1,a2,a3,a4,a5,a6,a6b,a7,hx,c2,m1,k5,k6,g5,l0,gz,c8,ap,lc,lc1,gc,gc1,z2',z3,cQ,cM,cL,cR];all_goals tactic=>exact rfl))
        ·have e0:((n:Int)<(n:Int))=False:=AAb
         (exact RT1 e0)
   ·have h0':=of_eq_false h0
    have z0:(((s.size%45:Nat):Int)=0)=False:=AAb;have hv:mnV s row=erV 20:=by unfold mnV;grind
    rw[hv];unfold erV;generalize s.size%45=rm at *;generalize s.size/45=n at *;(exact RT5 c1 d1 d2 d3 z0)
abbrev xH(B:List ByteArray):Option XB:=some (.blk true (.cells false (oE B)))
def lSs(i:Nat):AV:=if i=0 then .nilsl else .sl 3 0 40 i
def lGs(B ls:List ByteArray)(row i:Nat):XH:=if i=0 then [xH B,some (.blk true (.cells true [.nilpt,.nilsl]))] else
 [xH B,some (.blk false (.cells true [.pt 1 0,.sb 2 (Bn ls row i).size])),some (.blk true (.cells true (dR (Bn ls row i)))),some (.blk true (.cells true (bT (Cn ls i))))]
theorem bDM{B ls:List ByteArray}{row o:Nat}(hB:∀ i s,ls[i]?=some s→(oE B)[o+i]?=some (.str s))(h0:1≤ls.length)(h1:ls.length≤1000)(hr:row≤10000):runW aB 34 [.sl 0 o 1 ls.length,I (row:Int)] [xH B]=some (.str (Bn ls row ls.length++rwB (row+ls.length) (fC (Cn ls ls.length) ls.length)),[xH B]):=by
 rw[qX 34 x34 rfl];unfold x34;dsimp only;have gB:=mL B;have l0:(bT (nf 0)).length=40:=by rfl
 have gz:=bO (nf 0);sym =>
  simp[Za,Zb,Zf,Zh,Zl,Zm,Zv,ZQ,Yu,Vb,Vh,VB,UV,Te,Th,Ti,Tn,Tp,Se,Sf,Ra,Rf,Rg,Ro,Rp,Pm]
  tactic =>
   rw[aUs];unfold aTu;rw[aQ ls.length (fun i=>[I (row:Int),.bp 1,lSs i,.sl 0 o 1 ls.length,I (ls.length:Nat),I (i:Nat)]) (fun i=>lGs B ls row i)]
   ·have hn0:¬ls.length=0:=AM
    have e0:((ls.length:Int)<(ls.length:Int))=False:=AAb;have s0:lSs ls.length = .sl 3 0 40 ls.length:=if_neg hn0;have g0:lGs B ls row ls.length=[xH B,some (.blk false (.cells true [.pt 1 0,.sb 2 (Bn ls row ls.length).size])),some (.blk true (.cells true (dR (Bn ls row ls.length)))),some (.blk true (.cells true (bT (Cn ls ls.length))))]:=if_neg hn0;have bz:=aBW ls row ls.length;have lc:=oA (ls:=ls) (A6 _);have c1:=bDL (C:=Cn ls ls.length) (n:=ls.length) AM (aXC ls _) h1;have l3:=fL (C:=Cn ls ls.length) (n:=ls.length) AM ls.length (A6 _);have b3:=vL (C:=Cn ls ls.length) ls.length;have c2:=w77 (row:=row+ls.length) l3 b3 AM;have zs:=zK (row:=row+ls.length) l3;have nr:xC (jH (row+ls.length) (fC (Cn ls ls.length) ls.length))=rwB (row+ls.length) (fC (Cn ls ls.length) ls.length):=rfl;rw[nr]at c2;rw[bS]at c1 c2;have c3:=aUR (s:=rwB (row+ls.length) (fC (Cn ls ls.length) ls.length)) (a:=Bn ls row ls.length) AM AM AM;rw[zs]at c3;have sz:(Bn ls row ls.length++rwB (row+ls.length) (fC (Cn ls ls.length) ls.length)).size=(Bn ls row ls.length).size+45:=by grind
    have c4:=w71 (a:=Bn ls row ls.length++rwB (row+ls.length) (fC (Cn ls ls.length) ls.length)) AM AM;rw[sz]at c4;have r1:IntKind.i64.wrap ((row:Int)+(ls.length:Int))=((row+ls.length:Nat):Int):=by grind [aE]
    have m1:=bE (fC (Cn ls ls.length) ls.length);rw[l3]at m1;have k5:=gW l3;have k6:=lA l3;have g5:=bO (fC (Cn ls ls.length) ls.length);have gc:=bO (Cn ls ls.length);have fz:(ls.length*40≤(bT (Cn ls ls.length)).length)=True:=AAk (by rw[bE,lc];omega);have fl:=(bDf (C:=Cn ls ls.length) (n:=ls.length) AM).1;generalize Bn ls row ls.length++rwB (row+ls.length) (fC (Cn ls ls.length) ls.length)=T at *;generalize rwB (row+ls.length) (fC (Cn ls ls.length) ls.length)=R at *;generalize fC (Cn ls ls.length) ls.length=f at *;generalize (Bn ls row ls.length).size=sz at *;generalize Bn ls row ls.length=B0 at *;generalize Cn ls ls.length=C0 at *;(sym=>(simp[Za,Zb,Zf,Zg,Zh,Zj,Zl,Zm,Zv,ZA,ZQ,Yc,Yg,Yl,Ym,Yt,Y5,YE,Xy,XI,XJ,XM,XO,Wl,Wu,Ww,Wy,Wz,W3,W5,WC,WH,WL,WS,WX,WY,Vd,Vg,V3,V6,V9,VA,VC,VD,VE,VF,VH,VJ,VK,VM,VN,VO,VP,VQ,VR,VS,VT,VV,VW,VX,VY,VZ,Ua,Ub,Ue,Uf,Ug,Ui,Uj,Uk,Ul,Ut,Uu,Uv,Uw,Ux,Uy,Uz,U0,UB,UC,UD,UG,UH,UJ,UK,UL,UM,UN,UQ,UR,US,UT,UW,UZ,Tb,Tf,Tg,Th,Ti,Tj,Tl,Tm,Tn,Tp,Ts,Tv,Tx,T2,T5,T6,T8,TS,TT,TU,TV,TW,TX,TY,Sc,Sd,SE,SY,Ra,Rb,Re,Rg,Rh,Rl,Ro,Rp,RZ,QM,QO,QR,Pc,Pe,Pf,Ph,Pj,Pk,Pl,Pr,Ps,Pt,Pu,Pw,Px,Py,Pz,P0,PC,PD,PE,PG,s0,g0,e0,fz,fl,c1,c2,c3,c4,r1,m1,k5,k6,g5,gc,zs,cQ,cM,cL,cR,eC,eO,eP,eS,eQ,eR,gB];all_goals tactic=>exact rfl))
   ·rfl
   ·intro i hi
    have i1:((i:Int)<(ls.length:Int))=True:=AAa;have a2:=pL hi AM;obtain⟨s,hs⟩:=oP hi;have hx:=hB i s hs;have c1:=w44 s;rw[bS]at c1;have lf:=vV s;have c2:=w77 (row:=row+i) lf (aGE s) AM;rw[bS]at c2;have r1:IntKind.i64.wrap ((row:Int)+(i:Int))=((row+i:Nat):Int):=by grind [aE]
    have m1:=bE (yM s);rw[lf]at m1;have k5:=gW lf;have k6:=lA lf;have g5:=bO (yM s);have c8:=kI (a:=nf 0) (b:=yM s) (by grind [oZ]);have zs:=zK (row:=row+i) lf;have nl:dQ (bN s)=yM s:=rfl;have nr:xC (jH (row+i) (yM s))=rwB (row+i) (yM s):=rfl;rw[nl]at c1;rw[nr]at c2;by_cases hi0:i=0
    ·subst hi0
     have s0:lSs 0 = .nilsl:=rfl;have g0:lGs B ls row 0=[xH B,some (.blk true (.cells true [.nilpt,.nilsl]))]:=rfl;have cn:=aTs hs;have cn0:Cn ls 0=[]:=rfl;rw[cn0,G6]at cn;have bn:=aXD (row:=row) hs;have bn0:Bn ls row 0=⟨⟨[]⟩⟩:=rfl;rw[bn0,aSQ]at bn;rw[J0]at c2 zs;have bn:Bn ls row (0+1)=rwB row (yM s):=bn;have c3:=aUS (s:=rwB row (yM s)) AM AM;rw[zs]at c3;have s1:lSs (0+1) = .sl 3 0 40 1:=rfl;have g1:lGs B ls row (0+1)=[xH B,some (.blk false (.cells true [.pt 1 0,.sb 2 (Bn ls row (0+1)).size])),some (.blk true (.cells true (dR (Bn ls row (0+1))))),some (.blk true (.cells true (bT (Cn ls (0+1)))))]:=rfl;rw[s1,g1,cn,bn,zs];have j1:((0:Int)<(ls.length:Int))=True:=AAa;rw[J0]at hx;have j3:IntKind.i64.wrap ((row:Int)+0)=(row:Int):=AM
     have j4:(0<ls.length)=True:=AAa;generalize hR:rwB row (yM s)=R at *;generalize yM s=f at *;(sym=>(simp[Za,Zb,Zd,Ze,Zf,Zg,Zh,Zj,Zl,Zm,Zo,Zv,Z8,ZA,ZH,ZU,Yc,Yg,Yk,Yl,Ym,Yx,Y5,YE,YM,YT,YU,YX,Xy,XI,XJ,XN,XO,Wi,Wu,Ww,Wy,Wz,W4,W5,WC,WH,Vd,Vs,V3,V4,V5,V6,V9,VA,VC,VD,VE,VF,VH,VI,VJ,VK,VM,VN,VO,VP,VQ,VR,VS,VT,VU,VV,VW,VX,VZ,Ua,Ub,Ue,Uf,Ug,Ui,Uj,Uk,Ul,Uw,Uy,Uz,U0,UW,UX,UY,UZ,Ta,Tf,Tg,Th,Ti,Tj,Tl,Tm,Tn,Tp,Ts,Tv,T2,T5,T6,T7,T9,TR,TS,TT,TU,TV,TW,Si,Sj,Sk,Sy,Sz,S2,S3,S8,S9,SA,SB,SF,SG,SK,SL,SQ,SU,SV,SX,SY,Ra,Rc,Rf,Rg,Rj,Rm,Ro,Rp,Qa,Qh,QM,Pc,Pe,Pf,Ph,Pj,Pk,Pl,Pr,Pt,Pw,Px,Py,P0,PC,PD,PE,PG,s0,g0,j1,j3,j4,hx,c1,c2,c3,m1,k5,k6,g5,c8,zs,l0,gz,cQ,cM,cL,cR,eC,eO,eP,eS,eQ,eR,gB];all_goals tactic=>exact rfl))
    ·have s0:lSs i = .sl 3 0 40 i:=if_neg hi0
     have g0:lGs B ls row i=[xH B,some (.blk false (.cells true [.pt 1 0,.sb 2 (Bn ls row i).size])),some (.blk true (.cells true (dR (Bn ls row i)))),some (.blk true (.cells true (bT (Cn ls i))))]:=if_neg hi0;have s1:lSs (i+1) = .sl 3 0 40 (i+1):=if_neg AM;have g1:lGs B ls row (i+1)=[xH B,some (.blk false (.cells true [.pt 1 0,.sb 2 (Bn ls row (i+1)).size])),some (.blk true (.cells true (dR (Bn ls row (i+1))))),some (.blk true (.cells true (bT (Cn ls (i+1)))))]:=if_neg AM;have bn:=aXD (row:=row) hs;have bz:=aBW ls row i;have bs1:(Bn ls row (i+1)).size=(Bn ls row i).size+45:=by grind
     have ap:=aNC (Cn ls i) (yM s);rw[←aTs hs]at ap;have ca:=bDw hs;have lc:=bE (Cn ls i);rw[oA AM]at lc;have lc1:=bE (Cn ls (i+1));rw[oA AM]at lc1;have gc:=bO (Cn ls i);have gc1:=bO (Cn ls (i+1));have c3:=aUR (s:=rwB (row+i) (yM s)) (a:=Bn ls row i) AM AM AM;rw[zs,←bn]at c3;rw[s1,g1,bs1];have z2:((i+1)*40≤1099511627776)=True:=AAa;have z3:(i+1≤1099511627776)=True:=AAa;have z4:((i:Int)<((i+1:Nat):Int))=True:=AAa;have z5:(i*40+40≤(i+1)*40)=True:=AAa;generalize (Bn ls row i).size=sz at *;generalize Bn ls row (i+1)=B1 at *;generalize Bn ls row i=B0 at *;generalize Cn ls (i+1)=C1 at *;generalize Cn ls i=C0 at *;generalize rwB (row+i) (yM s)=R at *;generalize yM s=f at *;(sym=>(simp[Za,Zb,Zd,Ze,Zf,Zg,Zh,Zj,Zl,Zm,Zo,Zv,Z8,ZA,ZH,ZU,Yc,Yg,Yk,Yl,Ym,Yx,Y5,YE,YJ,YK,Xy,XI,XJ,XN,XO,Wi,Wu,Ww,Wy,Wz,W4,W5,WC,WH,Vd,Vs,V3,V4,V5,V6,V9,VA,VC,VD,VE,VF,VH,VI,VJ,VK,VM,VN,VO,VP,VQ,VR,VS,VT,VU,VV,VW,VX,VY,VZ,Ua,Ub,Ue,Uf,Ug,Ui,Uj,Uk,Ul,Uw,Uy,Uz,U0,UW,UX,UY,UZ,Ta,Tf,Tg,Th,Ti,Tj,Tl,Tm,Tn,Tp,Ts,Tv,T2,T5,T6,T7,T9,TR,TS,TT,TU,TV,TW,Si,Sj,Sk,Sy,Sz,S2,S3,S8,S9,SA,SC,SD,SF,SG,SK,SL,SQ,SS,SU,SV,SY,Ra,Rc,Rf,Rg,Rj,Rm,Ro,Rp,RY,RZ,Qh,QM,Pc,Pe,Pf,Ph,Pj,Pk,Pl,Pr,Pt,Pw,Px,Py,P0,PC,PD,PE,PG,s0,g0,i1,a2,hx,c1,c2,c3,r1,m1,k5,k6,g5,c8,zs,l0,gz,ap,ca,lc,lc1,gc,gc1,z2,z3,z4,z5,cQ,cM,cL,cR,eC,eO,eP,eS,eQ,eR,gB];all_goals tactic=>exact rfl))
   ·have e0:((ls.length:Int)<(ls.length:Int))=False:=AAb
    (exact dG e0)
theorem yW(a b:ByteArray):aY BinOp.neq a b=some (.bool (!decide (a=b))):=by
 show some (AV.bool (!(a.toList==b.toList)))=_;rw[aNH,aNH];congr 3;cases a with
 | mk x =>
   cases b with
   | mk y =>
     cases x with
     | mk x =>
       cases y with
       | mk y =>
         grind
theorem aKO(a b:List Nat):xC a++xC b=xC (a++b):=by
 grind [aXw,xC]
theorem rT(s:ByteArray):(bN s).length=s.size:=by
 simp[bN]
theorem aXu(s:ByteArray):s.data.toList.map (fun b=>AV.int .u8 (b.toNat:Int))=bT (bN s):=by
 simp[bT,bN]
end
section
open Go Go.DL
theorem aHd(a b:ByteArray):bN (a++b)=bN a++bN b:=by
 simp[bN]
theorem aHc{l:List Nat}(h:sR l):bN (xC l)=l:=by
 unfold bN xC;rw[aC5];apply J1
 grind [UInt8.toNat_ofNat',sR]
theorem aPl(s:ByteArray):xC (bN s)=s:=by
 unfold bN xC;rw[aC5];cases s with
 | mk d =>
   cases d with
   | mk l =>
     congr 2
     conv=>rhs;rw[←List.map_id l]
     apply O5;intro b _;simp
theorem aJZ(s:ByteArray)(a b:Nat):bN (nV s a b)=((bN s).drop a).take (b-a):=by
 simp[bN,nV]
def rwL(b:List Nat)(i:Nat):List Nat:=(b.drop (i*45)).take 45
def fdL(r:List Nat):List Nat:=(r.drop 4).take 40
def prL(f:List Nat):Bool:=f.all fun x=>decide (32≤x)&&decide (x≤126)
def okL(n:Nat)(r:List Nat):Bool:=prL (fdL r)&&decide (r=jH n (fdL r))
theorem aTN(s:ByteArray)(i:Nat):bN (rwS s i)=rwL (bN s) i:=by
 grind [aJZ,rwS,rwL]
theorem aBI:∀ l:List UInt8,sM l = !prL (l.map UInt8.toNat)
 | []=>rfl
 | x::l=>by
   have ih:=aBI l;show (decide (x.toNat<32)||(decide (126<x.toNat)||sM l)) = !((decide (32≤x.toNat)&&decide (x.toNat≤126))&&prL (l.map UInt8.toNat));rw[ih,Bool.not_and,Bool.not_and,←decide_not,←decide_not];simp only[Nat.not_le,Bool.or_assoc]
theorem aSp{l:List Nat}(h:l.length=40):dQ l=l:=by
 unfold dQ;rw[C8 AM,h];simp
theorem aTQ{s:ByteArray}(h:s.size=45):rdF s=fdL (bN s):=by
 unfold rdF txB fdL
 grind [aJZ,aSp,rT]
theorem aCD{n:Nat}{f:List Nat}(h:sR f):sR (jH n f):=by
 intro i x hx;unfold jH at hx;have hm:=A5 hx;have hc:yN n f<9973:=I3 _ (by decide);simp only[pA,B7,B5,F9,AAg]at hm
 grind [sR,pA]
theorem aSO{r:List Nat}(h:sR r):sR (fdL r):=by
 grind [sR,fdL]
theorem aIS(a b:ByteArray):(a.toList==b.toList)=decide (bN a=bN b):=by
 grind [aNH,aPl,bN]
theorem aSG{s:ByteArray}{n:Nat}(h:s.size=45):aFn s n=okL n (bN s):=by
 unfold aFn okL;have e1:bN (txB s)=fdL (bN s):=by unfold txB fdL;rw[aJZ]
 have e2:(txB s).data.toList.map UInt8.toNat=fdL (bN s):=e1;rw[aBI,e2,Bool.not_not,aIS,aTQ h,aHc (aCD (aSO (aAZ s)))]
 grind
theorem aUi{s:ByteArray}{n i:Nat}(h:(i+1)*45≤s.size):gdS s n i=okL (n+i) (rwL (bN s) i):=by
 unfold gdS
 grind [aSG,aCA,aTN]
theorem aLf{C D:List Nat}{n k:Nat}(hC:C.length=n*40)(hk:k<n):eV (C++D) k=eV C k:=by
 grind [eV]
theorem aIq{C f:List Nat}{n:Nat}(hC:C.length=n*40)(hf:f.length=40):eV (C++f) n=f:=by
 grind [eV]
theorem aQQ{s:ByteArray}:∀{n k:Nat},k<n→n*45≤s.size→eV (FnS s n) k=fdL (rwL (bN s) k)
 | 0,_,h,_=>absurd h AM
 | n+1,k,h,hs=>by
   rw[FnS];by_cases hk:k<n
   ·rw[aLf (rU s n) hk]
    exact aQQ hk AM
   grind [aIq,rU,aGp,aTQ,aCA,aTN]
theorem aLr{s:ByteArray}{n r:Nat}(hr:gdS s n r=false):∀{k:Nat},(∀ i,i<k→i≠r→gdS s n i=true)→mdS s n k=(if r<k then 1 else 0)∧bdS s n k=(if r<k then (r:Int) else -1)
 | 0,_=>⟨rfl,rfl⟩
 | k+1,h=>by
   obtain⟨h1,h2⟩:=aLr hr (k:=k) fun i hi=>h i AM
   grind [mdS,bdS]
def aEB(C:List Nat)(j:Nat):Nat→Nat
 | 0=>0
 | k+1=>aEB C j k+kQ ((eV C k).getD j 0)
theorem aQn{y:Nat}(h:y<95):kQ (32+y)=y:=by unfold kQ;omega
theorem aCS{t:Nat}:∀{f o:List Nat}{j x y:Nat},f[j]?=some x→o[j]?=some y→(eF t f o)[j]?=some (pv t x y)
 | [],_,_,_,_,h,_=>by simp at h
 | _::_,[],_,_,_,_,h=>by simp at h
 | a::f,b::o,0,x,y,h1,h2=>by
   grind [eF,pv]
 | a::f,b::o,j+1,x,y,h1,h2=>by
   simp only[D8]at h1 h2;rw[eF,D8];exact aCS h1 h2
theorem aKY{l:List Nat}{j:Nat}(h:j<l.length):l[j]?=some (l.getD j 0):=by
 grind
theorem aFR{C:List Nat}{n j:Nat}(hC:n*40≤C.length)(hj:j<40):∀{k},k≤n→(fC C k)[j]?=some (32+aEB C j k%95)
 | 0,_=>by
   have:fC C 0=List.replicate 40 32:=rfl
   grind [aEB]
 | k+1,hk=>by
   have ih:=aFR hC hj (k:=k) AM;have hf:=aKY (l:=eV C k) (j:=j) (by rw[rF hC AM];exact hj);rw[fC,aCS ih hf];unfold pv;rw[aEB,aQn (I3 _ (by decide))];congr 2;omega
theorem aFx{C D:List Nat}{j r:Nat}(hj:j<40)(hr:eV D r=dQ []):∀{k},(∀ i,i<k→i≠r→eV C i=eV D i)→aEB C j k=aEB D j k+(if r<k then kQ ((eV C r).getD j 0) else 0)
 | 0,_=>rfl
 | k+1,h=>by
   rw[aEB,aEB,aFx hj hr fun i hi=>h i AM];by_cases hk:k=r;all_goals grind [kQ,dQ]
theorem aIA{v x:Nat}:∀{f:List Nat}{i:Nat}(k:Nat),f[i]?=some x→vB k (f.set i v)+(k+i+1)*kQ x=vB k f+(k+i+1)*kQ v
 | [],_,_,h=>by simp at h
 | a::f,0,k,h=>by
   grind [vB]
 | a::f,i+1,k,h=>by
   simp only[D8]at h;have ih:=aIA (v:=v) (k+1) h;simp only[aE8,vB];rw[show k+1+i+1=k+(i+1)+1 by omega]at ih;omega
theorem aXe{n p q:Nat}{f g:List Nat}(h:vB 0 g+p=vB 0 f+q)(hne:p≠q)(hp:p≤9000)(hq:q≤9000):yN n g≠yN n f:=by
 unfold yN;omega
theorem aXf(n:Nat)(f:List Nat):yN n f<9973:=I3 _ (by decide)
theorem aGq{f:List Nat}(h:prL f=true){i x:Nat}(hx:f[i]?=some x):32≤x∧x≤126:=by
 have:=H8.1 h x (A5 hx)
 grind
theorem aJR{x:Nat}(h:32≤x∧x≤126):kQ x=x-32:=by unfold kQ;omega
theorem aCC{n:Nat}{f:List Nat}(h:f.length=40):(jH n f).length=45:=by simp[jH,pA,h]
theorem zP{n:Nat}{f:List Nat}(h:f.length=40):fdL (jH n f)=f:=by
 unfold fdL jH
 grind [pA]
theorem aRO{n:Nat}{f:List Nat}:(jH n f).take 4=pA (yN n f):=rfl
theorem aKz{n:Nat}{f:List Nat}(h:f.length=40):(jH n f)[44]?=some 10:=by
 unfold jH
 simp_all [pA]
theorem aRP{n j:Nat}{f:List Nat}(h:f.length=40)(hj:j<40):(jH n f)[4+j]?=f[j]?:=by
 unfold jH
 grind [pA]
theorem aAJ{n:Nat}{r:List Nat}(h:prL (fdL r)=true→r≠jH n (fdL r)):okL n r=false:=by
 grind [okL]
theorem aPi{n:Nat}{f:List Nat}(h:f.length=40)(hp:prL f=true):okL n (jH n f)=true:=by
 grind [zP,okL]
theorem aWR{r:List Nat}{j v:Nat}:fdL (r.set (4+j) v)=(fdL r).set j v:=by
 unfold fdL;rw[aG1,if_neg AM,aC9,aG5]
theorem aMs{r:List Nat}{j v:Nat}(hj:j<4):fdL (r.set j v)=fdL r:=by
 unfold fdL;rw[aG1,if_pos hj]
theorem aMt{r:List Nat}{j v:Nat}(hj:44≤j):fdL (r.set j v)=fdL r:=by
 unfold fdL;rw[aG1,if_neg AM,aC9,aB4 (by simp;omega)]
theorem aUZ{r:List Nat}{j v:Nat}:(r.set (4+j) v).take 4=r.take 4:=by
 grind [List.take_set,List.set_eq_of_length_le]
theorem aSm{n:Nat}{f g:List Nat}{r:List Nat}(ht:r.take 4=pA (yN n f))(hf:fdL r=g)(hc:prL g=true→yN n g≠yN n f):okL n r=false:=by
 refine aAJ fun hp hr=>?_
 grind [aXf,pA,jH]
theorem aRG{n j v x:Nat}{f:List Nat}(hf:f.length=40)(hp:prL f=true)(hj:j<45)(hx:(jH n f)[j]?=some x)(hv:v≠x):okL n ((jH n f).set j v)=false:=by
 by_cases h1:j<4
 ·refine aAJ fun _ hr=>?_
  rw[aMs h1,zP hf]at hr
  grind
 ·by_cases h2:j<44
  ·obtain⟨i,rfl⟩:∃ i,j=4+i:=⟨j-4,by omega⟩
   rw[aRP hf AM]at hx;refine aSm (f:=f) (g:=f.set i v) (by grind [aUZ,aRO]) (by rw[aWR,zP hf]) fun hg=>?_;have px:=aJR (aGq hp hx);have hi:i<f.length:=(D0.1 hx).1;have hvp:=aGq hg (show (f.set i v)[i]?=some v by grind);have pv:=aJR hvp;have rx:=aGq hp hx;have hs:=aIA (v:=v) 0 hx;have m1:(0+i+1)*kQ x≤40*94:=N8 AM AM;have m2:(0+i+1)*kQ v≤40*94:=N8 AM AM;refine aXe hs (fun hh=>?_) AM AM;have:=Nat.eq_of_mul_eq_mul_left AM hh;omega
  ·have h3:j=44:=AM
   subst h3;rw[aKz hf]at hx;refine aAJ fun _ hr=>?_;rw[aMt AM,zP hf]at hr;have:=AAn (fun l=>l[44]?) hr
   grind [aKz]
theorem aVw{b:List Nat}{r j:Nat}(hj:j<45):(rwL b r)[j]?=b[r*45+j]?:=by
 grind [rwL]
theorem aKy{b:List Nat}{r j v:Nat}(hj:j<45)(i:Nat):rwL (b.set (r*45+j) v) i=if i=r then (rwL b r).set j v else rwL b i:=by
 unfold rwL;rw[aG1];by_cases h1:i=r
 ·subst h1
  rw[if_neg AM,if_pos rfl,aC9,aG5]
 ·rw[if_neg h1]
  by_cases h2:r<i;·grind
  ·have:(i+1)*45≤r*45:=F6 _ AM
   rw[if_neg AM,aC9,aB4 (by grind)]
theorem aRF{b:List Nat}{i v:Nat}(hb:sR b)(hv:v<256):sR (b.set i v):=by
 grind [sR]
def pgL:Nat→List (List Nat)→List Nat
 | _,[]=>[]
 | n,f::F=>jH n f++pgL (n+1) F
theorem aSg{F:List (List Nat)}(h:∀ f∈F,f.length=40)(n:Nat):(pgL n F).length=F.length*45:=by
 induction F generalizing n with
 | nil=>rfl
 | cons f F ih =>
   grind [aCC,pgL]
theorem aVT{F:List (List Nat)}(h:∀ f∈F,f.length=40){n i:Nat}{f:List Nat}(hi:F[i]?=some f):rwL (pgL n F) i=jH (n+i) f:=by
 induction F generalizing n i with
 | nil=>simp at hi
 | cons g F ih =>
   have lg:=aCC (n:=n) (h g (by simp));cases i with
   | zero =>
     grind [rwL,pgL]
   | succ i =>
     simp only[D8]at hi;have:=ih (fun g hg=>h g (by simp[hg])) (n:=n+1) hi;unfold rwL at this ⊢;rw[pgL,aG6,J6 AM,G6,lg,show (i+1)*45-45=i*45 by omega,this]
     grind
theorem aCU{f:List Nat}:∀{F:List (List Nat)}{n:Nat},pgL n (F++[f])=pgL n F++jH (n+F.length) f
 | [],n=>by simp[pgL]
 | g::F,n=>by
   rw[H9,pgL,aCU,pgL,I8,D9];congr 3;omega
theorem aUo{ls:List ByteArray}{row:Nat}:∀{i},i≤ls.length→bN (Bn ls row i)=pgL row ((ls.take i).map yM)
 | 0,_=>rfl
 | i+1,h=>by
   obtain⟨s,hs⟩:=oP (l:=ls) (i:=i) AM;rw[aXD hs,aHd,aUo AM,I4,hs,N9];show _=pgL row ((ls.take i).map yM++[yM s]);rw[aCU,A9,aC8,aD7 AM];unfold rwB
   grind [aHc,aCD,aGE]
def oH(ls:List ByteArray):List (List Nat):=ls.map yM++[fC (Cn ls ls.length) ls.length]
theorem aUn{ls:List ByteArray}{row:Nat}:bN (pgB ls row)=pgL row (oH ls):=by
 unfold pgB oH;rw[aHd,aUo (A6 _),C8 (A6 _),aCU,A9];unfold rwB
 grind [aHc,aCD,vL]
theorem aUf{s:ByteArray}(h:lnE s=0):s.size≤40∧s.size≠0∧sM s.data.toList=false∧Lib.hasSuffix s.data.toList [32]=false:=by
 grind [lnE]
theorem aSw{s:ByteArray}(h:lnE s=0):prL (bN s)=true:=by
 grind [aBI,bN,lnE]
theorem aSo{l:List Nat}(h:prL l=true):prL (dQ l)=true:=by
 grind [prL,dQ]
theorem aWu{s:ByteArray}(h:lnE s=0):prL (yM s)=true:=aSo (aSw h)
theorem aXv(s:ByteArray):(bN s).map UInt8.ofNat=s.data.toList:=by
 have:=aPl s
 grind [xC]
theorem aSv{s:ByteArray}(h:lnE s=0):lnB (yM s)=s:=by
 obtain⟨h1,h2,_,h3⟩:=aUf h;have hl:s.data.toList.length=s.size:=by rfl
 unfold lnB yM dQ;have e:(List.take 40 (bN s)++List.replicate (40-(bN s).length) 32).map UInt8.ofNat=s.data.toList++List.replicate (40-s.size) 32:=by
  grind [List.take_of_length_le,aXv,List.map_replicate]
 rw[e,Lib.trimRightB_take _ _ s.size (by grind)];·simp_all
 ·grind
 ·intro b hk hb hb32
  subst hb32;rw[I5 AM]at hb;have:Lib.hasSuffix s.data.toList [32]=true:=by
   unfold Lib.hasSuffix;rw[aE9];refine⟨s.data.toList.take (s.size-1),?_⟩
   grind [List.drop_eq_getElem_cons,List.take_append_drop]
  grind
theorem aVk{C:List Nat}{n k:Nat}(hC:n*40≤C.length)(hk:k≤n):prL (fC C k)=true:=by
 refine H8.2 fun x hx=>?_
 grind [List.getElem?_of_mem,fL,aFR]
theorem aQc{ls:List ByteArray}:∀{n i:Nat}{s:ByteArray},n≤ls.length→i<n→ls[i]?=some s→eV (Cn ls n) i=yM s
 | 0,_,_,_,h,_=>absurd h AM
 | n+1,i,s,hn,h,hs=>by
   obtain⟨u,hu⟩:=oP (l:=ls) (i:=n) AM;rw[aTs hu];by_cases hi:i<n
   ·rw[aLf (oA AM) hi]
    exact aQc AM hi hs
   ·have:i=n:=AM
    subst this;rw[hs]at hu;cases hu;exact aIq (oA AM) (vV s)
theorem aLe{C f:List Nat}{n k:Nat}(hC:C.length=n*40)(hk:k<n)(hf:f.length=40){i:Nat}(hi:i<n):eV (setC C k f) i=if i=k then f else eV C i:=by
 have h1:(k+1)*40≤n*40:=F6 _ hk;have h2:(i+1)*40≤n*40:=F6 _ hi;unfold eV setC;by_cases h:i=k;·grind
 ·rw[if_neg h]
  by_cases hlt:i<k;·grind [List.drop_take]
  ·have h3:(k+1)*40≤i*40:=F6 _ AM
   rw[aG6,J6 (by simp;omega),G6,aC8,aD7 AM,aG6,J6 AM,G6,hf,List.drop_drop]
   grind
section
variable{ls:List ByteArray}{n:Nat}{s:ByteArray}
def lst(ls:List ByteArray):List Nat:=fC (Cn ls ls.length) ls.length
theorem aSs:(lst ls).length=40:=fL (n:=ls.length) (by rw[oA (A6 _)];omega) _ (A6 _)
theorem aWq:prL (lst ls)=true:=aVk (n:=ls.length) (by rw[oA (A6 _)];omega) (A6 _)
theorem uS:∀ f∈oH ls,f.length=40:=by
 intro f hf;unfold oH at hf;rcases B7.1 hf with h|h;·grind [vV]
 ·simp only[C6]at h
  rw[h];exact aSs
theorem aGP(gl:∀ l∈ls,lnE l=0):∀ f∈oH ls,prL f=true:=by
 intro f hf;unfold oH at hf;rcases B7.1 hf with h|h;·grind [aWu]
 ·simp only[C6]at h
  rw[h];exact aWq
theorem aPT:(oH ls).length=ls.length+1:=by simp[oH]
def rwO(ls:List ByteArray)(n i:Nat):List Nat:=jH (n+i) ((oH ls).getD i [])
theorem aAT{i:Nat}(hi:i≤ls.length):(oH ls).getD i []∈oH ls:=by
 grind [oH]
theorem aPU{i:Nat}{l:ByteArray}(h:ls[i]?=some l):(oH ls).getD i []=yM l:=by grind [oH]
theorem aWL:(oH ls).getD ls.length []=lst ls:=by simp[oH,lst]
theorem aVu{i:Nat}(hi:i≤ls.length):fdL (rwO ls n i)=(oH ls).getD i []:=zP (uS _ (aAT hi))
theorem aVt(gl:∀ l∈ls,lnE l=0){i:Nat}(hi:i≤ls.length):okL (n+i) (rwO ls n i)=true:=aPi (uS _ (aAT hi)) (aGP gl _ (aAT hi))
theorem aJc{i:Nat}(hi:i≤ls.length):rwL (bN (pgB ls n)) i=rwO ls n i:=by
 rw[aUn];unfold rwO
 grind [aPT,aVT,uS]
theorem aSf:(pgB ls n).size=(ls.length+1)*45:=by
 grind [rT,aUn,aSg,uS,aPT]

theorem aWd(h1:1≤ls.length)(h5:ls.length≤5)(hn:n≤1000)(hz:s.size=(ls.length+1)*45) :
 mnV s (n:Int)=uY (FnS s (ls.length+1)) ls.length (bdS s n (ls.length+1)) (mdS s n (ls.length+1)):=by
 have e1:s.size%45=0:=AM
 have e2:s.size/45=ls.length+1:=AM
 have hb:(decide ((0:Int)≤(n:Int))&&decide ((n:Int)≤1000))=true:=by simp;omega
 unfold mnV
 grind
theorem bCW(hz:s.size=(ls.length+1)*45){i:Nat}(hi:i≤ls.length)(hr:rwL (bN s) i=rwO ls n i):eV (FnS s (ls.length+1)) i=(oH ls).getD i []:=by
 grind [aQQ,aVu]
theorem aWt(gl:∀ l∈ls,lnE l=0){C:List Nat}(h:∀ i,i<ls.length→eV C i=(oH ls).getD i []):lns C ls.length=ls:=by
 unfold lns;apply J1;intro i;rw[C4];by_cases hi:i<ls.length
 ·obtain⟨l,hl⟩:=oP hi
  rw[aD9 hi,C5,h i hi,aPU hl,aSv (gl l (A5 hl)),hl]
 grind
theorem aPc(gl:∀ l∈ls,lnE l=0){C:List Nat}{md:Nat}(h:∀ i,i<ls.length→eV C i=(oH ls).getD i []):aCX C ls.length md = .tup [.fs (rS ls),I (md:Nat),I 0]:=by
 unfold aCX;rw[aWt gl h];have hc:Lib.containsS ls emB=false:=by
  cases hx:Lib.containsS ls emB with
  | false=>rfl
  | true =>
    have:=(Lib.containsS_iff ls emB).1 hx;exact absurd rfl (aUf (gl _ this)).2.1
 rw[hc];rfl
theorem aWP{C:List Nat}{m r:Nat}{D:List Nat}(hC:C.length=(m+1)*40)(hr:r<m)(hD:D.length=m*40)(hpr:prL (eV D r)=true)(hsum:eV C m=fC D m)
 (he:∀ i,i<m→i≠r→eV C i=eV D i):∀ i,i<m→eV (aJE C m r) i=eV D i:=by
 intro i hi;have n40:=iV [];have l1:=tJ (k:=r) hC AM n40;have hfix:∀ i,i<m+1→eV (setC C r (dQ [])) i=if i=r then dQ [] else eV C i:=fun i hi=>aLe hC AM n40 hi
 unfold aJE;have e1:eV (setC C r (dQ [])) m=fC D m:=by grind
 rw[e1];have s1:=fL (C:=D) (n:=m) AM m (A6 _);have s2:=fL (C:=setC C r (dQ [])) (n:=m) AM m (A6 _);have lp:=mZ (t:=94) (l:=fC D m) (m:=fC (setC C r (dQ [])) m) (by rw[s1,s2]);rw[s1]at lp;rw[aLe l1 AM lp AM];by_cases hir:i=r
 ·subst hir
  rw[if_pos rfl];have lf:=rF (C:=D) (n:=m) (k:=i) AM hi;apply J1;intro j;by_cases hj:j<40
  ·have a1:=aFR (C:=D) (n:=m) (j:=j) AM hj (A6 m)
   have a2:=aFR (C:=setC C i (dQ [])) (n:=m) (j:=j) AM hj (A6 m);rw[aCS a1 a2];have hx:=aKY (l:=eV D i) (j:=j) AM;rw[hx];have hcol:=aFx (C:=D) (D:=setC C i (dQ [])) (j:=j) (r:=i) hj (by grind) (k:=m) fun q hq hqi=>by grind
   rw[if_pos hi]at hcol;generalize (eV D i).getD j 0=x at *;have px:=aGq hpr hx;have cx:=aJR px;have m1:=I3 (aEB D j m) (show 0<95 by decide);have m2:=I3 (aEB (setC C i (dQ [])) j m) (show 0<95 by decide);congr 1;unfold pv
   grind [aQn]
  grind
 grind
theorem aWc(gl:∀ l∈ls,lnE l=0)(h1:1≤ls.length)(h5:ls.length≤5)(hn:n≤1000)(hz:s.size=(ls.length+1)*45){r:Nat}(hr:r≤ls.length)
 (h:∀ i,i≤ls.length→i≠r→rwL (bN s) i=rwO ls n i) (hbad:okL (n+r) (rwL (bN s) r)=false):mnV s (n:Int) = .tup [.fs (rS ls),I 1,I 0]:=by
 rw[aWd h1 h5 hn hz];have l1:(r+1)*45≤(ls.length+1)*45:=F6 _ AM;obtain⟨e1,e2⟩:=aLr (s:=s) (n:=n) (r:=r) (by grind [aUi]) (k:=ls.length+1) fun i hi hne=>by
  grind [aUi,aVt]
 rw[if_pos AM]at e1 e2;have hf:∀ i,i≤ls.length→i≠r→eV (FnS s (ls.length+1)) i=(oH ls).getD i []:=fun i hi hne=>bCW hz hi (h i hi hne);have hC:=rU s (ls.length+1);generalize FnS s (ls.length+1)=C at *;unfold uY;rw[e1,e2,if_neg AM,if_neg AM];by_cases hrl:r=ls.length
 ·subst hrl
  rw[if_neg AM,aPc gl fun i hi=>hf i AM AM];rfl
 ·have hlt:r<ls.length:=AM
  rw[if_pos AM];have ht:((r:Int)).toNat=r:=rfl;rw[ht];have hD:(Cn ls ls.length).length=ls.length*40:=oA (A6 _);have hCn:∀ i,i<ls.length→eV (Cn ls ls.length) i=(oH ls).getD i []:=fun i hi=>by
   obtain⟨l,hl⟩:=oP hi;rw[aQc (A6 _) hi hl,aPU hl]
  have key:=aWP (C:=C) (m:=ls.length) (r:=r) (D:=Cn ls ls.length) hC hlt hD (by grind [aGP,aAT]) (by rw[hf _ (A6 _) AM,aWL];rfl)
   fun i hi hne=>by grind
  grind [aPc]
end
theorem aWv{s:ByteArray}{f:List Nat}{x:Nat}(hs:bN s=f++[x])(hl:f.length≤39)(hp:prL f=true)(hx:33≤x∧x≤126):lnE s=0:=by
 have hz:s.size=f.length+1:=by grind [rT]
 have hpr:prL (bN s)=true:=by
  grind [prL]
 have hu:sM s.data.toList=false:=by
  grind [aBI,bN]
 have hh:Lib.hasSuffix s.data.toList [32]=false:=by
  cases h:Lib.hasSuffix s.data.toList [32]with
  | false=>rfl
  | true =>
    unfold Lib.hasSuffix at h;rw[aE9]at h;obtain⟨t,ht⟩:=h;have:bN s=t.map UInt8.toNat++[32]:=by unfold bN;grind
    simp_all [bN]
 grind [lnE]
section
variable{ls:List ByteArray}{n:Nat}
end
end
section
open Go Go.DL
theorem aFr(p:Nat→Bool):∀ n,∃ m,m≤n∧(∀ i,i<m→p i=true)∧(m=n∨(m<n∧p m=false))
 | 0=>⟨0,A6 _,fun i hi=>absurd hi AM,.inl rfl⟩
 | n+1=>by
   obtain⟨m,h1,h2,h3⟩:=aFr p n
   grind
theorem bDk{s:ByteArray}{i:Nat}(h:i<s.size):∃ x,(bN s)[i]?=some x∧x<256∧((s.data.toList.getD i 0).toNat:Int)=(x:Int):=by
 have hl:i<s.data.toList.length:=by simp_all
 grind [UInt8.toNat_lt,bN]
def aGy(i x:Nat):Bool:=(decide (97≤x)&&decide (x≤122))||(decide (i≠0)&&(decide (48≤x)&&decide (x≤57)))
def bH(s:ByteArray):Bool:=decide (1≤s.size)&&(decide (s.size≤10)&&(List.range s.size).all fun i=>aGy i ((bN s).getD i 0))
theorem bAv{s:ByteArray}{m:Nat}(h1:m≤s.size)(h2:∀ i,i<m→aGy i ((bN s).getD i 0)=true)(h3:m=s.size∨(m<s.size∧aGy m ((bN s).getD m 0)=false)):((List.range s.size).all fun i=>aGy i ((bN s).getD i 0))=decide (m=s.size):=by
 grind
theorem aRp{s:ByteArray}{i x:Nat}(h:i<s.size)(hx:((s.data.toList.getD i 0).toNat:Int)=(x:Int)):(dR s)[i]?=some (.int .u8 (x:Int)):=by
 simp_all [dR]
theorem w85{s:ByteArray}(hs:s.size≤1000000):runW aB 52 [.str s] []=some (.bool (bH s),[]):=by
 rw[qX 52 x52 rfl];unfold x52;dsimp only;have bl:=rT s;obtain⟨m,m1,m2,m3⟩:=aFr (fun i=>aGy i ((bN s).getD i 0)) s.size;have hp:=bAv m1 m2 m3;have e0:((s.size:Int)<(s.size:Int))=False:=AAb;have at0:∀ i,i<s.size→∃ x,(bN s).getD i 0=x∧x<256∧(dR s)[i]?=some (.int .u8 (x:Int)):=fun i hi=>by
  grind [bDk,aRp]
 have bad:m<s.size→aGy m ((bN s).getD m 0)=false:=fun h=>m3.elim (fun e=>by omega) fun h=>h.2;have lc:=aCe s;have gr:=fK s;have raw:=aNN s;have hv:bH s=(decide (1≤s.size)&&(decide (s.size≤10)&&decide (m=s.size))):=by unfold bH;rw[hp]
 rw[hv];sym =>
  simp[Za,Zb,Zf,Zh,Zl,Zm,Zo,Zv,ZQ,ZT,Yu,Vd,VB,UV,Te,Ti,Tp,Se,Sf,SQ,Ra,Rf,Rg,Ro,Rp,RR,RU,raw]
  tactic =>
   unfold aTF;rw[aQ m (fun i=>[.str s,.sl 0 0 1 s.size,I (s.size:Nat),I (i:Nat)]) (fun _=>[some (.blk true (.cells true (dR s)))])]
   ·by_cases hm:m=s.size
    ·rw[AAi hm,hm]
     by_cases z:s.size=0
     ·have d1:decide (1≤s.size)=false:=AAj AM
      have z1:((0:Int)<(s.size:Int))=False:=AAb;rw[d1];(exact RS4 e0 z1 lc gr)
     ·have d1:decide (1≤s.size)=true:=AAi AM
      have z1:((0:Int)<(s.size:Int))=True:=AAa;rw[d1];by_cases z2:s.size≤10
      ·have d2:decide (s.size≤10)=true:=AAi z2
       have z3:((s.size:Int)≤10)=True:=AAa;rw[d2];(exact RS5 e0 z1 z3 lc gr)
      ·have d2:decide (s.size≤10)=false:=AAj z2
       have z3:((s.size:Int)≤10)=False:=AAb;rw[d2];(exact RS5 e0 z1 z3 lc gr)
    ·rw[AAj hm,aH4,aH4]
     have hm':m<s.size:=AM
     obtain⟨x,x1,x2,x3⟩:=at0 m hm';have hb:=bad hm';rw[x1]at hb;have i1:((m:Int)<(s.size:Int))=True:=AAa;have i2:(m<s.size)=True:=AAk hm';rcases ptf ((x:Int)<97)with tA|tA<;>rcases ptf ((122:Int)<(x:Int))with tB|tB<;>rcases ptf ((m:Int)=0)with tC|tC<;>rcases ptf ((x:Int)<48)with tD|tD<;>rcases ptf ((57:Int)<(x:Int))with tE|tE<;>first|(exfalso;revert hb;simp[aGy]at *<;>omega)|(exact pE i1 i2 x3 lc gr tA tB tC tD tE)
   ·rfl
   ·intro i hi
    have hi':i<s.size:=AM
    obtain⟨x,x1,x2,x3⟩:=at0 i hi';have hb:=m2 i hi;rw[x1]at hb;have i1:((i:Int)<(s.size:Int))=True:=AAa;have i2:(i<s.size)=True:=AAk hi';have a2:=pL (n:=s.size) (i:=i) AM AM;have n0:=eC s;rcases ptf ((x:Int)<97)with tA|tA<;>rcases ptf ((122:Int)<(x:Int))with tB|tB<;>rcases ptf ((i:Int)=0)with tC|tC<;>rcases ptf ((x:Int)<48)with tD|tD<;>rcases ptf ((57:Int)<(x:Int))with tE|tE<;>first|(exfalso;revert hb;simp[aGy]at *<;>omega)|(exact oI i1 i2 a2 x3 lc gr n0 tA tB tC tD tE aG)
   ·by_cases hm:m=s.size
    ·rw[hm]
     (exact dG e0)
    ·have hm':m<s.size:=AM
     obtain⟨x,x1,x2,x3⟩:=at0 m hm';have hb:=bad hm';rw[x1]at hb;have i1:((m:Int)<(s.size:Int))=True:=AAa;have i2:(m<s.size)=True:=AAk hm';rcases ptf ((x:Int)<97)with tA|tA<;>rcases ptf ((122:Int)<(x:Int))with tB|tB<;>rcases ptf ((m:Int)=0)with tC|tC<;>rcases ptf ((x:Int)<48)with tD|tD<;>rcases ptf ((57:Int)<(x:Int))with tE|tE<;>first|(exfalso;revert hb;simp[aGy]at *<;>omega)|(exact pE i1 i2 x3 lc gr tA tB tC tD tE)
theorem wH(n:Int):runW aB 24 [.bool true,I n] []=some (.tup [],[]):=by
 rw[qX 24 x24 rfl];unfold x24;dsimp only;(exact RS0)
theorem c58(n:Int)(h:XH):CalP Tryz.prog aB 24 [.bool false,I n] h (.ifc 84 (.agg [I n])) h:=fun B Y r H as' _ sh hA=>bEZ progX_ok.mixed .i64 n sh hA
def ent(ks:List ByteArray)(es:List Nat):List (AV×AV):=List.zipWith (fun k e=>(AV.str k,AV.pt e 0)) ks es
def dV:List ByteArray→ByteArray→Option Nat
 | [],_=>none
 | k::r,x=>if k=x then some 0 else (dV r x).map (· + 1)
theorem hO{x:ByteArray}:∀{ks:List ByteArray}{i:Nat},dV ks x=some i→ks[i]?=some x
 | [],_,h=>by cases h
 | k::r,i,h=>by
   unfold dV at h;split at h;·rename_i hk;cases h;rw[hk];rfl
   ·rw[A3]at h
    obtain⟨j,hj,rfl⟩:=h;rw[D8];exact hO hj
theorem pV{x:ByteArray}:∀{ks:List ByteArray},dV ks x=none↔x∉ks
 | []=>by simp[dV]
 | k::r=>by
   unfold dV;split;·grind
   ·rename_i hk
    rw[aA0,pV,B5,not_or]
    grind
theorem aGA{x:ByteArray}{ks:List ByteArray}(h:x∈ks):∃ i,dV ks x=some i:=by
 cases hn:dV ks x with
 | none=>grind [pV]
 | some i=>grind
theorem aHb(a b:ByteArray):(a==b)=decide (a=b):=by
 by_cases h:a=b;·grind [wE]
 ·rw[AAj h];exact aF6.2 fun e=>h ((wE a b).1 e)
theorem nT{x:ByteArray}:∀{ks:List ByteArray}{es:List Nat},ks.length=es.length→aR 1 (.str x) (ent ks es)=some (((dV ks x).bind fun i=>es[i]?).map fun e=>.pt e 0)
 | [],[],_=>rfl
 | k::ks,e::es,h=>by
   have ih:=nT (x:=x) (ks:=ks) (es:=es) (by grind);show (match eM 1 (.str x) (.str k)with
    | some true=>some (some (AV.pt e 0))
    | some false=>aR 1 (.str x) (ent ks es)
    | none=>none)=_
   have hk:eM 1 (.str x) (.str k)=some (decide (x=k)):=AAn some (aHb x k);rw[hk];unfold dV;by_cases hx:x=k;·grind
   ·rw[AAj hx,if_neg (fun e=>hx e.symm),ih]
    cases dV ks x<;>rfl
theorem zR{x:ByteArray}{v:AV}:∀{ks:List ByteArray}{es:List Nat},ks.length=es.length→dV ks x=none→kA 1 (.str x) v (ent ks es)=some (ent ks es++[(.str x,v)])
 | [],[],_,_=>rfl
 | k::ks,e::es,h,hn=>by
   have hx:¬x=k:=fun e=>(pV.1 hn) (by simp[e]);have hn2:dV ks x=none:=pV.2 fun hm=>(pV.1 hn) (by simp[hm]);have ih:=zR (x:=x) (v:=v) (ks:=ks) (es:=es) (by grind) hn2;show (match eM 1 (.str x) (.str k)with
    | some true=>some ((AV.str k,v)::ent ks es)
    | some false=>(kA 1 (.str x) v (ent ks es)).map ((AV.str k,AV.pt e 0) :: ·)
    | none=>none)=_
   have hk:eM 1 (.str x) (.str k)=some (decide (x=k)):=AAn some (aHb x k);rw[hk,AAj hx,ih];rfl
theorem uX{ks:List ByteArray}{es:List Nat}(h:ks.length=es.length)(x:ByteArray)(e:Nat):ent (ks++[x]) (es++[e])=ent ks es++[(.str x,.pt e 0)]:=by
 unfold ent;rw[List.zipWith_append h];rfl
def iL(b n:Nat):AV:=if n=0 then .nilsl else .sl b 0 1 n

theorem w95{h:XH}{o m e:Nat}{g g2:Bool}{a b:AV}{es:List (AV×AV)}{x:ByteArray}(ho:hat h o=some (.blk g (.cells true [a,.mp m,b])))(hm:hat h m=some (.blk g2 (.map true es)))(hf:aR 1 (.str x) es=some (some (.pt e 0))) :
 runW aB 63 [.pt o 0,.str x] h=some (.pt e 0,h):=by
 rw[qY 63 x63 rfl];unfold x63;dsimp only;have c:=wH 5;(exact RS4 ho hm hf c)
theorem c95{h:XH}{o m:Nat}{g g2:Bool}{a b:AV}{es:List (AV×AV)}{x:ByteArray}(ho:hat h o=some (.blk g (.cells true [a,.mp m,b])))(hm:hat h m=some (.blk g2 (.map true es)))(hf:aR 1 (.str x) es=some none) :
 CalP Tryz.prog aB 63 [.pt o 0,.str x] h (.ifc 84 (.agg [I 5])) h:=by
 refine CalP.of (d:=x63) (e':=aZ [] []) aA rfl (by simp[x63]) rfl ?_;unfold x63;dsimp only;refine PanX.seqR (K:=63) aA rfl [0,1] (vs:=[.pt o 0,.str x]) (h1:=h) (by (exact RS0)) ?_;refine PanX.seqR (K:=63) aA rfl [5] (vs:=[.nilpt]) (h1:=h) (by (exact RS3 ho hm hf)) ?_;refine PanX.seqL ?_;exact PanX.reg (p:=[⟨0,some 12,.mv (.t 5),none⟩,⟨0,some 13,.eqn 3 true (.t 12) (.c .nilpt),none⟩]) (post:=[]) aA [] (g:=24) (first:=[]) (cap:=[]) (args:=[.bool false,I 5]) (vs:=[]) (h1:=h) rfl rfl (by rfl) (c58 5 h)
theorem w96{h:XH}{o m e:Nat}{g g2:Bool}{a b:AV}{es:List (AV×AV)}{x:ByteArray}(ho:hat h o=some (.blk g (.cells true [a,.mp m,b])))(hm:hat h m=some (.blk g2 (.map true es)))(hf:aR 1 (.str x) es=some (some (.pt e 0))) :
 runW aB 64 [.pt o 0,.str x] h=some (.pt e 0,h):=by
 rw[qY 64 x64 rfl];unfold x64;dsimp only;have c:=wH 5;(exact RS4 ho hm hf c)
theorem c96{h:XH}{o m:Nat}{g g2:Bool}{a b:AV}{es:List (AV×AV)}{x:ByteArray}(ho:hat h o=some (.blk g (.cells true [a,.mp m,b])))(hm:hat h m=some (.blk g2 (.map true es)))(hf:aR 1 (.str x) es=some none) :
 CalP Tryz.prog aB 64 [.pt o 0,.str x] h (.ifc 84 (.agg [I 5])) h:=by
 refine CalP.of (d:=x64) (e':=aZ [] []) aA rfl (by simp[x64]) rfl ?_;unfold x64;dsimp only;refine PanX.seqR (K:=64) aA rfl [0,1] (vs:=[.pt o 0,.str x]) (h1:=h) (by (exact RS0)) ?_;refine PanX.seqR (K:=64) aA rfl [5] (vs:=[.nilpt]) (h1:=h) (by (exact RS3 ho hm hf)) ?_;refine PanX.seqL ?_;exact PanX.reg (p:=[⟨0,some 12,.mv (.t 5),none⟩,⟨0,some 13,.eqn 3 true (.t 12) (.c .nilpt),none⟩]) (post:=[]) aA [] (g:=24) (first:=[]) (cap:=[]) (args:=[.bool false,I 5]) (vs:=[]) (h1:=h) rfl rfl (by rfl) (c58 5 h)
theorem w97{h:XH}{o m e:Nat}{g g2:Bool}{a b:AV}{es:List (AV×AV)}{x:ByteArray}(ho:hat h o=some (.blk g (.cells true [a,.mp m,b])))(hm:hat h m=some (.blk g2 (.map true es)))(hf:aR 1 (.str x) es=some (some (.pt e 0))) :
 runW aB 65 [.pt o 0,.str x] h=some (.pt e 0,h):=by
 rw[qY 65 x65 rfl];unfold x65;dsimp only;have c:=wH 5;(exact RS4 ho hm hf c)
theorem c97{h:XH}{o m:Nat}{g g2:Bool}{a b:AV}{es:List (AV×AV)}{x:ByteArray}(ho:hat h o=some (.blk g (.cells true [a,.mp m,b])))(hm:hat h m=some (.blk g2 (.map true es)))(hf:aR 1 (.str x) es=some none) :
 CalP Tryz.prog aB 65 [.pt o 0,.str x] h (.ifc 84 (.agg [I 5])) h:=by
 refine CalP.of (d:=x65) (e':=aZ [] []) aA rfl (by simp[x65]) rfl ?_;unfold x65;dsimp only;refine PanX.seqR (K:=65) aA rfl [0,1] (vs:=[.pt o 0,.str x]) (h1:=h) (by (exact RS0)) ?_;refine PanX.seqR (K:=65) aA rfl [5] (vs:=[.nilpt]) (h1:=h) (by (exact RS3 ho hm hf)) ?_;refine PanX.seqL ?_;exact PanX.reg (p:=[⟨0,some 12,.mv (.t 5),none⟩,⟨0,some 13,.eqn 3 true (.t 12) (.c .nilpt),none⟩]) (post:=[]) aA [] (g:=24) (first:=[]) (cap:=[]) (args:=[.bool false,I 5]) (vs:=[]) (h1:=h) rfl rfl (by rfl) (c58 5 h)
def sN(h:XH)(o m:Nat)(t:AV)(x:ByteArray)(es:List (AV×AV))(z:List AV):XH :=
 (h.set o (some (.blk false (.cells true [.sl (h.length+1) 0 1 1,.mp m,t])))).set m (some (.blk false (.map true (es++[(.str x,.pt (h.length+2) 0)]))))++[some (.blk true (.cells true [.str x])),some (.blk true (.cells true [.str x])),some (.blk true (.cells true z))]
def sP(h:XH)(o m b:Nat)(t:AV)(x:ByteArray)(cs:List AV)(g3:Bool)(es:List (AV×AV))(z:List AV):XH :=
 ((h.set b none).set o (some (.blk false (.cells true [.sl (h.length+1) 0 1 (cs.length+1),.mp m,t])))).set m (some (.blk false (.map true (es++[(.str x,.pt (h.length+2) 0)]))))++[some (.blk true (.cells true [.str x])),some (.blk g3 (.cells true (cs++[.str x]))),some (.blk true (.cells true z))]
theorem bDH{h:XH}{o m e:Nat}{g g2:Bool}{a b:AV}{es:List (AV×AV)}{x:ByteArray}(ho:hat h o=some (.blk g (.cells true [a,.mp m,b])))(hm:hat h m=some (.blk g2 (.map true es)))(hf:aR 1 (.str x) es=some (some (.pt e 0))) :
 runW aB 55 [.pt o 0,.str x] h=some (.bool false,h):=by
 rw[qY 55 x55 rfl];unfold x55;dsimp only;(exact RS3 ho hm hf)
theorem bDG{h:XH}{o m:Nat}{g g2:Bool}{t:Int}{es:List (AV×AV)}{x:ByteArray}(ho:hat h o=some (.blk g (.cells true [.nilsl,.mp m,I t])))(hm:hat h m=some (.blk g2 (.map true es)))(hf:aR 1 (.str x) es=some none)(ht:((0:Int)=t)=False) :
 runW aB 55 [.pt o 0,.str x] h=some (.bool false,h):=by
 rw[qY 55 x55 rfl];unfold x55;dsimp only;(exact RS4 ho hm hf ht)
theorem aZb{h:XH}{o m b n:Nat}{g g2:Bool}{t:Int}{es:List (AV×AV)}{x:ByteArray}{w:Bool}(ho:hat h o=some (.blk g (.cells true [.sl b 0 1 n,.mp m,I t])))(hm:hat h m=some (.blk g2 (.map true es)))(hf:aR 1 (.str x) es=some none)(ht:((n:Int)=t)=if w then True else False) :
 runW aB 55 [.pt o 0,.str x] h=some (.bool w,h):=by
 rw[qY 55 x55 rfl];unfold x55;dsimp only;cases w<;>(exact RS4 ho hm hf ht)

theorem bDE{h:XH}{o m n:Nat}{g g2:Bool}{t:AV}{es:List (AV×AV)}{x:ByteArray}(hn:h.length=n)(on:(o<n)=True)(mn:(m<n)=True)(om:(o=m)=False)(mo:(m=o)=False)
 (ho:hat h o=some (.blk g (.cells true [.nilsl,.mp m,t]))) (hm:hat h m=some (.blk g2 (.map true es))) (hf:aR 1 (.str x) es=some none) (hp:kA 1 (.str x) (.pt (n+2) 0) es=some (es++[(.str x,.pt (n+2) 0)])) (hf2:aR 1 (.str x) (es++[(.str x,.pt (n+2) 0)])=some (some (.pt (n+2) 0))) :
 runW aB 57 [.pt o 0,.str x] h=some (.tup [.pt (n+2) 0,.bool true],sN h o m t x es [I 0]):=by
 rw[qY 57 x57 rfl];unfold x57 sN;dsimp only;(exact pE ho hm hf hn on mn om mo hp hf2)
theorem bDF{h:XH}{o m n b z:Nat}{g g2 g3:Bool}{t:AV}{cs:List AV}{es:List (AV×AV)}{x:ByteArray}(hn:h.length=n)(on:(o<n)=True)(mn:(m<n)=True)(bn:(b<n)=True)(om:(o=m)=False)(mo:(m=o)=False)(ob:(o=b)=False)(bo:(b=o)=False)(bm:(b=m)=False)(mb:(m=b)=False)
 (ho:hat h o=some (.blk g (.cells true [.sl b 0 1 z,.mp m,t]))) (hb:hat h b=some (.blk g3 (.cells true cs))) (hz:cs.length=z) (hz1:((z+1)*16≤1099511627776)=True) (hz2:(z+1≤1099511627776)=True) (hm:hat h m=some (.blk g2 (.map true es))) (hf:aR 1 (.str x) es=some none) (hp:kA 1 (.str x) (.pt (n+2) 0) es=some (es++[(.str x,.pt (n+2) 0)])) (hf2:aR 1 (.str x) (es++[(.str x,.pt (n+2) 0)])=some (some (.pt (n+2) 0))) :
 runW aB 57 [.pt o 0,.str x] h=some (.tup [.pt (n+2) 0,.bool true],sP h o m b t x cs g3 es [I 0]):=by
 rw[qY 57 x57 rfl];unfold x57 sP;dsimp only;(exact lR ho hm hf hn on mn om mo hp hf2 bn ob bo bm mb hb hz hz1 hz2 aG)
theorem aZq{h:XH}{o m e:Nat}{g g2:Bool}{a b:AV}{es:List (AV×AV)}{x:ByteArray}(ho:hat h o=some (.blk g (.cells true [a,.mp m,b])))(hm:hat h m=some (.blk g2 (.map true es)))(hf:aR 1 (.str x) es=some (some (.pt e 0))) :
 runW aB 99 [.pt o 0,.str x] h=some (.bool false,h):=by
 rw[qY 99 x99 rfl];unfold x99;dsimp only;(exact RS3 ho hm hf)
theorem aZp{h:XH}{o m:Nat}{g g2:Bool}{t:Int}{es:List (AV×AV)}{x:ByteArray}(ho:hat h o=some (.blk g (.cells true [.nilsl,.mp m,I t])))(hm:hat h m=some (.blk g2 (.map true es)))(hf:aR 1 (.str x) es=some none)(ht:((0:Int)=t)=False) :
 runW aB 99 [.pt o 0,.str x] h=some (.bool false,h):=by
 rw[qY 99 x99 rfl];unfold x99;dsimp only;(exact RS4 ho hm hf ht)
theorem aTL{h:XH}{o m b n:Nat}{g g2:Bool}{t:Int}{es:List (AV×AV)}{x:ByteArray}{w:Bool}(ho:hat h o=some (.blk g (.cells true [.sl b 0 1 n,.mp m,I t])))(hm:hat h m=some (.blk g2 (.map true es)))(hf:aR 1 (.str x) es=some none)(ht:((n:Int)=t)=if w then True else False) :
 runW aB 99 [.pt o 0,.str x] h=some (.bool w,h):=by
 rw[qY 99 x99 rfl];unfold x99;dsimp only;cases w<;>(exact RS4 ho hm hf ht)

theorem aZo{h:XH}{o m e:Nat}{g g2:Bool}{a b:AV}{es:List (AV×AV)}{x:ByteArray}(ho:hat h o=some (.blk g (.cells true [a,.mp m,b])))(hm:hat h m=some (.blk g2 (.map true es)))(hf:aR 1 (.str x) es=some (some (.pt e 0))) :
 runW aB 101 [.pt o 0,.str x] h=some (.tup [.pt e 0,.bool false],h):=by
 rw[qY 101 aHm rfl];unfold aHm;dsimp only;(exact RS3 ho hm hf)
theorem aZm{h:XH}{o m n:Nat}{g g2:Bool}{t:AV}{es:List (AV×AV)}{x:ByteArray}(hn:h.length=n)(on:(o<n)=True)(mn:(m<n)=True)(om:(o=m)=False)(mo:(m=o)=False)
 (ho:hat h o=some (.blk g (.cells true [.nilsl,.mp m,t]))) (hm:hat h m=some (.blk g2 (.map true es))) (hf:aR 1 (.str x) es=some none) (hp:kA 1 (.str x) (.pt (n+2) 0) es=some (es++[(.str x,.pt (n+2) 0)])) (hf2:aR 1 (.str x) (es++[(.str x,.pt (n+2) 0)])=some (some (.pt (n+2) 0))) :
 runW aB 101 [.pt o 0,.str x] h=some (.tup [.pt (n+2) 0,.bool true],sN h o m t x es [I 0,I 0]):=by
 rw[qY 101 aHm rfl];unfold aHm sN;dsimp only;(exact pE ho hm hf hn on mn om mo hp hf2)
theorem aZn{h:XH}{o m n b z:Nat}{g g2 g3:Bool}{t:AV}{cs:List AV}{es:List (AV×AV)}{x:ByteArray}(hn:h.length=n)(on:(o<n)=True)(mn:(m<n)=True)(bn:(b<n)=True)(om:(o=m)=False)(mo:(m=o)=False)(ob:(o=b)=False)(bo:(b=o)=False)(bm:(b=m)=False)(mb:(m=b)=False)
 (ho:hat h o=some (.blk g (.cells true [.sl b 0 1 z,.mp m,t]))) (hb:hat h b=some (.blk g3 (.cells true cs))) (hz:cs.length=z) (hz1:((z+1)*16≤1099511627776)=True) (hz2:(z+1≤1099511627776)=True) (hm:hat h m=some (.blk g2 (.map true es))) (hf:aR 1 (.str x) es=some none) (hp:kA 1 (.str x) (.pt (n+2) 0) es=some (es++[(.str x,.pt (n+2) 0)])) (hf2:aR 1 (.str x) (es++[(.str x,.pt (n+2) 0)])=some (some (.pt (n+2) 0))) :
 runW aB 101 [.pt o 0,.str x] h=some (.tup [.pt (n+2) 0,.bool true],sP h o m b t x cs g3 es [I 0,I 0]):=by
 rw[qY 101 aHm rfl];unfold aHm sP;dsimp only;(exact lR ho hm hf hn on mn om mo hp hf2 bn ob bo bm mb hb hz hz1 hz2 aG)
theorem aZl{h:XH}{o m e:Nat}{g g2:Bool}{a b:AV}{es:List (AV×AV)}{x:ByteArray}(ho:hat h o=some (.blk g (.cells true [a,.mp m,b])))(hm:hat h m=some (.blk g2 (.map true es)))(hf:aR 1 (.str x) es=some (some (.pt e 0))) :
 runW aB 102 [.pt o 0,.str x] h=some (.bool false,h):=by
 rw[qY 102 aHl rfl];unfold aHl;dsimp only;(exact RS3 ho hm hf)
theorem aZk{h:XH}{o m:Nat}{g g2:Bool}{t:Int}{es:List (AV×AV)}{x:ByteArray}(ho:hat h o=some (.blk g (.cells true [.nilsl,.mp m,I t])))(hm:hat h m=some (.blk g2 (.map true es)))(hf:aR 1 (.str x) es=some none)(ht:((0:Int)=t)=False) :
 runW aB 102 [.pt o 0,.str x] h=some (.bool false,h):=by
 rw[qY 102 aHl rfl];unfold aHl;dsimp only;(exact RS4 ho hm hf ht)
theorem aTK{h:XH}{o m b n:Nat}{g g2:Bool}{t:Int}{es:List (AV×AV)}{x:ByteArray}{w:Bool}(ho:hat h o=some (.blk g (.cells true [.sl b 0 1 n,.mp m,I t])))(hm:hat h m=some (.blk g2 (.map true es)))(hf:aR 1 (.str x) es=some none)(ht:((n:Int)=t)=if w then True else False) :
 runW aB 102 [.pt o 0,.str x] h=some (.bool w,h):=by
 rw[qY 102 aHl rfl];unfold aHl;dsimp only;cases w<;>(exact RS4 ho hm hf ht)

theorem aZj{h:XH}{o m e:Nat}{g g2:Bool}{a b:AV}{es:List (AV×AV)}{x:ByteArray}(ho:hat h o=some (.blk g (.cells true [a,.mp m,b])))(hm:hat h m=some (.blk g2 (.map true es)))(hf:aR 1 (.str x) es=some (some (.pt e 0))) :
 runW aB 104 [.pt o 0,.str x] h=some (.tup [.pt e 0,.bool false],h):=by
 rw[qY 104 aHk rfl];unfold aHk;dsimp only;(exact RS3 ho hm hf)
theorem aZh{h:XH}{o m n:Nat}{g g2:Bool}{t:AV}{es:List (AV×AV)}{x:ByteArray}(hn:h.length=n)(on:(o<n)=True)(mn:(m<n)=True)(om:(o=m)=False)(mo:(m=o)=False)
 (ho:hat h o=some (.blk g (.cells true [.nilsl,.mp m,t]))) (hm:hat h m=some (.blk g2 (.map true es))) (hf:aR 1 (.str x) es=some none) (hp:kA 1 (.str x) (.pt (n+2) 0) es=some (es++[(.str x,.pt (n+2) 0)])) (hf2:aR 1 (.str x) (es++[(.str x,.pt (n+2) 0)])=some (some (.pt (n+2) 0))) :
 runW aB 104 [.pt o 0,.str x] h=some (.tup [.pt (n+2) 0,.bool true],sN h o m t x es [I 0]):=by
 rw[qY 104 aHk rfl];unfold aHk sN;dsimp only;(exact pE ho hm hf hn on mn om mo hp hf2)
theorem aZi{h:XH}{o m n b z:Nat}{g g2 g3:Bool}{t:AV}{cs:List AV}{es:List (AV×AV)}{x:ByteArray}(hn:h.length=n)(on:(o<n)=True)(mn:(m<n)=True)(bn:(b<n)=True)(om:(o=m)=False)(mo:(m=o)=False)(ob:(o=b)=False)(bo:(b=o)=False)(bm:(b=m)=False)(mb:(m=b)=False)
 (ho:hat h o=some (.blk g (.cells true [.sl b 0 1 z,.mp m,t]))) (hb:hat h b=some (.blk g3 (.cells true cs))) (hz:cs.length=z) (hz1:((z+1)*16≤1099511627776)=True) (hz2:(z+1≤1099511627776)=True) (hm:hat h m=some (.blk g2 (.map true es))) (hf:aR 1 (.str x) es=some none) (hp:kA 1 (.str x) (.pt (n+2) 0) es=some (es++[(.str x,.pt (n+2) 0)])) (hf2:aR 1 (.str x) (es++[(.str x,.pt (n+2) 0)])=some (some (.pt (n+2) 0))) :
 runW aB 104 [.pt o 0,.str x] h=some (.tup [.pt (n+2) 0,.bool true],sP h o m b t x cs g3 es [I 0]):=by
 rw[qY 104 aHk rfl];unfold aHk sP;dsimp only;(exact lR ho hm hf hn on mn om mo hp hf2 bn ob bo bm mb hb hz hz1 hz2 aG)
theorem aZt{h:XH}{o m e:Nat}{g g2:Bool}{a b:AV}{es:List (AV×AV)}{x:ByteArray}(ho:hat h o=some (.blk g (.cells true [a,.mp m,b])))(hm:hat h m=some (.blk g2 (.map true es)))(hf:aR 1 (.str x) es=some (some (.pt e 0))) :
 runW aB 97 [.pt o 0,.str x] h=some (.tup [.pt e 0,.bool false],h):=by
 rw[qY 97 x97 rfl];unfold x97;dsimp only;(exact RS3 ho hm hf)
theorem aZr{h:XH}{o m n:Nat}{g g2:Bool}{t:AV}{es:List (AV×AV)}{x:ByteArray}(hn:h.length=n)(on:(o<n)=True)(mn:(m<n)=True)(om:(o=m)=False)(mo:(m=o)=False)
 (ho:hat h o=some (.blk g (.cells true [.nilsl,.mp m,t]))) (hm:hat h m=some (.blk g2 (.map true es))) (hf:aR 1 (.str x) es=some none) (hp:kA 1 (.str x) (.pt (n+2) 0) es=some (es++[(.str x,.pt (n+2) 0)])) (hf2:aR 1 (.str x) (es++[(.str x,.pt (n+2) 0)])=some (some (.pt (n+2) 0))) :
 runW aB 97 [.pt o 0,.str x] h=some (.tup [.pt (n+2) 0,.bool true],sN h o m t x es [I 0]):=by
 rw[qY 97 x97 rfl];unfold x97 sN;dsimp only;(exact pE ho hm hf hn on mn om mo hp hf2)
theorem aZs{h:XH}{o m n b z:Nat}{g g2 g3:Bool}{t:AV}{cs:List AV}{es:List (AV×AV)}{x:ByteArray}(hn:h.length=n)(on:(o<n)=True)(mn:(m<n)=True)(bn:(b<n)=True)(om:(o=m)=False)(mo:(m=o)=False)(ob:(o=b)=False)(bo:(b=o)=False)(bm:(b=m)=False)(mb:(m=b)=False)
 (ho:hat h o=some (.blk g (.cells true [.sl b 0 1 z,.mp m,t]))) (hb:hat h b=some (.blk g3 (.cells true cs))) (hz:cs.length=z) (hz1:((z+1)*16≤1099511627776)=True) (hz2:(z+1≤1099511627776)=True) (hm:hat h m=some (.blk g2 (.map true es))) (hf:aR 1 (.str x) es=some none) (hp:kA 1 (.str x) (.pt (n+2) 0) es=some (es++[(.str x,.pt (n+2) 0)])) (hf2:aR 1 (.str x) (es++[(.str x,.pt (n+2) 0)])=some (some (.pt (n+2) 0))) :
 runW aB 97 [.pt o 0,.str x] h=some (.tup [.pt (n+2) 0,.bool true],sP h o m b t x cs g3 es [I 0]):=by
 rw[qY 97 x97 rfl];unfold x97 sP;dsimp only;(exact lR ho hm hf hn on mn om mo hp hf2 bn ob bo bm mb hb hz hz1 hz2 aG)
structure OL where
 o:Nat
 m:Nat
 b:Nat
 es:List Nat
def sBk(b:Nat)(cs:List AV):List (Nat×ABlk):=if cs.length=0 then [] else [(b,.cells true cs)]
def eB(es:List Nat)(vs:List (List AV)):List (Nat×ABlk):=List.zipWith (fun e v=>(e,ABlk.cells true v)) es vs
def xP(l:OL)(ks:List ByteArray)(vs:List (List AV))(t:Int):List (Nat×ABlk) :=
 (l.o,.cells true [iL l.b ks.length,.mp l.m,I t])::(l.m,.map true (ent ks l.es))::(sBk l.b (ks.map .str)++eB l.es vs)
def Hd(h:XH)(l:List (Nat×ABlk)):Prop:=(∀ p∈l,aI h p.1=some p.2)∧(l.map (·.1)).Nodup
structure Od(h:XH)(l:OL)(ks:List ByteArray)(vs:List (List AV))(t:Int):Prop where
 hd:Hd h (xP l ks vs t)
 ek:l.es.length=ks.length
 vk:vs.length=ks.length
structure Fr(J:List Nat)(h h':XH):Prop where
 keep:∀ b,b<h.length→b∉J→aI h' b=aI h b
 len:h.length≤h'.length
theorem Fr.refl(J:List Nat)(h:XH):Fr J h h:=⟨fun _ _ _=>rfl,A6 _⟩
theorem Fr.trans{J:List Nat}{h h1 h2:XH}(a:Fr J h h1)(b:Fr J h1 h2):Fr J h h2:=⟨fun x hx hn=>(b.keep x (E6 hx a.len) hn).trans (a.keep x hx hn),I0 a.len b.len⟩
theorem Fr.mono{J K:List Nat}{h h1:XH}(a:Fr J h h1)(s:∀ b,b∈J→b∈K):Fr K h h1:=⟨fun x hx hn=>a.keep x hx fun hm=>hn (s x hm),a.len⟩
theorem Fr.app(h k:XH):Fr [] h (h++k):=⟨fun b hb _=>by simp only[aI,cJ];grind,by simp⟩
theorem aC{h:XH}{b:Nat}{x:ABlk}(hb:aI h b=some x):∃ g,hat h b=some (.blk g x):=by
 unfold aI at hb
 grind
theorem aPH{h:XH}{b:Nat}{g:Bool}{x:ABlk}(hb:hat h b=some (.blk g x)):aI h b=some x:=by
 unfold aI;rw[hb]
theorem aJ{h:XH}{b:Nat}{x:ABlk}(hb:aI h b=some x):b<h.length:=by
 obtain⟨g,hg⟩:=aC hb;exact Classical.byContradiction fun hn=>by
  simp_all [hat]
theorem cO{h:XH}{b j:Nat}{g:Bool}{x:ABlk}:aI (h.set b (some (.blk g x))) j=if j=b then (if b<h.length then some x else aI h j) else aI h j:=by
 simp only[aI,PK]
 grind
theorem aFl{h:XH}{b j:Nat}(hj:j≠b):aI (h.set b none) j=aI h j:=by
 simp only[aI,PK,if_neg hj]
theorem gF{h k:XH}{j:Nat}:aI (h++k) j=if j<h.length then aI h j else aI k (j-h.length):=by
 simp only[aI,PL]
 grind
theorem aWW{es:List Nat}:∀{vs:List (List AV)},es.length=vs.length→(eB es vs).map (·.1)=es:=by
 induction es with
 | nil=>simp[eB]
 | cons e r ih=>intro vs h;cases vs with
   | nil=>cases h
   | cons v w=>simp_all [eB]
theorem aQh{es:List Nat}{vs:List (List AV)}{i e:Nat}{v:List AV}(he:es[i]?=some e)(hv:vs[i]?=some v):(e,ABlk.cells true v)∈eB es vs:=by
 refine A5 (i:=i) ?_
 grind [eB]
theorem aST{es:List Nat}{vs:List (List AV)}(h:es.length=vs.length)(e:Nat)(v:List AV):eB (es++[e]) (vs++[v])=eB es vs++[(e,.cells true v)]:=by
 unfold eB;rw[List.zipWith_append h];rfl
theorem aJN{es:List Nat}{vs:List (List AV)}{p:Nat×ABlk}(h:p∈eB es vs):∃(i:Nat)(e:Nat)(v:List AV),es[i]?=some e∧vs[i]?=some v∧p=(e,.cells true v):=by
 grind [List.getElem?_of_mem,eB]
def idx(l:OL)(n:Nat):List Nat:=l.o::l.m::((if n=0 then [] else [l.b])++l.es)
theorem pS{l:OL}{ks:List ByteArray}{vs:List (List AV)}{t:Int}(h:l.es.length=vs.length):(xP l ks vs t).map (·.1)=idx l ks.length:=by
 unfold xP idx sBk
 grind [aWW]
variable{h h':XH}{l:OL}{ks:List ByteArray}{vs:List (List AV)}{t:Int}{x:ByteArray}{i:Nat}
namespace Od
theorem ho(od:Od h l ks vs t):∃ g,hat h l.o=some (.blk g (.cells true [iL l.b ks.length,.mp l.m,I t])):=aC (od.hd.1 (l.o,_) (by simp[xP]))
theorem hm(od:Od h l ks vs t):∃ g,hat h l.m=some (.blk g (.map true (ent ks l.es))):=aC (od.hd.1 (l.m,_) (by simp[xP]))
theorem hb(od:Od h l ks vs t)(hk:0<ks.length):∃ g,hat h l.b=some (.blk g (.cells true (ks.map .str))):=aC (od.hd.1 (l.b,_) (by
 have:¬ks.length=0:=AM
 simp[xP,sBk,this]))
theorem he(od:Od h l ks vs t){e:Nat}{v:List AV}(he:l.es[i]?=some e)(hv:vs[i]?=some v):aI h e=some (.cells true v):=od.hd.1 (e,.cells true v) (by
 unfold xP
 grind [aQh])
theorem nd(od:Od h l ks vs t):(idx l ks.length).Nodup:=by
 rw[←pS (t:=t) (od.ek.trans od.vk.symm)];exact od.hd.2
theorem lt(od:Od h l ks vs t){b:Nat}(hb:b∈idx l ks.length):b<h.length:=by
 rw[←pS (ks:=ks) (t:=t) (od.ek.trans od.vk.symm)]at hb;obtain⟨p,hp,rfl⟩:=G1.1 hb;exact aJ (od.hd.1 p hp)
theorem lts(od:Od h l ks vs t):l.o<h.length∧l.m<h.length∧(0<ks.length→l.b<h.length)∧∀ e∈l.es,e<h.length :=
 ⟨od.lt (by simp[idx]),od.lt (by simp[idx]),fun hk=>od.lt (by
  have:¬ks.length=0:=AM
  simp[idx,this]),fun e he=>od.lt (by simp[idx,he])⟩
theorem nes(od:Od h l ks vs t):l.o≠l.m∧(0<ks.length→l.o≠l.b∧l.m≠l.b∧l.b∉l.es)∧l.o∉l.es∧l.m∉l.es∧l.es.Nodup:=by
 have:=od.nd;unfold idx at this
 grind
theorem found(od:Od h l ks vs t)(hx:dV ks x=some i):∃ e v,l.es[i]?=some e∧vs[i]?=some v∧aR 1 (.str x) (ent ks l.es)=some (some (.pt e 0))∧aI h e=some (.cells true v):=by
 have h1:=hO hx;have h2:i<ks.length:=(D0.1 h1).1;have h3:=nT (x:=x) od.ek.symm;rw[hx]at h3;have k1:=A8 (l:=l.es) (i:=i) (by rw[od.ek];exact h2);have k2:=A8 (l:=vs) (i:=i) (by rw[od.vk];exact h2);rw[E5,k1]at h3;exact⟨_,_,k1,k2,h3,od.he k1 k2⟩
theorem miss(od:Od h l ks vs t)(hx:dV ks x=none):aR 1 (.str x) (ent ks l.es)=some none:=by
 have h3:=nT (x:=x) od.ek.symm
 grind
theorem fr(od:Od h l ks vs t){J:List Nat}(f:Fr J h h')(hd:∀ b,b∈idx l ks.length→b∉J):Od h' l ks vs t:=by
 refine⟨⟨fun p hp=>?_,od.hd.2⟩,od.ek,od.vk⟩;have h1:=od.hd.1 p hp;have h2:p.1∈idx l ks.length:=by
  rw[←pS (ks:=ks) (t:=t) (od.ek.trans od.vk.symm)];grind
 rw[f.keep p.1 (aJ h1) (hd _ h2)];exact h1
theorem upd(od:Od h l ks vs t){e:Nat}{v:List AV}{g:Bool}(he:l.es[i]?=some e):Od (h.set e (some (.blk g (.cells true v)))) l ks (vs.set i v) t∧Fr [e] h (h.set e (some (.blk g (.cells true v)))):=by
 have hi:i<l.es.length:=(D0.1 he).1;have hm:e∈l.es:=A5 he;obtain⟨n1,n2,n3,n4,n5⟩:=od.nes;obtain⟨t1,t2,t3,t4⟩:=od.lts;have el:=t4 e hm;refine⟨⟨⟨fun p hp=>?_,?_⟩,od.ek,by rw[D6];exact od.vk⟩,⟨fun b _ hb=>by rw[cO,if_neg (by grind)],by simp⟩⟩
 ·unfold xP at hp
  rw[B5,B5,B7]at hp;have keep:∀ p,p∈xP l ks vs t→p.1≠e→aI (h.set e (some (.blk g (.cells true v)))) p.1=some p.2:=fun p hp hne=>by
   rw[cO,if_neg hne];exact od.hd.1 p hp
  rcases hp with rfl|rfl|hp|hp;·exact keep _ (by simp[xP]) fun q=>n3 (by grind)
  ·exact keep _ (by simp[xP]) fun q=>n4 (by grind)
  ·have hz:0<ks.length:=Nat.pos_of_ne_zero fun q=>by simp[sBk,q]at hp
   have hb:p=(l.b,.cells true (ks.map .str)):=by
    have hz2:¬ks.length=0:=AM
    simpa [sBk,hz2]using hp
   subst hb;exact keep _ (by simp[xP,hp]) fun q=>(n2 hz).2.2 (by grind)
  ·obtain⟨j,e2,v2,k1,k2,rfl⟩:=aJN hp
   by_cases hj:j=i
   ·subst hj
    rw[he]at k1;cases k1;have hv:v2=v:=by
     grind
    subst hv;rw[cO,if_pos rfl,if_pos el]
   ·rw[aA6 (fun q=>hj q.symm)]at k2
    refine keep _ (by unfold xP;grind [aQh]) fun q=>hj ?_
    grind [List.getElem?_inj]
 ·have h1:=od.nd
  rw[pS (by rw[D6];exact od.ek.trans od.vk.symm)];exact h1
end Od
end
section
open Go Go.DL
variable{h h':XH}{l:OL}{ks:List ByteArray}{vs:List (List AV)}{t:Int}{x:ByteArray}{i:Nat}{z:List AV}
theorem vW{o m:Nat}{tv:AV}{es:List (AV×AV)}(ho:o<h.length)(hm:m<h.length)(om:o≠m)(j:Nat):aI (sN h o m tv x es z) j =
 if j=m then some (.map true (es++[(.str x,.pt (h.length+2) 0)])) else if j=o then some (.cells true [.sl (h.length+1) 0 1 1,.mp m,tv]) else if j<h.length then aI h j else
 if j=h.length then some (.cells true [.str x]) else if j=h.length+1 then some (.cells true [.str x]) else if j=h.length+2 then some (.cells true z) else none:=by
 unfold sN;rw[gF,cO,cO];simp only[D6];by_cases jm:j=m;·grind
 ·by_cases jo:j=o
  ·grind
  ·by_cases jl:j<h.length
   ·grind
   ·simp only[jm,jo,jl,AAd]
    by_cases j0:j=h.length;·subst j0;simp[aI,hat]
    ·by_cases j1:j=h.length+1
     ·subst j1;simp[aI,hat]
     ·by_cases j2:j=h.length+2
      ·subst j2;simp[aI,hat]
      ·simp only[j0,j1,j2,AAd]
       unfold aI hat
       grind
theorem vX{o m b:Nat}{tv:AV}{cs:List AV}{g3:Bool}{es:List (AV×AV)}(ho:o<h.length)(hm:m<h.length)(om:o≠m)(j:Nat)(jb:j≠b):aI (sP h o m b tv x cs g3 es z) j =
 if j=m then some (.map true (es++[(.str x,.pt (h.length+2) 0)])) else if j=o then some (.cells true [.sl (h.length+1) 0 1 (cs.length+1),.mp m,tv]) else if j<h.length then aI h j else
 if j=h.length then some (.cells true [.str x]) else if j=h.length+1 then some (.cells true (cs++[.str x])) else if j=h.length+2 then some (.cells true z) else none:=by
 unfold sP;rw[gF,cO,cO,aFl jb];simp only[D6];by_cases jm:j=m;·grind
 ·by_cases jo:j=o
  ·grind
  ·by_cases jl:j<h.length
   ·grind
   ·simp only[jm,jo,jl,AAd]
    by_cases j0:j=h.length;·subst j0;simp[aI,hat]
    ·by_cases j1:j=h.length+1
     ·subst j1;simp[aI,hat]
     ·by_cases j2:j=h.length+2
      ·subst j2;simp[aI,hat]
      ·simp only[j0,j1,j2,AAd]
       unfold aI hat
       grind
theorem Od.putG(od:Od h l ks vs t)(hl:h'.length=h.length+3)
 (hp:∀ j,(0<ks.length→j≠l.b)→aI h' j=if j=l.m then some (.map true (ent ks l.es++[(.str x,.pt (h.length+2) 0)])) else if j=l.o then some (.cells true [.sl (h.length+1) 0 1 (ks.length+1),.mp l.m,I t]) else if j<h.length then aI h j else
 if j=h.length then some (.cells true [.str x]) else if j=h.length+1 then some (.cells true (ks.map .str++[.str x])) else if j=h.length+2 then some (.cells true z) else none) :
 Od h' ⟨l.o,l.m,h.length+1,l.es++[h.length+2]⟩ (ks++[x]) (vs++[z]) t∧Fr (idx l ks.length) h h':=by
 obtain⟨n1,n2,n3,n4,n5⟩:=od.nes;obtain⟨t1,t2,t3,t4⟩:=od.lts;have ev:=od.ek.trans od.vk.symm;refine⟨⟨⟨fun p hp'=>?_,?_⟩,by simp[od.ek],by simp[od.vk]⟩,⟨fun b hb hn=>?_,by omega⟩⟩
 ·unfold xP at hp'
  rw[aST ev,uX od.ek.symm]at hp';rw[B5,B5,B7,B7]at hp';rcases hp' with rfl|rfl|hp'|hp'|hp'
  ·have:iL (h.length+1) (ks++[x]).length = .sl (h.length+1) 0 1 (ks.length+1):=by simp[iL]
   grind
  ·grind
  ·have hb:p=(h.length+1,.cells true (ks.map .str++[.str x])):=by simpa [sBk]using hp'
   grind
  ·obtain⟨j,e2,v2,k1,k2,rfl⟩:=aJN hp'
   have me:=A5 k1;have le:=t4 _ me;rw[hp e2 (fun hk q=>(n2 hk).2.2 (by grind)),if_neg (fun q:e2=l.m=>n4 (by grind)),if_neg (fun q:e2=l.o=>n3 (by grind)),if_pos le];exact od.he k1 k2
  grind
 ·rw[pS (by simp[ev])]
  unfold idx;simp only[C9,List.length_singleton,Nat.add_eq_zero_iff,Nat.succ_ne_self,and_false,AAd,N4,aF8,B7,C6,B5,not_or,F9,AAm,AAh,aA7,and_true]
  grind
 ·have hb1:b≠l.o∧b≠l.m∧(0<ks.length→b≠l.b):=by
   unfold idx at hn
   grind
  grind
theorem uH:∀{ks:List ByteArray},dV ks x=none→dV (ks++[x]) x=some ks.length
 | [],_=>by simp[dV]
 | k::r,h=>by
   unfold dV at h;split at h;·cases h
   ·rename_i hk
    rw[aA0]at h;show (if k=x then some 0 else (dV (r++[x]) x).map (· + 1))=_;rw[if_neg hk,uH h];rfl
theorem aGH{α:Type}{l:List α}(h:¬0<l.length):l=[]:=by grind
theorem tru{p:Prop}(h:p):p=True:=AAk h
theorem xG{p:Prop}(h:¬p):p=False:=AAl h
theorem Od.getf(od:Od h l ks vs t)(hx:dV ks x=some i):∃ e v,l.es[i]?=some e∧vs[i]?=some v∧aI h e=some (.cells true v)∧runW aB 63 [.pt l.o 0,.str x] h=some (.pt e 0,h):=by
 obtain⟨g1,ho⟩:=od.ho;obtain⟨g2,hm⟩:=od.hm;obtain⟨e,v,k1,k2,k3,k4⟩:=od.found hx
 grind [w95]
theorem Od.nonef(od:Od h l ks vs t)(hx:dV ks x=none):CalP Tryz.prog aB 63 [.pt l.o 0,.str x] h (.ifc 84 (.agg [I 5])) h:=by
 obtain⟨g1,ho⟩:=od.ho;obtain⟨g2,hm⟩:=od.hm;exact c95 ho hm (od.miss hx)
theorem Od.fullf(od:Od h l ks vs t)(ht:0<t):runW aB 55 [.pt l.o 0,.str x] h=some (.bool (decide (dV ks x=none)&&decide ((ks.length:Int)=t)),h):=by
 obtain⟨g1,ho⟩:=od.ho;obtain⟨g2,hm⟩:=od.hm;cases hx:dV ks x with
 | some i =>
   obtain⟨e,v,k1,k2,k3,k4⟩:=od.found hx;rw[bDH ho hm k3];rfl
 | none =>
   by_cases hk:0<ks.length
   ·have hv:iL l.b ks.length = .sl l.b 0 1 ks.length:=by unfold iL;grind
    rw[hv]at ho;by_cases hw:(ks.length:Int)=t;·rw[aZb (w:=true) ho hm (od.miss hx) (by simp[hw])];simp[hw]
    ·rw[aZb (w:=false) ho hm (od.miss hx) (by simp[hw])];simp[hw]
   ·have h0:ks=[]:=aGH hk
    have hz:((0:Int)=t)=False:=AAb;subst h0;rw[bDG (t:=t) (by simpa [iL]using ho) hm (od.miss hx) hz]
    simp_all
theorem Od.newf(od:Od h l ks vs t)(hx:dV ks x=none)(hk:ks.length≤1000):∃ h',runW aB 57 [.pt l.o 0,.str x] h=some (.tup [.pt (h.length+2) 0,.bool true],h')∧h'.length=h.length+3∧Od h' ⟨l.o,l.m,h.length+1,l.es++[h.length+2]⟩ (ks++[x]) (vs++[[I 0]]) t∧Fr (idx l ks.length) h h':=by
 obtain⟨n1,n2,n3,n4,n5⟩:=od.nes;obtain⟨t1,t2,t3,t4⟩:=od.lts;obtain⟨g1,ho⟩:=od.ho;obtain⟨g2,hm⟩:=od.hm;have hf:=od.miss hx;have hp:=zR (v:=.pt (h.length+2) 0) od.ek.symm hx;have hf2:aR 1 (.str x) (ent ks l.es++[(.str x,.pt (h.length+2) 0)])=some (some (.pt (h.length+2) 0)):=by
  rw[←uX od.ek.symm,nT (by simp[od.ek])];rw[uH hx];simp[←od.ek]
 by_cases k0:0<ks.length
 ·have hv:iL l.b ks.length = .sl l.b 0 1 ks.length:=by unfold iL;grind
  rw[hv]at ho;obtain⟨g3,hb⟩:=od.hb k0;obtain⟨n6,n7,n8⟩:=n2 k0;have t5:=t3 k0;refine⟨_,bDF rfl (tru t1) (tru t2) (tru t5) (xG n1) (xG (Ne.symm n1)) (xG n6) (xG (Ne.symm n6)) (xG (Ne.symm n7)) (xG n7) ho hb (by simp) (tru AM) (tru AM) hm hf hp hf2,by simp[sP],?_⟩;exact Od.putG od (by simp[sP]) fun j hj=>by
   grind [vX]
 ·have h0:ks=[]:=aGH k0
  subst h0;refine⟨_,bDE rfl (tru t1) (tru t2) (xG n1) (xG (Ne.symm n1)) (by simpa [iL]using ho) hm hf hp hf2,by simp[sN],?_⟩;exact Od.putG od (by simp[sN]) fun j hj=>by
   grind [vW]
theorem Od.getm(od:Od h l ks vs t)(hx:dV ks x=some i):∃ e v,l.es[i]?=some e∧vs[i]?=some v∧aI h e=some (.cells true v)∧runW aB 64 [.pt l.o 0,.str x] h=some (.pt e 0,h):=by
 obtain⟨g1,ho⟩:=od.ho;obtain⟨g2,hm⟩:=od.hm;obtain⟨e,v,k1,k2,k3,k4⟩:=od.found hx
 grind [w96]
theorem Od.nonem(od:Od h l ks vs t)(hx:dV ks x=none):CalP Tryz.prog aB 64 [.pt l.o 0,.str x] h (.ifc 84 (.agg [I 5])) h:=by
 obtain⟨g1,ho⟩:=od.ho;obtain⟨g2,hm⟩:=od.hm;exact c96 ho hm (od.miss hx)
theorem Od.fullm(od:Od h l ks vs t)(ht:0<t):runW aB 99 [.pt l.o 0,.str x] h=some (.bool (decide (dV ks x=none)&&decide ((ks.length:Int)=t)),h):=by
 obtain⟨g1,ho⟩:=od.ho;obtain⟨g2,hm⟩:=od.hm;cases hx:dV ks x with
 | some i =>
   obtain⟨e,v,k1,k2,k3,k4⟩:=od.found hx;rw[aZq ho hm k3];rfl
 | none =>
   by_cases hk:0<ks.length
   ·have hv:iL l.b ks.length = .sl l.b 0 1 ks.length:=by unfold iL;grind
    rw[hv]at ho;by_cases hw:(ks.length:Int)=t;·rw[aTL (w:=true) ho hm (od.miss hx) (by simp[hw])];simp[hw]
    ·rw[aTL (w:=false) ho hm (od.miss hx) (by simp[hw])];simp[hw]
   ·have h0:ks=[]:=aGH hk
    have hz:((0:Int)=t)=False:=AAb;subst h0;rw[aZp (t:=t) (by simpa [iL]using ho) hm (od.miss hx) hz]
    simp_all
theorem Od.oldm(od:Od h l ks vs t)(hx:dV ks x=some i):∃ e v,l.es[i]?=some e∧vs[i]?=some v∧aI h e=some (.cells true v)∧runW aB 101 [.pt l.o 0,.str x] h=some (.tup [.pt e 0,.bool false],h):=by
 obtain⟨g1,ho⟩:=od.ho;obtain⟨g2,hm⟩:=od.hm;obtain⟨e,v,k1,k2,k3,k4⟩:=od.found hx
 grind [aZo]
theorem Od.newm(od:Od h l ks vs t)(hx:dV ks x=none)(hk:ks.length≤1000):∃ h',runW aB 101 [.pt l.o 0,.str x] h=some (.tup [.pt (h.length+2) 0,.bool true],h')∧h'.length=h.length+3∧Od h' ⟨l.o,l.m,h.length+1,l.es++[h.length+2]⟩ (ks++[x]) (vs++[[I 0,I 0]]) t∧Fr (idx l ks.length) h h':=by
 obtain⟨n1,n2,n3,n4,n5⟩:=od.nes;obtain⟨t1,t2,t3,t4⟩:=od.lts;obtain⟨g1,ho⟩:=od.ho;obtain⟨g2,hm⟩:=od.hm;have hf:=od.miss hx;have hp:=zR (v:=.pt (h.length+2) 0) od.ek.symm hx;have hf2:aR 1 (.str x) (ent ks l.es++[(.str x,.pt (h.length+2) 0)])=some (some (.pt (h.length+2) 0)):=by
  rw[←uX od.ek.symm,nT (by simp[od.ek])];rw[uH hx];simp[←od.ek]
 by_cases k0:0<ks.length
 ·have hv:iL l.b ks.length = .sl l.b 0 1 ks.length:=by unfold iL;grind
  rw[hv]at ho;obtain⟨g3,hb⟩:=od.hb k0;obtain⟨n6,n7,n8⟩:=n2 k0;have t5:=t3 k0;refine⟨_,aZn rfl (tru t1) (tru t2) (tru t5) (xG n1) (xG (Ne.symm n1)) (xG n6) (xG (Ne.symm n6)) (xG (Ne.symm n7)) (xG n7) ho hb (by simp) (tru AM) (tru AM) hm hf hp hf2,by simp[sP],?_⟩;exact Od.putG od (by simp[sP]) fun j hj=>by
   grind [vX]
 ·have h0:ks=[]:=aGH k0
  subst h0;refine⟨_,aZm rfl (tru t1) (tru t2) (xG n1) (xG (Ne.symm n1)) (by simpa [iL]using ho) hm hf hp hf2,by simp[sN],?_⟩;exact Od.putG od (by simp[sN]) fun j hj=>by
   grind [vW]
theorem Od.getp(od:Od h l ks vs t)(hx:dV ks x=some i):∃ e v,l.es[i]?=some e∧vs[i]?=some v∧aI h e=some (.cells true v)∧runW aB 65 [.pt l.o 0,.str x] h=some (.pt e 0,h):=by
 obtain⟨g1,ho⟩:=od.ho;obtain⟨g2,hm⟩:=od.hm;obtain⟨e,v,k1,k2,k3,k4⟩:=od.found hx
 grind [w97]
theorem Od.nonep(od:Od h l ks vs t)(hx:dV ks x=none):CalP Tryz.prog aB 65 [.pt l.o 0,.str x] h (.ifc 84 (.agg [I 5])) h:=by
 obtain⟨g1,ho⟩:=od.ho;obtain⟨g2,hm⟩:=od.hm;exact c97 ho hm (od.miss hx)
theorem Od.fullp(od:Od h l ks vs t)(ht:0<t):runW aB 102 [.pt l.o 0,.str x] h=some (.bool (decide (dV ks x=none)&&decide ((ks.length:Int)=t)),h):=by
 obtain⟨g1,ho⟩:=od.ho;obtain⟨g2,hm⟩:=od.hm;cases hx:dV ks x with
 | some i =>
   obtain⟨e,v,k1,k2,k3,k4⟩:=od.found hx;rw[aZl ho hm k3];rfl
 | none =>
   by_cases hk:0<ks.length
   ·have hv:iL l.b ks.length = .sl l.b 0 1 ks.length:=by unfold iL;grind
    rw[hv]at ho;by_cases hw:(ks.length:Int)=t;·rw[aTK (w:=true) ho hm (od.miss hx) (by simp[hw])];simp[hw]
    ·rw[aTK (w:=false) ho hm (od.miss hx) (by simp[hw])];simp[hw]
   ·have h0:ks=[]:=aGH hk
    have hz:((0:Int)=t)=False:=AAb;subst h0;rw[aZk (t:=t) (by simpa [iL]using ho) hm (od.miss hx) hz]
    simp_all
theorem Od.oldp(od:Od h l ks vs t)(hx:dV ks x=some i):∃ e v,l.es[i]?=some e∧vs[i]?=some v∧aI h e=some (.cells true v)∧runW aB 104 [.pt l.o 0,.str x] h=some (.tup [.pt e 0,.bool false],h):=by
 obtain⟨g1,ho⟩:=od.ho;obtain⟨g2,hm⟩:=od.hm;obtain⟨e,v,k1,k2,k3,k4⟩:=od.found hx
 grind [aZj]
theorem Od.newp(od:Od h l ks vs t)(hx:dV ks x=none)(hk:ks.length≤1000):∃ h',runW aB 104 [.pt l.o 0,.str x] h=some (.tup [.pt (h.length+2) 0,.bool true],h')∧h'.length=h.length+3∧Od h' ⟨l.o,l.m,h.length+1,l.es++[h.length+2]⟩ (ks++[x]) (vs++[[I 0]]) t∧Fr (idx l ks.length) h h':=by
 obtain⟨n1,n2,n3,n4,n5⟩:=od.nes;obtain⟨t1,t2,t3,t4⟩:=od.lts;obtain⟨g1,ho⟩:=od.ho;obtain⟨g2,hm⟩:=od.hm;have hf:=od.miss hx;have hp:=zR (v:=.pt (h.length+2) 0) od.ek.symm hx;have hf2:aR 1 (.str x) (ent ks l.es++[(.str x,.pt (h.length+2) 0)])=some (some (.pt (h.length+2) 0)):=by
  rw[←uX od.ek.symm,nT (by simp[od.ek])];rw[uH hx];simp[←od.ek]
 by_cases k0:0<ks.length
 ·have hv:iL l.b ks.length = .sl l.b 0 1 ks.length:=by unfold iL;grind
  rw[hv]at ho;obtain⟨g3,hb⟩:=od.hb k0;obtain⟨n6,n7,n8⟩:=n2 k0;have t5:=t3 k0;refine⟨_,aZi rfl (tru t1) (tru t2) (tru t5) (xG n1) (xG (Ne.symm n1)) (xG n6) (xG (Ne.symm n6)) (xG (Ne.symm n7)) (xG n7) ho hb (by simp) (tru AM) (tru AM) hm hf hp hf2,by simp[sP],?_⟩;exact Od.putG od (by simp[sP]) fun j hj=>by
   grind [vX]
 ·have h0:ks=[]:=aGH k0
  subst h0;refine⟨_,aZh rfl (tru t1) (tru t2) (xG n1) (xG (Ne.symm n1)) (by simpa [iL]using ho) hm hf hp hf2,by simp[sN],?_⟩;exact Od.putG od (by simp[sN]) fun j hj=>by
   grind [vW]
theorem Od.oldw(od:Od h l ks vs t)(hx:dV ks x=some i):∃ e v,l.es[i]?=some e∧vs[i]?=some v∧aI h e=some (.cells true v)∧runW aB 97 [.pt l.o 0,.str x] h=some (.tup [.pt e 0,.bool false],h):=by
 obtain⟨g1,ho⟩:=od.ho;obtain⟨g2,hm⟩:=od.hm;obtain⟨e,v,k1,k2,k3,k4⟩:=od.found hx
 grind [aZt]
theorem Od.neww(od:Od h l ks vs t)(hx:dV ks x=none)(hk:ks.length≤1000):∃ h',runW aB 97 [.pt l.o 0,.str x] h=some (.tup [.pt (h.length+2) 0,.bool true],h')∧h'.length=h.length+3∧Od h' ⟨l.o,l.m,h.length+1,l.es++[h.length+2]⟩ (ks++[x]) (vs++[[I 0]]) t∧Fr (idx l ks.length) h h':=by
 obtain⟨n1,n2,n3,n4,n5⟩:=od.nes;obtain⟨t1,t2,t3,t4⟩:=od.lts;obtain⟨g1,ho⟩:=od.ho;obtain⟨g2,hm⟩:=od.hm;have hf:=od.miss hx;have hp:=zR (v:=.pt (h.length+2) 0) od.ek.symm hx;have hf2:aR 1 (.str x) (ent ks l.es++[(.str x,.pt (h.length+2) 0)])=some (some (.pt (h.length+2) 0)):=by
  rw[←uX od.ek.symm,nT (by simp[od.ek])];rw[uH hx];simp[←od.ek]
 by_cases k0:0<ks.length
 ·have hv:iL l.b ks.length = .sl l.b 0 1 ks.length:=by unfold iL;grind
  rw[hv]at ho;obtain⟨g3,hb⟩:=od.hb k0;obtain⟨n6,n7,n8⟩:=n2 k0;have t5:=t3 k0;refine⟨_,aZs rfl (tru t1) (tru t2) (tru t5) (xG n1) (xG (Ne.symm n1)) (xG n6) (xG (Ne.symm n6)) (xG (Ne.symm n7)) (xG n7) ho hb (by simp) (tru AM) (tru AM) hm hf hp hf2,by simp[sP],?_⟩;exact Od.putG od (by simp[sP]) fun j hj=>by
   grind [vX]
 ·have h0:ks=[]:=aGH k0
  subst h0;refine⟨_,aZr rfl (tru t1) (tru t2) (xG n1) (xG (Ne.symm n1)) (by simpa [iL]using ho) hm hf hp hf2,by simp[sN],?_⟩;exact Od.putG od (by simp[sN]) fun j hj=>by
   grind [vW]
end
end Go.Proofs.YtjckchgdlbgolaaGreatDoor
