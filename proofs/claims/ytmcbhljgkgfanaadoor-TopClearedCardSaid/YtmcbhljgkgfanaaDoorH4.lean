/- Parts of a proof, joined: G0 G1 G2. No statement of the seed is proved here. -/
import Derived.KernelRfl
import Derived.Test.YtmcbhljgkgfanaaDoorProg
import Derived.Test.YtmcbhljgkgfanaaDoorH3
set_option linter.unusedSimpArgs false
set_option linter.unusedVariables false
set_option linter.unusedSectionVars false
section
set_option maxRecDepth 100000
namespace Go.Proofs.YtmcbhljgkgfanaaDoor
open Go Go.DL Go.Proofs.Tryd

def x3l0:XCode :=
 (.loop [0,1,4,5,8,13] (.seq (.seq (.reg [] false [⟨0,some 48,.mv (.t 13),none⟩,⟨0,some 49,.len false (.t 48),none⟩,⟨0,some 50,(.bin
 .lss (.t 49) (.c (.int .i64 4))),none⟩]) (.cond (.t 50) .skip (.exit 0))) (.block 1 (.reg [] false [⟨0,some 51,.mv (.t 13),none⟩,⟨0,some 52,
 (.bslice 1 1 [.int .i64 0] [(0,(1,(.c (.int .i64 5))))]),none⟩,⟨0,some 53,(.bslice 1 1 [.nilsl] [(0,(1,(.t 52)))]),none⟩,⟨0,some 54,(.app
 1 24 (.t 51) (.t 53)),none⟩,⟨0,some 13,.mv (.t 54),none⟩]))))
def uE:XCode :=
 (.loop [0,1,4,5,13,14,15] (.seq (.seq (.reg [] false [⟨0,some 68,.mv (.t 15),none⟩,⟨0,some 69,.mv (.t 0),none⟩,⟨0,some 70,(.len
 false (.t 69)),none⟩,⟨0,some 71,.bin .lss (.t 68) (.t 70),none⟩,⟨0,some 72,.mv (.t 71),none⟩,⟨0,some 73,.mv (.t 15),some (72,
 true)⟩,⟨0,some 74,.bin .lss (.t 73) (.c (.int .i64 10)),some (72,true)⟩,⟨0,some 75,.pick (.t 72) (.t 74) (.c (.bool false)),none⟩])
 (.cond (.t 75) .skip (.exit 2))) (.seq (.block 3 (.seq (.reg [] true [⟨0,some 78,.mv (.t 0),none⟩,⟨1,some 79,.mv (.t 15),none⟩,⟨2,(some
 80),.idx 2 (.t 78) (.t 79),none⟩,⟨3,some 81,.idxa 2 1 (.t 80) (.c (.int .i64 0)),none⟩,⟨4,some 82,.load false 1 (.t 81),none⟩,⟨5,(some
 83),.conv .i64 (.t 82),none⟩,⟨6,some 84,.bin .rem (.t 83) (.c (.int .i64 6)),none⟩,⟨7,some 85,.mv (.t 0),none⟩,⟨8,some 86,.mv (.t
 15),none⟩,⟨9,some 87,.idx 2 (.t 85) (.t 86),none⟩,⟨10,some 88,.idxa 2 1 (.t 87) (.c (.int .i64 1)),none⟩,⟨11,some 89,(.load false 1
 (.t 88)),none⟩,⟨12,some 90,.conv .i64 (.t 89),none⟩,⟨13,some 91,.bin .rem (.t 90) (.c (.int .i64 6)),none⟩,⟨14,some 16,.mv (.t 84),
 none⟩,⟨15,some 17,.mv (.t 91),none⟩]) (.seq (.reg [] false [⟨0,some 92,.mv (.t 16),none⟩,⟨0,some 93,.mv (.t 17),none⟩,⟨0,some 94,
 (.bin .neq (.t 92) (.t 93)),none⟩]) (.cond (.t 94) (.reg [] false [⟨0,some 95,.fld 1 (.t 14),none⟩,⟨0,some 96,.load false 1 (.t 95),none⟩,
 ⟨0,some 97,.mv (.t 16),none⟩,⟨0,some 98,.mv (.t 17),none⟩,⟨0,some 99,(.build [.int .i64 0,.int .i64 0] [(0,(1,(.t 97))),(1,(1,
 (.t 98)))]),none⟩,⟨0,some 100,(.bslice 2 1 [.int .i64 0,.int .i64 0] [(0,(2,(.t 99)))]),none⟩,⟨0,some 101,.app 2 16 (.t 96) (.t 100),
 none⟩,⟨0,some 102,.fld 1 (.t 14),none⟩,⟨0,none,(.store 1 (.t 102) (.t 101) []),none⟩]) .skip)))) (.reg [] false [⟨0,some 76,.mv (.t 15),
 none⟩,⟨0,some 77,.bin .add (.t 76) (.c (.int .i64 1)),none⟩,⟨0,some 15,.mv (.t 77),none⟩]))))
def lQ:XCode :=
 (.loop [1,4,5,13,14,18] (.seq (.seq (.reg [] false [⟨0,some 103,.mv (.t 18),none⟩,⟨0,some 104,.mv (.t 1),none⟩,⟨0,some 105,(.len
 false (.t 104)),none⟩,⟨0,some 106,.bin .lss (.t 103) (.t 105),none⟩,⟨0,some 107,.mv (.t 106),none⟩,⟨0,some 108,.mv (.t 18),(some
 (107,true))⟩,⟨0,some 109,.bin .lss (.t 108) (.c (.int .i64 6)),some (107,true)⟩,⟨0,some 110,.pick (.t 107) (.t 109) (.c (.bool false)),
 none⟩]) (.cond (.t 110) .skip (.exit 4))) (.seq (.block 5 (.seq (.reg [] true [⟨0,some 113,.mv (.t 1),none⟩,⟨1,some 114,.mv (.t 18),none⟩,
 ⟨2,some 115,.idx 2 (.t 113) (.t 114),none⟩,⟨3,some 116,.idxa 2 1 (.t 115) (.c (.int .i64 0)),none⟩,⟨4,some 117,.load false 1 (.t 116),
 none⟩,⟨5,some 118,.conv .i64 (.t 117),none⟩,⟨6,some 119,.bin .rem (.t 118) (.c (.int .i64 6)),none⟩,⟨7,some 120,.mv (.t 1),none⟩,
 ⟨8,some 121,.mv (.t 18),none⟩,⟨9,some 122,.idx 2 (.t 120) (.t 121),none⟩,⟨10,some 123,.idxa 2 1 (.t 122) (.c (.int .i64 1)),none⟩,
 ⟨11,some 124,.load false 1 (.t 123),none⟩,⟨12,some 125,.conv .i64 (.t 124),none⟩,⟨13,some 126,.bin .rem (.t 125) (.c (.int .i64 6)),
 none⟩,⟨14,some 19,.mv (.t 119),none⟩,⟨15,some 20,.mv (.t 126),none⟩]) (.seq (.reg [] false [⟨0,some 127,.mv (.t 19),none⟩,⟨0,(some
 128),.mv (.t 20),none⟩,⟨0,some 129,.bin .neq (.t 127) (.t 128),none⟩]) (.cond (.t 129) (.reg [] false [⟨0,some 130,.fld 2 (.t 14),none⟩,
 ⟨0,some 131,.load false 1 (.t 130),none⟩,⟨0,some 132,.mv (.t 18),none⟩,⟨0,some 133,.mv (.t 19),none⟩,⟨0,some 134,.mv (.t 20),
 none⟩,⟨0,some 135,(.build [.int .i64 0,.int .i64 0,.int .i64 0] [(0,(1,(.t 132))),(1,(1,(.t 133))),(2,(1,(.t 134)))]),none⟩,⟨0,(some
 136),(.bslice 3 1 [.int .i64 0,.int .i64 0,.int .i64 0] [(0,(3,(.t 135)))]),none⟩,⟨0,some 137,.app 3 24 (.t 131) (.t 136),none⟩,⟨0,
 (some 138),.fld 2 (.t 14),none⟩,⟨0,none,(.store 1 (.t 138) (.t 137) []),none⟩]) .skip)))) (.reg [] false [⟨0,some 111,.mv (.t 18),none⟩,⟨0,
 (some 112),.bin .add (.t 111) (.c (.int .i64 1)),none⟩,⟨0,some 18,.mv (.t 112),none⟩]))))
def aFg:XCode :=
 (.loop [4,5,13,14,21,23,25,163,164,165] (.seq (.reg [] false [⟨0,some 166,.bin .lss (.t 165) (.t 164),none⟩]) (.seq (.cond (.t 166) .skip
 (.exit 6)) (.seq (.block 7 (.seq (.reg [] false [⟨0,some 167,.idx 1 (.t 163) (.t 165),none⟩,⟨0,some 168,.load false 1 (.t 167),none⟩,⟨0,
 (some 27),.mv (.t 168),none⟩]) (.seq (.seq (.reg [] false [⟨0,some 169,.mv (.t 27),none⟩,⟨0,some 170,.bin .lss (.t 169) (.c (.int .i64
 0)),none⟩,⟨0,some 171,.mv (.t 170),none⟩,⟨0,some 172,.mv (.t 27),some (171,false)⟩,⟨0,some 173,.bin .gtr (.t 172) (.c (.int .i64
 5)),some (171,false)⟩,⟨0,some 174,.pick (.t 171) (.c (.bool true)) (.t 173),none⟩]) (.cond (.t 174) (.seq (.reg [] false [⟨0,some 12,(.mv
 (.c (.bool false))),none⟩]) .ret) .skip)) (.reg [] false [⟨0,some 175,.mv (.t 25),none⟩,⟨0,some 176,.mv (.t 27),none⟩,⟨0,some 177,(.bin
 .shl (.c (.int .i64 1)) (.t 176)),none⟩,⟨0,some 178,.bin .or (.t 175) (.t 177),none⟩,⟨0,some 25,.mv (.t 178),none⟩])))) (.reg [] false [⟨0,
 (some 179),.bin .add (.t 165) (.c (.int .i64 1)),none⟩,⟨0,some 165,.mv (.t 179),none⟩])))))
def aHI:XCode :=
 (.loop [4,5,13,14,21,23,25,30,180,181,182,186,187,188] (.seq (.reg [] false [⟨0,some 189,.bin .lss (.t 188) (.t 187),none⟩]) (.seq (.cond
 (.t 189) .skip (.exit 10)) (.seq (.block 11 (.seq (.reg [] false [⟨0,some 190,.idx 1 (.t 186) (.t 188),none⟩,⟨0,some 191,.load false 1 (.t
 190),none⟩,⟨0,some 32,.mv (.t 191),none⟩]) (.seq (.seq (.reg [] false [⟨0,some 192,.mv (.t 32),none⟩,⟨0,some 193,(.bin .lss (.t 192)
 (.c (.int .i64 0))),none⟩,⟨0,some 194,.mv (.t 193),none⟩,⟨0,some 195,.mv (.t 32),some (194,false)⟩,⟨0,some 196,(.bin .gtr (.t 195)
 (.c (.int .i64 5))),some (194,false)⟩,⟨0,some 197,.pick (.t 194) (.c (.bool true)) (.t 196),none⟩]) (.cond (.t 197) (.seq (.reg [] false [⟨0,
 (some 12),.mv (.c (.bool false)),none⟩]) .ret) .skip)) (.reg [] false [⟨0,some 198,.mv (.t 30),none⟩,⟨0,some 199,.mv (.t 25),none⟩,⟨0,
 (some 200),.mv (.t 32),none⟩,⟨0,some 201,.bin .shr (.t 199) (.t 200),none⟩,⟨0,some 202,.bin .and (.t 201) (.c (.int .i64 1)),none⟩,⟨0,
 (some 203),.bin .add (.t 198) (.t 202),none⟩,⟨0,some 30,.mv (.t 203),none⟩])))) (.reg [] false [⟨0,some 204,.bin .add (.t 188) (.c (.int
 .i64 1)),none⟩,⟨0,some 188,.mv (.t 204),none⟩])))))
def aHH:XCode :=
 (.loop [4,5,13,14,21,23,25,180,181,182] (.seq (.reg [] false [⟨0,some 183,.bin .lss (.t 182) (.t 181),none⟩]) (.seq (.cond (.t 183) .skip
 (.exit 8)) (.seq (.block 9 (.seq (.reg [] false [⟨0,some 184,.idx 1 (.t 180) (.t 182),none⟩,⟨0,some 185,.load false 1 (.t 184),none⟩,⟨0,
 (some 29),.mv (.t 185),none⟩]) (.seq (.reg [] false [⟨0,some 30,.mv (.c (.int .i64 0)),none⟩]) (.seq (.seq (.reg [] false [⟨0,some 186,(.mv
 (.t 29)),none⟩,⟨0,some 187,.len false (.t 186),none⟩,⟨0,some 188,.mv (.c (.int .i64 0)),none⟩]) (.block 10 aHI)) (.seq (.reg [] false [⟨0,
 (some 205),.mv (.t 30),none⟩,⟨0,some 206,.bin .neq (.t 205) (.c (.int .i64 1)),none⟩]) (.cond (.t 206) (.seq (.reg [] false [⟨0,some 12,(.mv
 (.c (.bool false))),none⟩]) .ret) .skip)))))) (.reg [] false [⟨0,some 207,.bin .add (.t 182) (.c (.int .i64 1)),none⟩,⟨0,some 182,.mv (.t
 207),none⟩])))))
def aHG:XCode :=
 (.loop [4,13,14,25,226,227,228] (.seq (.reg [] false [⟨0,some 229,.bin .lss (.t 228) (.t 227),none⟩]) (.seq (.cond (.t 229) .skip (.exit 12))
 (.seq (.block 13 (.seq (.reg [] false [⟨0,some 230,.idx 1 (.t 226) (.t 228),none⟩,⟨0,some 231,.load false 1 (.t 230),none⟩,⟨0,some 35,
 (.mv (.t 231)),none⟩]) (.seq (.reg [] false [⟨0,some 232,.mv (.t 35),none⟩,⟨0,some 233,.bin .lss (.t 232) (.c (.int .i64 0)),none⟩,⟨0,
 (some 234),.mv (.t 233),none⟩,⟨0,some 235,.mv (.t 35),some (234,false)⟩,⟨0,some 236,.bin .gtr (.t 235) (.c (.int .i64 5)),some (234,
 false)⟩,⟨0,some 237,.pick (.t 234) (.c (.bool true)) (.t 236),none⟩,⟨0,some 238,.mv (.t 237),none⟩,⟨0,some 239,.fld 4 (.t 14),(some
 (238,false))⟩,⟨0,some 240,.load false 1 (.t 239),some (238,false)⟩,⟨0,some 241,.mv (.t 35),some (238,false)⟩,⟨0,some 242,(.bin
 .shr (.t 240) (.t 241)),some (238,false)⟩,⟨0,some 243,.bin .and (.t 242) (.c (.int .i64 1)),some (238,false)⟩,⟨0,some 244,.bin .eql (.t
 243) (.c (.int .i64 1)),some (238,false)⟩,⟨0,some 245,.pick (.t 238) (.c (.bool true)) (.t 244),none⟩]) (.cond (.t 245) (.seq (.reg [] false
 [⟨0,some 12,.mv (.c (.bool false)),none⟩]) .ret) .skip)))) (.reg [] false [⟨0,some 246,.bin .add (.t 228) (.c (.int .i64 1)),none⟩,⟨0,(some
 228),.mv (.t 246),none⟩])))))
def aFf:XCode :=
 (.loop [13,25,36,38,39,40,41,42,43,267,268,269] (.seq (.seq (.reg [] false [⟨0,some 282,.mv (.t 43),none⟩,⟨0,some 283,.mv (.t 42),
 none⟩,⟨0,some 284,.bin .lss (.t 282) (.t 283),none⟩,⟨0,some 285,.mv (.t 284),none⟩,⟨0,some 286,.mv (.t 43),some (285,true)⟩,⟨0,
 (some 287),.mv (.t 13),some (285,true)⟩,⟨0,some 288,.mv (.t 41),some (285,true)⟩,⟨0,some 289,.idx 1 (.t 287) (.t 288),some (285,
 true)⟩,⟨0,some 290,.load false 1 (.t 289),some (285,true)⟩,⟨0,some 291,.len false (.t 290),some (285,true)⟩,⟨0,some 292,(.bin
 .lss (.t 286) (.t 291)),some (285,true)⟩,⟨0,some 293,.pick (.t 285) (.t 292) (.c (.bool false)),none⟩]) (.cond (.t 293) .skip (.exit 16))) (.seq
 (.block 17 (.reg [] false [⟨0,some 296,.mv (.t 40),none⟩,⟨0,some 297,.mv (.t 13),none⟩,⟨0,some 298,.mv (.t 41),none⟩,⟨0,some 299,
 (.idx 1 (.t 297) (.t 298)),none⟩,⟨0,some 300,.load false 1 (.t 299),none⟩,⟨0,some 301,.mv (.t 43),none⟩,⟨0,some 302,(.idx 1 (.t 300)
 (.t 301)),none⟩,⟨0,some 303,.load false 1 (.t 302),none⟩,⟨0,some 304,.bin .add (.t 296) (.t 303),none⟩,⟨0,some 40,.mv (.t 304),
 none⟩])) (.reg [] false [⟨0,some 294,.mv (.t 43),none⟩,⟨0,some 295,.bin .add (.t 294) (.c (.int .i64 1)),none⟩,⟨0,some 43,.mv (.t
 295),none⟩]))))
def aFe:XCode :=
 (.loop [13,25,36,38,39,40,267,268,269] (.seq (.reg [] false [⟨0,some 270,.bin .lss (.t 269) (.t 268),none⟩]) (.seq (.cond (.t 270) .skip (.exit
 14)) (.seq (.block 15 (.seq (.reg [] false [⟨0,some 271,.mv (.t 269),none⟩,⟨0,some 272,.idx 1 (.t 267) (.t 269),none⟩,⟨0,some 273,(.load
 false 1 (.t 272)),none⟩,⟨0,some 41,.mv (.t 271),none⟩,⟨0,some 42,.mv (.t 273),none⟩]) (.seq (.seq (.reg [] false [⟨0,some 274,.mv (.t
 25),none⟩,⟨0,some 275,.mv (.t 41),none⟩,⟨0,some 276,.bin .shr (.t 274) (.t 275),none⟩,⟨0,some 277,.bin .and (.t 276) (.c (.int .i64
 1)),none⟩,⟨0,some 278,.bin .eql (.t 277) (.c (.int .i64 0)),none⟩]) (.cond (.t 278) (.exit 15) .skip)) (.seq (.reg [] false [⟨0,some 279,(.mv
 (.t 39)),none⟩,⟨0,some 280,.mv (.t 41),none⟩,⟨0,some 281,.idx 1 (.t 279) (.t 280),none⟩,⟨0,none,(.store 1 (.t 281) (.c .nilsl) []),
 none⟩]) (.seq (.reg [] false [⟨0,some 43,.mv (.c (.int .i64 0)),none⟩]) (.block 16 aFf)))))) (.reg [] false [⟨0,some 305,.bin .add (.t 269) (.c
 (.int .i64 1)),none⟩,⟨0,some 269,.mv (.t 305),none⟩])))))
def x3:XFn:=⟨330,[(12,none)],false,false,
 (.seq (.reg [] false [⟨0,some 8,.box (.t 2),none⟩,⟨0,some 12,.mv (.c (.bool false)),none⟩]) (.seq (.reg [(3,false)] false [⟨0,some 46,(.mv
 (.t 3)),none⟩,⟨0,some 47,(.callf false (.c (.fn (.func 4) [] [])) [.t 46] []),none⟩,⟨0,some 13,.mv (.t 47),none⟩]) (.seq (.block 0 x3l0)
 (.seq (.reg [(13,false)] false [⟨0,some 55,.idxa 3 1 (.t 8) (.c (.int .i64 0)),none⟩,⟨0,some 56,.load false 1 (.t 55),none⟩,⟨0,some 57,
 (.conv .i64 (.t 56)),none⟩,⟨0,some 58,.bin .rem (.t 57) (.c (.int .i64 64)),none⟩,⟨0,some 59,.idxa 3 1 (.t 8) (.c (.int .i64 1)),none⟩,⟨0,
 (some 60),.load false 1 (.t 59),none⟩,⟨0,some 61,.conv .i64 (.t 60),none⟩,⟨0,some 62,.bin .rem (.t 61) (.c (.int .i64 64)),none⟩,⟨0,
 (some 63),.idxa 3 1 (.t 8) (.c (.int .i64 2)),none⟩,⟨0,some 64,.load false 1 (.t 63),none⟩,⟨0,some 65,.conv .i64 (.t 64),none⟩,⟨0,
 (some 66),.bin .rem (.t 65) (.c (.int .i64 64)),none⟩,⟨0,some 67,(.build [.int .i64 0,.nilsl,.nilsl,.int .i64 0,.int .i64 0,(.int .i64
 0)] [(0,(1,(.c (.int .i64 6)))),(3,(1,(.t 58))),(4,(1,(.t 62))),(5,(1,(.t 66)))]),none⟩,⟨0,some 14,(.alloc [.int .i64 0,.nilsl,.nilsl,
 (.int .i64 0),.int .i64 0,.int .i64 0]),none⟩,⟨0,none,(.store 6 (.t 14) (.t 67) []),none⟩]) (.seq (.seq (.reg [] false [⟨0,some 15,.mv (.c
 (.int .i64 0)),none⟩]) (.block 2 uE)) (.seq (.seq (.reg [] false [⟨0,some 18,.mv (.c (.int .i64 0)),none⟩]) (.block 4 lQ)) (.seq (.reg [(14,
 true)] false [⟨0,some 140,.load true 6 (.t 14),none⟩,⟨0,some 141,(.callf false (.c (.fn (.func 5) [] [])) [.t 140] []),none⟩,⟨0,some 139,
 (.mv (.t 141)),none⟩,⟨0,some 142,.ext (.t 139) 0,none⟩,⟨0,some 143,.ext (.t 139) 1,none⟩,⟨0,some 21,.mv (.t 142),none⟩,⟨0,(some
 22),.mv (.t 143),none⟩]) (.seq (.reg [(14,true)] false [⟨0,some 145,.load true 6 (.t 14),none⟩,⟨0,some 146,(.callf false (.c (.fn (.func 6)
 [] [])) [.t 145] []),none⟩,⟨0,some 144,.mv (.t 146),none⟩,⟨0,some 147,.ext (.t 144) 0,none⟩,⟨0,some 148,.ext (.t 144) 1,none⟩,
 ⟨0,some 23,.mv (.t 147),none⟩,⟨0,some 24,.mv (.t 148),none⟩]) (.seq (.seq (.reg [] false [⟨0,some 149,.mv (.t 22),none⟩,⟨0,(some
 150),.mv (.t 24),none⟩,⟨0,some 151,.bin .neq (.t 149) (.t 150),none⟩,⟨0,some 152,.mv (.t 151),none⟩,⟨0,some 153,.mv (.t 22),
 (some (152,false))⟩,⟨0,some 154,.bin .neq (.t 153) (.c (.int .i64 0)),some (152,false)⟩,⟨0,some 155,.mv (.t 154),some (152,false)⟩,
 ⟨0,some 156,.mv (.t 22),some (155,true)⟩,⟨0,some 157,.bin .neq (.t 156) (.c (.int .i64 16)),some (155,true)⟩,⟨0,some 158,(.pick
 (.t 155) (.t 157) (.c (.bool false))),some (152,false)⟩,⟨0,some 159,.pick (.t 152) (.c (.bool true)) (.t 158),none⟩]) (.cond (.t 159) (.seq
 (.reg [] false [⟨0,some 12,.mv (.c (.bool false)),none⟩]) .ret) .skip)) (.seq (.seq (.reg [] false [⟨0,some 160,.mv (.t 22),none⟩,⟨0,(some
 161),.bin .eql (.t 160) (.c (.int .i64 16)),none⟩]) (.cond (.t 161) (.seq (.reg [] false [⟨0,some 162,(.callf false (.c (.fn (.func 7) [] [])) []
 []),none⟩,⟨0,some 12,.mv (.t 162),none⟩]) .ret) .skip)) (.seq (.reg [] false [⟨0,some 25,.mv (.c (.int .i64 0)),none⟩]) (.seq (.seq (.reg []
 false [⟨0,some 163,.mv (.t 21),none⟩,⟨0,some 164,.len false (.t 163),none⟩,⟨0,some 165,.mv (.c (.int .i64 0)),none⟩]) (.block 6
 aFg)) (.seq (.seq (.reg [] false [⟨0,some 180,.mv (.t 23),none⟩,⟨0,some 181,.len false (.t 180),none⟩,⟨0,some 182,.mv (.c (.int .i64
 0)),none⟩]) (.block 8 aHH)) (.seq (.reg [(14,true),(21,false)] false [⟨0,some 209,.load true 6 (.t 14),none⟩,⟨0,some 210,.mv (.t 21),
 none⟩,⟨0,some 211,.mv (.t 5),none⟩,⟨0,some 212,.conv .i64 (.t 211),none⟩,⟨0,some 213,.bin .rem (.t 212) (.c (.int .i64 101)),none⟩,
 ⟨0,some 214,(.callf false (.c (.fn (.func 8) [] [])) [.t 209,.t 210,.t 213] []),none⟩,⟨0,some 208,.mv (.t 214),none⟩,⟨0,some 215,
 (.ext (.t 208) 0),none⟩,⟨0,some 216,.ext (.t 208) 1,none⟩,⟨0,some 33,.mv (.t 215),none⟩,⟨0,some 22,.mv (.t 216),none⟩]) (.seq (.seq
 (.reg [] false [⟨0,some 217,.mv (.t 22),none⟩,⟨0,some 218,.bin .neq (.t 217) (.c (.int .i64 0)),none⟩,⟨0,some 219,.mv (.t 218),none⟩,
 ⟨0,some 220,.mv (.t 23),some (219,false)⟩,⟨0,some 221,.len false (.t 220),some (219,false)⟩,⟨0,some 222,.mv (.t 21),some (219,
 false)⟩,⟨0,some 223,.len false (.t 222),some (219,false)⟩,⟨0,some 224,.bin .neq (.t 221) (.t 223),some (219,false)⟩,⟨0,some 225,
 (.pick (.t 219) (.c (.bool true)) (.t 224)),none⟩]) (.cond (.t 225) (.seq (.reg [] false [⟨0,some 12,.mv (.c (.bool false)),none⟩]) .ret) .skip))
 (.seq (.seq (.reg [] false [⟨0,some 226,.mv (.t 33),none⟩,⟨0,some 227,.len false (.t 226),none⟩,⟨0,some 228,.mv (.c (.int .i64 0)),
 none⟩]) (.block 12 aHG)) (.seq (.reg [] false [⟨0,some 247,.mv (.t 4),none⟩,⟨0,some 248,.conv .i64 (.t 247),none⟩,⟨0,some 249,(.bin
 .rem (.t 248) (.c (.int .i64 9))),none⟩,⟨0,some 36,.mv (.t 249),none⟩]) (.seq (.reg [(13,false)] false [⟨0,some 251,.mv (.t 13),none⟩,⟨0,
 (some 252),.mv (.t 36),none⟩,⟨0,some 253,(.callf false (.c (.fn (.func 9) [] [])) [.t 251,.t 252] []),none⟩,⟨0,some 250,.mv (.t 253),
 none⟩,⟨0,some 254,.ext (.t 250) 0,none⟩,⟨0,some 255,.ext (.t 250) 1,none⟩,⟨0,some 256,.ext (.t 250) 2,none⟩,⟨0,some 37,.mv (.t
 254),none⟩,⟨0,some 38,.mv (.t 255),none⟩,⟨0,some 22,.mv (.t 256),none⟩]) (.seq (.seq (.reg [] false [⟨0,some 257,.mv (.t 22),none⟩,
 ⟨0,some 258,.bin .neq (.t 257) (.c (.int .i64 0)),none⟩,⟨0,some 259,.mv (.t 258),none⟩,⟨0,some 260,.mv (.t 37),some (259,false)⟩,
 ⟨0,some 261,.len false (.t 260),some (259,false)⟩,⟨0,some 262,.bin .neq (.t 261) (.c (.int .i64 4)),some (259,false)⟩,⟨0,some 263,
 (.pick (.t 259) (.c (.bool true)) (.t 262)),none⟩]) (.cond (.t 263) (.seq (.reg [] false [⟨0,some 12,.mv (.c (.bool false)),none⟩]) .ret) .skip))
 (.seq (.reg [] false [⟨0,some 264,(.bslice 1 0 [.nilsl] []),none⟩,⟨0,some 265,.mv (.t 13),none⟩,⟨0,some 266,.app 1 24 (.t 264) (.t 265),
 none⟩,⟨0,some 39,.mv (.t 266),none⟩]) (.seq (.reg [] false [⟨0,some 40,.mv (.c (.int .i64 0)),none⟩]) (.seq (.seq (.reg [] false [⟨0,(some
 267),.mv (.t 37),none⟩,⟨0,some 268,.len false (.t 267),none⟩,⟨0,some 269,.mv (.c (.int .i64 0)),none⟩]) (.block 14 aFe)) (.seq (.reg
 [(39,false)] false [⟨0,some 307,.mv (.t 39),none⟩,⟨0,some 308,.mv (.t 36),none⟩,⟨0,some 309,(.callf false (.c (.fn (.func 9) [] []))
 [.t 307,.t 308] []),none⟩,⟨0,some 306,.mv (.t 309),none⟩,⟨0,some 310,.ext (.t 306) 0,none⟩,⟨0,some 311,.ext (.t 306) 1,none⟩,
 ⟨0,some 312,.ext (.t 306) 2,none⟩,⟨0,some 44,.mv (.t 310),none⟩,⟨0,some 45,.mv (.t 311),none⟩,⟨0,some 22,.mv (.t 312),none⟩])
 (.seq (.reg [] false [⟨0,some 313,.mv (.t 22),none⟩,⟨0,some 314,.bin .eql (.t 313) (.c (.int .i64 0)),none⟩,⟨0,some 315,.mv (.t 314),
 none⟩,⟨0,some 316,.mv (.t 45),some (315,true)⟩,⟨0,some 317,.mv (.t 38),some (315,true)⟩,⟨0,some 318,.bin .leq (.t 316) (.t
 317),some (315,true)⟩,⟨0,some 319,.pick (.t 315) (.t 318) (.c (.bool false)),none⟩,⟨0,some 320,.mv (.t 319),none⟩,⟨0,some 321,(.mv
 (.t 45)),some (320,true)⟩,⟨0,some 322,.mv (.t 38),some (320,true)⟩,⟨0,some 323,.mv (.t 40),some (320,true)⟩,⟨0,some 324,(.bin
 .sub (.t 322) (.t 323)),some (320,true)⟩,⟨0,some 325,.bin .geq (.t 321) (.t 324),some (320,true)⟩,⟨0,some 326,(.pick (.t 320) (.t 325)
 (.c (.bool false))),none⟩,⟨0,some 327,.mv (.t 326),none⟩,⟨0,some 328,(.callf false (.c (.fn (.func 7) [] [])) [] []),some (327,true)⟩,⟨0,
 (some 329),.pick (.t 327) (.t 328) (.c (.bool false)),none⟩,⟨0,some 12,.mv (.t 329),none⟩]) .ret)))))))))))))))))))))))),none⟩
theorem is3:cT prog 3 x3.fn:=⟨fun vs w=>call3 vs w,_,_,func3,rfl,rfl,by kernel_rfl,by kernel_rfl⟩
theorem ok3:gH x3=true:=by kernel_rfl
theorem st3:aT x3 x3.body:=(aB rfl)

def x4l0:XCode :=
 (.loop [0,3,4] (.seq (.seq (.reg [] false [⟨0,some 7,.mv (.t 4),none⟩,⟨0,some 8,.mv (.t 0),none⟩,⟨0,some 9,.len false (.t 8),none⟩,
 ⟨0,some 10,.bin .lss (.t 7) (.t 9),none⟩,⟨0,some 11,.mv (.t 10),none⟩,⟨0,some 12,.mv (.t 4),some (11,true)⟩,⟨0,some 13,(.bin
 .lss (.t 12) (.c (.int .i64 4))),some (11,true)⟩,⟨0,some 14,.pick (.t 11) (.t 13) (.c (.bool false)),none⟩]) (.cond (.t 14) .skip (.exit 0)))
 (.seq (.block 1 (.seq (.reg [] false [⟨0,some 17,.mv (.t 0),none⟩,⟨0,some 18,.mv (.t 4),none⟩,⟨0,some 19,.idx 3 (.t 17) (.t 18),
 none⟩,⟨0,some 20,.idxa 3 1 (.t 19) (.c (.int .i64 0)),none⟩,⟨0,some 21,.load false 1 (.t 20),none⟩,⟨0,some 22,.conv .i64 (.t 21),
 none⟩,⟨0,some 5,.mv (.t 22),none⟩]) (.seq (.reg [] false [⟨0,some 23,.mv (.t 5),none⟩,⟨0,some 24,.mv (.t 0),none⟩,⟨0,some 25,
 (.mv (.t 4)),none⟩,⟨0,some 26,.idx 3 (.t 24) (.t 25),none⟩,⟨0,some 27,.idxa 3 1 (.t 26) (.c (.int .i64 1)),none⟩,⟨0,some 28,(.load
 false 1 (.t 27)),none⟩,⟨0,some 29,.conv .i64 (.t 28),none⟩,⟨0,some 30,.bin .rem (.t 29) (.c (.int .i64 100)),none⟩,⟨0,some 31,(.bin
 .sub (.t 23) (.t 30)),none⟩,⟨0,some 32,.mm true (.c (.int .i64 0)) (.t 31),none⟩,⟨0,some 6,.mv (.t 32),none⟩]) (.reg [] false [⟨0,(some
 33),.mv (.t 3),none⟩,⟨0,some 34,.mv (.t 5),none⟩,⟨0,some 35,.mv (.t 6),none⟩,⟨0,some 36,.mv (.t 6),none⟩,⟨0,some 37,(.mv
 (.t 0)),none⟩,⟨0,some 38,.mv (.t 4),none⟩,⟨0,some 39,.idx 3 (.t 37) (.t 38),none⟩,⟨0,some 40,.idxa 3 1 (.t 39) (.c (.int .i64 2)),
 none⟩,⟨0,some 41,.load false 1 (.t 40),none⟩,⟨0,some 42,.conv .i64 (.t 41),none⟩,⟨0,some 43,.bin .rem (.t 42) (.c (.int .i64 100)),
 none⟩,⟨0,some 44,.bin .sub (.t 36) (.t 43),none⟩,⟨0,some 45,.mm true (.c (.int .i64 0)) (.t 44),none⟩,⟨0,some 46,(.bslice 1 3 [(.int
 .i64 0)] [(0,(1,(.t 34))),(1,(1,(.t 35))),(2,(1,(.t 45)))]),none⟩,⟨0,some 47,(.bslice 1 1 [.nilsl] [(0,(1,(.t 46)))]),none⟩,⟨0,some 48,
 (.app 1 24 (.t 33) (.t 47)),none⟩,⟨0,some 3,.mv (.t 48),none⟩])))) (.reg [] false [⟨0,some 15,.mv (.t 4),none⟩,⟨0,some 16,(.bin .add
 (.t 15) (.c (.int .i64 1))),none⟩,⟨0,some 4,.mv (.t 16),none⟩]))))
def x4:XFn:=⟨50,[(2,none)],false,true,
 (.seq (.reg [] false [⟨0,some 2,.mv (.c .nilsl),none⟩]) (.seq (.reg [] false [⟨0,some 3,.mv (.c .nilsl),none⟩]) (.seq (.seq (.reg [] false [⟨0,
 (some 4),.mv (.c (.int .i64 0)),none⟩]) (.block 0 x4l0)) (.seq (.reg [] false [⟨0,some 49,.mv (.t 3),none⟩,⟨0,some 2,.mv (.t 49),none⟩])
 .ret)))),none⟩
theorem is4:cT prog 4 x4.fn:=⟨fun vs w=>call4 vs w,_,_,func4,rfl,rfl,by kernel_rfl,by kernel_rfl⟩
theorem ok4:gH x4=true:=by kernel_rfl
theorem st4:aT x4 x4.body:=(aB rfl)

def vH:XCode :=
 (.loop [1,4,5,7,19,20] (.seq (.reg [] false [⟨0,some 21,.bin .lss (.t 20) (.t 19),none⟩]) (.seq (.cond (.t 21) .skip (.exit 0)) (.seq (.block 1
 (.seq (.reg [] false [⟨0,some 22,.mv (.t 20),none⟩,⟨0,some 8,.mv (.t 22),none⟩]) (.seq (.block 2 (.seq (.reg [] false [⟨0,some 24,(.mv
 (.t 5)),none⟩,⟨0,some 25,.bin .eql (.t 24) (.c (.int .i64 0)),none⟩,⟨0,some 23,.mv (.t 25),none⟩]) (.cond (.t 23) (.exit 0) (.seq (.reg
 [(1,true),(4,false)] false [⟨0,some 27,.fld 5 (.t 1),none⟩,⟨0,some 28,.load false 1 (.t 27),none⟩,⟨0,some 29,.mv (.t 8),none⟩,⟨0,
 (some 30),(.callf false (.c (.fn (.func 11) [] [])) [.t 28,.t 29] []),none⟩,⟨0,some 31,.mv (.t 30),none⟩,⟨0,some 32,.mv (.t 4),(some
 (31,false))⟩,⟨0,some 33,.mv (.t 7),some (31,false)⟩,⟨0,some 34,.mv (.t 8),some (31,false)⟩,⟨0,some 35,(.callf false (.c (.fn
 (.func 13) [] [])) [.t 34] []),some (31,false)⟩,⟨0,some 36,.bin .or (.t 33) (.t 35),some (31,false)⟩,⟨0,some 37,(.callf false (.c (.fn
 (.func 12) [] [])) [.t 32,.t 36] []),some (31,false)⟩,⟨0,some 38,.mv (.t 5),some (31,false)⟩,⟨0,some 39,.bin .geq (.t 37) (.t
 38),some (31,false)⟩,⟨0,some 40,.pick (.t 31) (.c (.bool true)) (.t 39),none⟩,⟨0,some 26,.mv (.t 40),none⟩]) (.cond (.t 26) (.exit 1)
 .skip))))) (.seq (.reg [] false [⟨0,some 41,.mv (.t 7),none⟩,⟨0,some 42,.mv (.t 8),none⟩,⟨0,some 43,(.callf false (.c (.fn (.func 13) []
 [])) [.t 42] []),none⟩,⟨0,some 44,.bin .or (.t 41) (.t 43),none⟩,⟨0,some 7,.mv (.t 44),none⟩]) (.reg [] false [⟨0,some 45,.mv (.t
 5),none⟩,⟨0,some 46,.bin .sub (.t 45) (.c (.int .i64 1)),none⟩,⟨0,some 5,.mv (.t 46),none⟩]))))) (.reg [] false [⟨0,some 47,(.bin .add
 (.t 20) (.c (.int .i64 1))),none⟩,⟨0,some 20,.mv (.t 47),none⟩])))))
def x5:XFn:=⟨50,[(2,none),(3,none)],false,false,
 (.seq (.reg [] false [⟨0,some 1,.box (.t 0),none⟩,⟨0,some 2,.mv (.c .nilsl),none⟩,⟨0,some 3,.mv (.c (.int .i64 0)),none⟩]) (.scope
 (.seq (.reg [(1,true)] false [⟨0,some 10,.load true 6 (.t 1),none⟩,⟨0,some 11,(.callf false (.c (.fn (.func 10) [] [])) [.t 10] []),none⟩,
 ⟨0,some 9,.mv (.t 11),none⟩,⟨0,some 12,.ext (.t 9) 0,none⟩,⟨0,some 13,.ext (.t 9) 1,none⟩,⟨0,some 14,.ext (.t 9) 2,none⟩,⟨0,
 (some 4),.mv (.t 12),none⟩,⟨0,some 5,.mv (.t 13),none⟩,⟨0,some 6,.mv (.t 14),none⟩]) (.seq (.seq (.reg [] false [⟨0,some 15,.mv (.t
 6),none⟩,⟨0,some 16,.bin .neq (.t 15) (.c (.int .i64 0)),none⟩]) (.cond (.t 16) (.seq (.reg [] false [⟨0,some 17,.mv (.t 6),none⟩,⟨0,
 (some 2),.mv (.c .nilsl),none⟩,⟨0,some 3,.mv (.t 17),none⟩]) .ret) .skip)) (.seq (.reg [] false [⟨0,some 7,.mv (.c (.int .i64 0)),none⟩])
 (.seq .skip (.seq (.seq (.reg [] false [⟨0,some 18,.fld 0 (.t 1),none⟩,⟨0,some 19,.load false 1 (.t 18),none⟩,⟨0,some 20,.mv (.c (.int
 .i64 0)),none⟩]) (.block 0 vH)) (.seq (.reg [] false [⟨0,some 48,.mv (.t 7),none⟩,⟨0,some 49,(.callf false (.c (.fn (.func 14) [] [])) [(.t
 48)] []),none⟩,⟨0,some 2,.mv (.t 49),none⟩,⟨0,some 3,.mv (.c (.int .i64 0)),none⟩]) .ret)))))))),none⟩
theorem is5:cT prog 5 x5.fn:=⟨fun vs w=>call5 vs w,_,_,func5,rfl,rfl,by kernel_rfl,by kernel_rfl⟩
theorem ok5:gH x5=true:=by kernel_rfl
theorem st5:aT x5 x5.body:=(aB rfl)

def oV:XCode :=
 (.loop [7,9,10,11,29,30] (.seq (.seq (.reg [] false [⟨0,some 32,.mv (.t 11),none⟩,⟨0,some 33,.bin .neq (.t 32) (.c (.int .i64 33)),none⟩])
 (.cond (.t 33) .skip (.exit 2))) (.block 3 (.seq (.reg [] false [⟨0,some 34,.mv (.t 7),none⟩,⟨0,some 35,.mv (.t 11),none⟩,⟨0,some 36,
 (.nilck (.t 34)),none⟩,⟨0,some 37,.fld 1 (.t 36),none⟩,⟨0,some 38,.idxa 34 34 (.t 37) (.t 35),none⟩,⟨0,some 39,(.slarr 34 1 (.t 38)
 none none),none⟩,⟨0,some 40,(.callf false (.c (.fn (.func 16) [] [])) [.t 39,.c (.fn (.func 17) [] [])] []),none⟩,⟨0,some 12,.mv (.t 40),
 none⟩]) (.seq (.reg [] true [⟨0,some 41,.mv (.t 7),none⟩,⟨1,some 42,.mv (.t 11),none⟩,⟨2,some 43,.mv (.t 12),none⟩,⟨3,some 44,
 (.nilck (.t 41)),none⟩,⟨4,some 45,.fld 1 (.t 44),none⟩,⟨5,some 46,.idxa 34 34 (.t 45) (.t 42),none⟩,⟨6,some 47,.idxa 34 1 (.t 46) (.t
 43),none⟩,⟨7,some 48,.load false 1 (.t 47),none⟩,⟨8,some 49,.bin .sub (.t 48) (.c (.int .i64 1)),none⟩,⟨9,some 50,.nilck (.t 41),
 none⟩,⟨10,some 51,.fld 1 (.t 50),none⟩,⟨11,some 52,.idxa 34 34 (.t 51) (.t 42),none⟩,⟨12,some 53,.idxa 34 1 (.t 52) (.t 43),none⟩,
 ⟨13,none,(.store 1 (.t 53) (.t 49) []),none⟩]) (.seq (.reg [] false [⟨0,some 54,.mv (.t 12),none⟩,⟨0,some 11,.mv (.t 54),none⟩]) (.seq
 (.reg [] false [⟨0,some 55,.mv (.t 11),none⟩,⟨0,some 56,.bin .quo (.t 55) (.c (.int .i64 2)),none⟩,⟨0,some 13,.mv (.t 56),none⟩])
 (.seq (.reg [] false [⟨0,some 57,.mv (.t 11),none⟩,⟨0,some 58,.bin .lss (.t 57) (.c (.int .i64 32)),none⟩,⟨0,some 59,.mv (.t 58),
 none⟩,⟨0,some 60,.mv (.t 11),some (59,true)⟩,⟨0,some 61,.bin .rem (.t 60) (.c (.int .i64 2)),some (59,true)⟩,⟨0,some 62,(.bin
 .eql (.t 61) (.c (.int .i64 0))),some (59,true)⟩,⟨0,some 63,.pick (.t 59) (.t 62) (.c (.bool false)),none⟩]) (.cond (.t 63) (.seq (.seq (.reg []
 false [⟨0,some 64,.mv (.t 10),none⟩,⟨0,some 65,.mv (.t 13),none⟩,⟨0,some 66,(.callf false (.c (.fn (.func 18) [] [])) [.t 64,.t 65]
 []),none⟩,⟨0,some 14,.mv (.t 66),none⟩]) (.seq (.reg [] false [⟨0,some 67,.mv (.t 14),none⟩,⟨0,some 68,.bin .geq (.t 67) (.c (.int
 .i64 0)),none⟩]) (.cond (.t 68) (.reg [] false [⟨0,some 69,.mv (.t 10),none⟩,⟨0,some 70,.mv (.t 14),none⟩,⟨0,some 71,(.slsl 1 (.t 69)
 none (some (.t 70))),none⟩,⟨0,some 10,.mv (.t 71),none⟩]) .skip))) (.reg [(1000010,false)] false [⟨0,some 72,.mv (.t 10),none⟩,⟨0,(some
 73),.mv (.t 13),none⟩,⟨0,some 74,(.bslice 1 1 [.int .i64 0] [(0,(1,(.t 73)))]),none⟩,⟨0,some 75,.app 1 8 (.t 72) (.t 74),none⟩,⟨0,
 (some 10),.mv (.t 75),none⟩])) .skip)))))))))
def aEi:XCode :=
 (.loop [7,9,29,30] (.seq (.reg [] false [⟨0,some 31,.bin .lss (.t 30) (.t 29),none⟩]) (.seq (.cond (.t 31) .skip (.exit 0)) (.seq (.block 1 (.seq
 (.reg [] false [⟨0,some 10,.mv (.c .nilsl),none⟩]) (.seq (.seq (.reg [] false [⟨0,some 11,.mv (.c (.int .i64 32)),none⟩]) (.block 2 oV))
 (.reg [(10,false)] false [⟨0,some 76,.mv (.t 9),none⟩,⟨0,some 77,.mv (.t 10),none⟩,⟨0,some 78,(.bslice 1 1 [.nilsl] [(0,(1,(.t
 77)))]),none⟩,⟨0,some 79,.app 1 24 (.t 76) (.t 78),none⟩,⟨0,some 9,.mv (.t 79),none⟩])))) (.reg [] false [⟨0,some 80,(.bin .add (.t 30)
 (.c (.int .i64 1))),none⟩,⟨0,some 30,.mv (.t 80),none⟩])))))
def x6:XFn:=⟨82,[(2,none),(3,none)],false,false,
 (.seq (.reg [] false [⟨0,some 1,.box (.t 0),none⟩,⟨0,some 2,.mv (.c .nilsl),none⟩,⟨0,some 3,.mv (.c (.int .i64 0)),none⟩]) (.seq (.reg
 [(1,true)] false [⟨0,some 16,.load true 6 (.t 1),none⟩,⟨0,some 17,(.callf false (.c (.fn (.func 10) [] [])) [.t 16] []),none⟩,⟨0,(some
 15),.mv (.t 17),none⟩,⟨0,some 18,.ext (.t 15) 0,none⟩,⟨0,some 19,.ext (.t 15) 1,none⟩,⟨0,some 20,.ext (.t 15) 2,none⟩,⟨0,(some
 4),.mv (.t 18),none⟩,⟨0,some 5,.mv (.t 19),none⟩,⟨0,some 6,.mv (.t 20),none⟩]) (.seq (.seq (.reg [] false [⟨0,some 21,.mv (.t 6),
 none⟩,⟨0,some 22,.bin .neq (.t 21) (.c (.int .i64 0)),none⟩]) (.cond (.t 22) (.seq (.reg [] false [⟨0,some 23,.mv (.t 6),none⟩,⟨0,some 2,
 (.mv (.c .nilsl)),none⟩,⟨0,some 3,.mv (.t 23),none⟩]) .ret) .skip)) (.seq (.reg [(4,false)] false [⟨0,some 25,.mv (.t 4),none⟩,⟨0,(some
 26),(.callf false (.c (.fn (.func 15) [] [])) [.t 25] []),none⟩,⟨0,some 24,.mv (.t 26),none⟩,⟨0,some 27,.ext (.t 24) 0,none⟩,⟨0,(some
 28),.ext (.t 24) 1,none⟩,⟨0,some 7,.mv (.t 27),none⟩,⟨0,some 8,.mv (.t 28),none⟩]) (.seq (.reg [] false [⟨0,some 9,.mv (.c
 .nilsl),none⟩]) (.seq (.seq (.reg [] false [⟨0,some 29,.mv (.t 5),none⟩,⟨0,some 30,.mv (.c (.int .i64 0)),none⟩]) (.block 0 aEi)) (.seq
 (.reg [] false [⟨0,some 81,.mv (.t 9),none⟩,⟨0,some 2,.mv (.t 81),none⟩,⟨0,some 3,.mv (.c (.int .i64 0)),none⟩]) .ret))))))),none⟩
theorem is6:cT prog 6 x6.fn:=⟨fun vs w=>call6 vs w,_,_,func6,rfl,rfl,by kernel_rfl,by kernel_rfl⟩
theorem ok6:gH x6=true:=by kernel_rfl
theorem st6:aT x6 x6.body:=(aB rfl)

def x7:XFn:=⟨41,[(0,none)],false,false,
 (.seq (.reg [] false [⟨0,some 0,.mv (.c (.bool false)),none⟩]) (.seq (.reg [] false [⟨0,some 4,(.build [.int .i64 0,.int .i64 0] [(0,(1,(.c
 (.int .i64 0)))),(1,(1,(.c (.int .i64 1))))]),none⟩,⟨0,some 5,(.build [.int .i64 0,.int .i64 0] [(0,(1,(.c (.int .i64 0)))),(1,(1,(.c
 (.int .i64 2))))]),none⟩,⟨0,some 6,(.build [.int .i64 0,.int .i64 0] [(0,(1,(.c (.int .i64 1)))),(1,(1,(.c (.int .i64 3))))]),none⟩,⟨0,
 (some 7),(.build [.int .i64 0,.int .i64 0] [(0,(1,(.c (.int .i64 2)))),(1,(1,(.c (.int .i64 3))))]),none⟩,⟨0,some 8,(.build [.int .i64 0,
 (.int .i64 0)] [(0,(1,(.c (.int .i64 3)))),(1,(1,(.c (.int .i64 4))))]),none⟩,⟨0,some 9,(.build [.int .i64 0,.int .i64 0] [(0,(1,(.c (.int
 .i64 3)))),(1,(1,(.c (.int .i64 5))))]),none⟩,⟨0,some 10,(.build [.int .i64 0,.int .i64 0] [(0,(1,(.c (.int .i64 4)))),(1,(1,(.c (.int
 .i64 6))))]),none⟩,⟨0,some 11,(.build [.int .i64 0,.int .i64 0] [(0,(1,(.c (.int .i64 5)))),(1,(1,(.c (.int .i64 6))))]),none⟩,⟨0,(some
 12),(.bslice 2 8 [.int .i64 0,.int .i64 0] [(0,(2,(.t 4))),(2,(2,(.t 5))),(4,(2,(.t 6))),(6,(2,(.t 7))),(8,(2,(.t 8))),(10,(2,(.t
 9))),(12,(2,(.t 10))),(14,(2,(.t 11)))]),none⟩,⟨0,some 13,(.build [.int .i64 0,.int .i64 0,.int .i64 0] [(0,(1,(.c (.int .i64 0)))),
 (1,(1,(.c (.int .i64 2)))),(2,(1,(.c (.int .i64 7))))]),none⟩,⟨0,some 14,(.build [.int .i64 0,.int .i64 0,.int .i64 0] [(0,(1,(.c (.int
 .i64 3)))),(1,(1,(.c (.int .i64 4)))),(2,(1,(.c (.int .i64 7))))]),none⟩,⟨0,some 15,(.bslice 3 2 [.int .i64 0,.int .i64 0,.int .i64 0]
 [(0,(3,(.t 13))),(3,(3,(.t 14)))]),none⟩,⟨0,some 16,(.build [.int .i64 0,.nilsl,.nilsl,.int .i64 0,.int .i64 0,.int .i64 0] [(0,(1,
 (.c (.int .i64 8)))),(1,(1,(.t 12))),(2,(1,(.t 15))),(3,(1,(.c (.int .i64 1)))),(4,(1,(.c (.int .i64 192)))),(5,(1,(.c (.int .i64 9))))]),
 none⟩,⟨0,some 1,(.alloc [.int .i64 0,.nilsl,.nilsl,.int .i64 0,.int .i64 0,.int .i64 0]),none⟩,⟨0,none,(.store 6 (.t 1) (.t 16) []),
 none⟩]) (.seq (.reg [(1,true)] false [⟨0,some 18,.load true 6 (.t 1),none⟩,⟨0,some 19,(.callf false (.c (.fn (.func 5) [] [])) [.t 18] []),
 none⟩,⟨0,some 17,.mv (.t 19),none⟩,⟨0,some 20,.ext (.t 17) 0,none⟩,⟨0,some 21,.ext (.t 17) 1,none⟩,⟨0,some 2,.mv (.t 20),
 none⟩,⟨0,some 3,.mv (.t 21),none⟩]) (.seq (.reg [] false [⟨0,some 22,.mv (.t 3),none⟩,⟨0,some 23,.bin .eql (.t 22) (.c (.int .i64 0)),
 none⟩,⟨0,some 24,.mv (.t 23),none⟩,⟨0,some 25,.mv (.t 2),some (24,true)⟩,⟨0,some 26,.len false (.t 25),some (24,true)⟩,⟨0,
 (some 27),.bin .eql (.t 26) (.c (.int .i64 2)),some (24,true)⟩,⟨0,some 28,.pick (.t 24) (.t 27) (.c (.bool false)),none⟩,⟨0,some 29,(.mv
 (.t 28)),none⟩,⟨0,some 30,.mv (.t 2),some (29,true)⟩,⟨0,some 31,.idx 1 (.t 30) (.c (.int .i64 0)),some (29,true)⟩,⟨0,some 32,
 (.load false 1 (.t 31)),some (29,true)⟩,⟨0,some 33,.bin .eql (.t 32) (.c (.int .i64 1)),some (29,true)⟩,⟨0,some 34,.pick (.t 29) (.t
 33) (.c (.bool false)),none⟩,⟨0,some 35,.mv (.t 34),none⟩,⟨0,some 36,.mv (.t 2),some (35,true)⟩,⟨0,some 37,.idx 1 (.t 36) (.c
 (.int .i64 1)),some (35,true)⟩,⟨0,some 38,.load false 1 (.t 37),some (35,true)⟩,⟨0,some 39,.bin .eql (.t 38) (.c (.int .i64 2)),
 (some (35,true))⟩,⟨0,some 40,.pick (.t 35) (.t 39) (.c (.bool false)),none⟩,⟨0,some 0,.mv (.t 40),none⟩]) .ret)))),none⟩
theorem is7:cT prog 7 x7.fn:=⟨fun vs w=>call7 vs w,_,_,func7,rfl,rfl,by kernel_rfl,by kernel_rfl⟩
theorem ok7:gH x7=true:=by kernel_rfl
theorem st7:aT x7 x7.body:=(aB rfl)

def x8:XFn:=⟨28,[(6,none),(7,none)],false,false,
 (.seq (.reg [] false [⟨0,some 3,.box (.t 0),none⟩,⟨0,some 6,.mv (.c .nilsl),none⟩,⟨0,some 7,.mv (.c (.int .i64 0)),none⟩]) (.seq (.reg
 [(3,true),(1,false)] false [⟨0,some 11,.load true 6 (.t 3),none⟩,⟨0,some 12,.mv (.t 1),none⟩,⟨0,some 13,(.callf false (.c (.fn (.func
 19) [] [])) [.t 11,.t 12] []),none⟩,⟨0,some 10,.mv (.t 13),none⟩,⟨0,some 14,.ext (.t 10) 0,none⟩,⟨0,some 15,.ext (.t 10) 1,
 none⟩,⟨0,some 8,.mv (.t 14),none⟩,⟨0,some 9,.mv (.t 15),none⟩]) (.seq (.block 0 (.seq (.reg [] false [⟨0,some 17,.mv (.t 9),none⟩,
 ⟨0,some 18,.bin .neq (.t 17) (.c (.int .i64 0)),none⟩,⟨0,some 16,.mv (.t 18),none⟩]) (.cond (.t 16) (.seq (.reg [] false [⟨0,some 19,(.mv
 (.t 9)),none⟩,⟨0,some 6,.mv (.c .nilsl),none⟩,⟨0,some 7,.mv (.t 19),none⟩]) .ret) (.seq (.reg [(2,false)] false [⟨0,some 21,.mv (.t
 2),none⟩,⟨0,some 22,(.callf false (.c (.fn (.func 20) [] [])) [.c (.int .i64 0),.t 21,.c (.int .i64 100)] []),none⟩,⟨0,some 23,(.not
 (.t 22)),none⟩,⟨0,some 20,.mv (.t 23),none⟩]) (.cond (.t 20) (.seq (.reg [] false [⟨0,some 6,.mv (.c .nilsl),none⟩,⟨0,some 7,.mv (.c
 (.int .i64 2)),none⟩]) .ret) .skip))))) (.seq (.reg [(3,true),(8,false),(2,false)] false [⟨0,some 24,.load true 6 (.t 3),none⟩,⟨0,some 25,
 (.mv (.t 8)),none⟩,⟨0,some 26,.mv (.t 2),none⟩,⟨0,some 27,(.callf false (.c (.fn (.func 21) [] [])) [.t 24,.t 25,.t 26] []),none⟩,
 ⟨0,some 6,.mv (.t 27),none⟩,⟨0,some 7,.mv (.c (.int .i64 0)),none⟩]) .ret)))),none⟩
theorem is8:cT prog 8 x8.fn:=⟨fun vs w=>call8 vs w,_,_,func8,rfl,rfl,by kernel_rfl,by kernel_rfl⟩
theorem ok8:gH x8=true:=by kernel_rfl
theorem st8:aT x8 x8.body:=(aB rfl)

def x9:XFn:=⟨22,[(4,none),(5,none),(6,none)],false,false,
 (.seq (.reg [] false [⟨0,some 4,.mv (.c .nilsl),none⟩,⟨0,some 5,.mv (.c (.int .i64 0)),none⟩,⟨0,some 6,.mv (.c (.int .i64 0)),none⟩])
 (.seq (.seq (.reg [(0,false),(1,false)] false [⟨0,some 8,.mv (.t 0),none⟩,⟨0,some 9,.mv (.t 1),none⟩,⟨0,some 10,(.callf false (.c
 (.fn (.func 22) [] [])) [.t 8,.t 9] []),none⟩,⟨0,some 7,.mv (.t 10),none⟩]) (.seq (.reg [] false [⟨0,some 11,.mv (.t 7),none⟩,⟨0,
 (some 12),.bin .neq (.t 11) (.c (.int .i64 0)),none⟩]) (.cond (.t 12) (.seq (.reg [] false [⟨0,some 13,.mv (.t 7),none⟩,⟨0,some 4,.mv (.c
 .nilsl),none⟩,⟨0,some 5,.mv (.c (.int .i64 0)),none⟩,⟨0,some 6,.mv (.t 13),none⟩]) .ret) .skip))) (.seq (.reg [(0,false),(1,false)]
 false [⟨0,some 15,.mv (.t 0),none⟩,⟨0,some 16,.mv (.t 1),none⟩,⟨0,some 17,(.callf false (.c (.fn (.func 23) [] [])) [.t 15,.t 16]
 []),none⟩,⟨0,some 14,.mv (.t 17),none⟩,⟨0,some 18,.ext (.t 14) 0,none⟩,⟨0,some 19,.ext (.t 14) 1,none⟩,⟨0,some 4,.mv (.t
 18),none⟩,⟨0,some 5,.mv (.t 19),none⟩]) (.seq (.reg [] false [⟨0,some 20,.mv (.t 4),none⟩,⟨0,some 21,.mv (.t 5),none⟩,⟨0,(some
 4),.mv (.t 20),none⟩,⟨0,some 5,.mv (.t 21),none⟩,⟨0,some 6,.mv (.c (.int .i64 0)),none⟩]) .ret)))),none⟩
theorem is9:cT prog 9 x9.fn:=⟨fun vs w=>call9 vs w,_,_,func9,rfl,rfl,by kernel_rfl,by kernel_rfl⟩
theorem ok9:gH x9=true:=by kernel_rfl
theorem st9:aT x9 x9.body:=(aB rfl)

def x10:XFn:=⟨24,[(2,none),(3,none),(4,none)],false,false,
 (.seq (.reg [] false [⟨0,some 1,.box (.t 0),none⟩,⟨0,some 2,.mv (.c .nilpt),none⟩,⟨0,some 3,.mv (.c (.int .i64 0)),none⟩,⟨0,some 4,
 (.mv (.c (.int .i64 0))),none⟩]) (.seq (.reg [(1,true)] false [⟨0,some 8,.load true 6 (.t 1),none⟩,⟨0,some 9,(.callf false (.c (.fn (.func 24)
 [] [])) [.t 8] []),none⟩,⟨0,some 7,.mv (.t 9),none⟩,⟨0,some 10,.ext (.t 7) 0,none⟩,⟨0,some 11,.ext (.t 7) 1,none⟩,⟨0,some 5,
 (.mv (.t 10)),none⟩,⟨0,some 6,.mv (.t 11),none⟩]) (.seq (.seq (.reg [] false [⟨0,some 12,.mv (.t 6),none⟩,⟨0,some 13,(.bin .neq (.t 12)
 (.c (.int .i64 0))),none⟩]) (.cond (.t 13) (.seq (.reg [] false [⟨0,some 14,.mv (.t 6),none⟩,⟨0,some 2,.mv (.c .nilpt),none⟩,⟨0,some 3,
 (.mv (.c (.int .i64 0))),none⟩,⟨0,some 4,.mv (.t 14),none⟩]) .ret) .skip)) (.seq (.seq (.reg [(5,false)] false [⟨0,some 15,.mv (.t 5),
 none⟩,⟨0,some 16,.fld 5 (.t 1),none⟩,⟨0,some 17,.load false 1 (.t 16),none⟩,⟨0,some 18,.cpl (.t 17),none⟩,⟨0,some 19,(.callf
 false (.c (.fn (.func 25) [] [])) [.t 15,.t 18] []),none⟩,⟨0,some 20,.not (.t 19),none⟩]) (.cond (.t 20) (.seq (.reg [] false [⟨0,some 2,
 (.mv (.c .nilpt)),none⟩,⟨0,some 3,.mv (.c (.int .i64 0)),none⟩,⟨0,some 4,.mv (.c (.int .i64 16)),none⟩]) .ret) .skip)) (.seq (.reg [(5,
 false)] false [⟨0,some 21,.mv (.t 5),none⟩,⟨0,some 22,.mv (.t 5),none⟩,⟨0,some 23,(.callf false (.c (.fn (.func 12) [] [])) [.t 22,
 (.c (.int .i64 0))] []),none⟩,⟨0,some 2,.mv (.t 21),none⟩,⟨0,some 3,.mv (.t 23),none⟩,⟨0,some 4,.mv (.c (.int .i64 0)),none⟩])
 .ret))))),none⟩
theorem aQg:cT prog 10 x10.fn:=⟨fun vs w=>call10 vs w,_,_,func10,rfl,rfl,by kernel_rfl,by kernel_rfl⟩
theorem aPg:gH x10=true:=by kernel_rfl
theorem aNQ:aT x10 x10.body:=(aB rfl)

def x11:XFn:=⟨10,[(4,none)],false,false,
 (.seq (.reg [] false [⟨0,some 4,.mv (.c (.bool false)),none⟩]) (.seq (.reg [] false [⟨0,some 5,.mv (.t 0),none⟩,⟨0,some 6,.mv (.t 1),
 none⟩,⟨0,some 7,.bin .shr (.t 5) (.t 6),none⟩,⟨0,some 8,.bin .and (.t 7) (.c (.int .i64 1)),none⟩,⟨0,some 9,.bin .eql (.t 8) (.c (.int
 .i64 1)),none⟩,⟨0,some 4,.mv (.t 9),none⟩]) .ret)),none⟩
theorem aQf:cT prog 11 x11.fn:=⟨fun vs w=>call11 vs w,_,_,func11,rfl,rfl,by kernel_rfl,by kernel_rfl⟩
theorem aPf:gH x11=true:=by kernel_rfl
theorem aNP:aT x11 x11.body:=(aB rfl)

def aDf:XCode :=
 (.loop [1,5,19] (.seq (.reg [] false [⟨0,some 20,.bin .lss (.t 19) (.c (.int .i64 16)),none⟩]) (.seq (.cond (.t 20) .skip (.exit 0)) (.seq (.block 1
 (.seq (.reg [] false [⟨0,some 21,.mv (.t 19),none⟩,⟨0,some 6,.mv (.t 21),none⟩]) (.reg [] false [⟨0,some 22,.mv (.t 6),none⟩,⟨0,
 (some 23),.fld 6 (.t 5),none⟩,⟨0,some 24,.idxa 16 1 (.t 23) (.t 22),none⟩,⟨0,some 25,.load false 1 (.t 24),none⟩,⟨0,some 26,(.mv
 (.t 1)),none⟩,⟨0,some 27,.bin .andNot (.t 25) (.t 26),none⟩,⟨0,some 28,.fld 6 (.t 5),none⟩,⟨0,some 29,.idxa 16 1 (.t 28) (.t 22),
 none⟩,⟨0,none,(.store 1 (.t 29) (.t 27) []),none⟩]))) (.reg [] false [⟨0,some 30,.bin .add (.t 19) (.c (.int .i64 1)),none⟩,⟨0,some 19,(.mv
 (.t 30)),none⟩])))))
def x12:XFn:=⟨36,[(4,none)],false,false,
 (.seq (.reg [] false [⟨0,some 4,.mv (.c (.int .i64 0)),none⟩]) (.seq (.reg [] false [⟨0,some 9,.mv (.t 0),none⟩,⟨0,some 10,.nilck (.t 9),
 none⟩,⟨0,some 11,.load true 22 (.t 10),none⟩,⟨0,some 5,(.alloc [.int .i64 0,.nilsl,.nilsl,.int .i64 0,.int .i64 0,.int .i64 0,
 (.int .i64 0),.int .i64 0,.int .i64 0,.int .i64 0,.int .i64 0,.int .i64 0,.int .i64 0,.int .i64 0,.int .i64 0,.int .i64 0,(.int
 .i64 0),.int .i64 0,.int .i64 0,.int .i64 0,.int .i64 0,.int .i64 0]),none⟩,⟨0,none,(.store 22 (.t 5) (.t 11) []),none⟩]) (.seq (.reg []
 false [⟨0,some 12,.fld 0 (.t 5),none⟩,⟨0,some 13,.fld 3 (.t 12),none⟩,⟨0,some 14,.load false 1 (.t 13),none⟩,⟨0,some 15,.mv (.t
 1),none⟩,⟨0,some 16,.bin .andNot (.t 14) (.t 15),none⟩,⟨0,some 17,.fld 0 (.t 5),none⟩,⟨0,some 18,.fld 3 (.t 17),none⟩,⟨0,none,
 (.store 1 (.t 18) (.t 16) []),none⟩]) (.seq (.seq (.reg [] false [⟨0,some 19,.mv (.c (.int .i64 0)),none⟩]) (.block 0 aDf)) (.seq (.reg [(5,
 false)] false [⟨0,some 32,(.callf false (.c (.fn (.func 15) [] [])) [.t 5] []),none⟩,⟨0,some 31,.mv (.t 32),none⟩,⟨0,some 33,.ext (.t
 31) 0,none⟩,⟨0,some 34,.ext (.t 31) 1,none⟩,⟨0,some 7,.mv (.t 33),none⟩,⟨0,some 8,.mv (.t 34),none⟩]) (.seq (.reg [] false [⟨0,
 (some 35),.mv (.t 8),none⟩,⟨0,some 4,.mv (.t 35),none⟩]) .ret)))))),none⟩
theorem aQe:cT prog 12 x12.fn:=⟨fun vs w=>call12 vs w,_,_,func12,rfl,rfl,by kernel_rfl,by kernel_rfl⟩
theorem aPe:gH x12=true:=by kernel_rfl
theorem aNO:aT x12 x12.body:=(aB rfl)

def x13:XFn:=⟨5,[(2,none)],false,false,
 (.seq (.reg [] false [⟨0,some 2,.mv (.c (.int .i64 0)),none⟩]) (.seq (.reg [] false [⟨0,some 3,.mv (.t 0),none⟩,⟨0,some 4,.bin .shl (.c
 (.int .i64 1)) (.t 3),none⟩,⟨0,some 2,.mv (.t 4),none⟩]) .ret)),none⟩
theorem aQd:cT prog 13 x13.fn:=⟨fun vs w=>call13 vs w,_,_,func13,rfl,rfl,by kernel_rfl,by kernel_rfl⟩
theorem aPd:gH x13=true:=by kernel_rfl
theorem aNN:aT x13 x13.body:=(aB rfl)

def x14:XFn:=⟨6,[(2,none)],false,false,
 (.seq (.reg [] false [⟨0,some 2,.mv (.c .nilsl),none⟩]) (.seq (.reg [(0,false)] false [⟨0,some 3,.mv (.t 0),none⟩,⟨0,some 4,(.callf false
 (.c (.fn (.func 27) [] [])) [.t 3] []),none⟩,⟨0,some 5,(.callf false (.c (.fn (.func 26) [] [])) [.t 4] []),none⟩,⟨0,some 2,.mv (.t 5),
 none⟩]) .ret)),none⟩
theorem aQc:cT prog 14 x14.fn:=⟨fun vs w=>call14 vs w,_,_,func14,rfl,rfl,by kernel_rfl,by kernel_rfl⟩
theorem aPc:gH x14=true:=by kernel_rfl
theorem aNM:aT x14 x14.body:=(aB rfl)

def tM:XCode :=
 (.loop [0,4,5,6] (.seq (.seq (.reg [] false [⟨0,some 12,.mv (.t 5),none⟩,⟨0,some 13,.mv (.t 0),none⟩,⟨0,some 14,.nilck (.t 13),
 none⟩,⟨0,some 15,.fld 0 (.t 14),none⟩,⟨0,some 16,.fld 0 (.t 15),none⟩,⟨0,some 17,.load false 1 (.t 16),none⟩,⟨0,some 18,(.bin
 .leq (.t 12) (.t 17)),none⟩,⟨0,some 19,.mv (.t 18),none⟩,⟨0,some 20,.mv (.t 6),some (19,true)⟩,⟨0,some 21,(.callf false (.t 20) []
 []),some (19,true)⟩,⟨0,some 22,.pick (.t 19) (.t 21) (.c (.bool false)),none⟩]) (.cond (.t 22) .skip (.exit 0))) (.block 1 (.reg [] false [⟨0,
 (some 23),.mv (.t 5),none⟩,⟨0,some 24,.bin .add (.t 23) (.c (.int .i64 1)),none⟩,⟨0,some 5,.mv (.t 24),none⟩]))))
def x15:XFn:=⟨27,[(2,none),(3,none)],false,false,
 (.seq (.reg [] false [⟨0,some 2,.mv (.c .nilpt),none⟩,⟨0,some 3,.mv (.c (.int .i64 0)),none⟩]) (.seq (.reg [] false [⟨0,some 7,.mv (.t
 0),none⟩,⟨0,some 8,(.build [.nilpt,.int .i64 0,.int .i64 0,.int .i64 0,.int .i64 0,.int .i64 0,.int .i64 0,.int .i64 0,(.int
 .i64 0),.int .i64 0,.int .i64 0,.int .i64 0,.int .i64 0,.int .i64 0,.int .i64 0,.int .i64 0,.int .i64 0,.int .i64 0,(.int .i64
 0),.int .i64 0,.int .i64 0,.int .i64 0,.int .i64 0,.int .i64 0,.int .i64 0,.int .i64 0,.int .i64 0,.int .i64 0,.int .i64 0,
 (.int .i64 0),.int .i64 0,.int .i64 0,.int .i64 0,.int .i64 0,.int .i64 0,.int .i64 0,.int .i64 0,.int .i64 0,.int .i64 0,(.int
 .i64 0),.int .i64 0,.int .i64 0,.int .i64 0,.int .i64 0,.int .i64 0,.int .i64 0,.int .i64 0,.int .i64 0,.int .i64 0,(.int .i64
 0),.int .i64 0,.int .i64 0,.int .i64 0,.int .i64 0,.int .i64 0,.int .i64 0,.int .i64 0,.int .i64 0,.int .i64 0,.int .i64 0,
 (.int .i64 0),.int .i64 0,.int .i64 0,.int .i64 0,.int .i64 0,.int .i64 0,.int .i64 0,.int .i64 0,.int .i64 0,.int .i64 0,(.int
 .i64 0),.int .i64 0,.int .i64 0,.int .i64 0,.int .i64 0,.int .i64 0,.int .i64 0,.int .i64 0,.int .i64 0,.int .i64 0,(.int .i64
 0),.int .i64 0,.int .i64 0,.int .i64 0,.int .i64 0,.int .i64 0,.int .i64 0,.int .i64 0,.int .i64 0,.int .i64 0,.int .i64 0,
 (.int .i64 0),.int .i64 0,.int .i64 0,.int .i64 0,.int .i64 0,.int .i64 0,.int .i64 0,.int .i64 0,.int .i64 0,.int .i64 0,(.int
 .i64 0),.int .i64 0,.int .i64 0,.int .i64 0,.int .i64 0,.int .i64 0,.int .i64 0,.int .i64 0,.int .i64 0,.int .i64 0,(.int .i64
 0),.int .i64 0,.int .i64 0,.int .i64 0,.int .i64 0,.int .i64 0,.int .i64 0,.int .i64 0,.int .i64 0,.int .i64 0,.int .i64 0,
 (.int .i64 0),.int .i64 0,.int .i64 0,.int .i64 0,.int .i64 0,.int .i64 0,.int .i64 0,.int .i64 0,.int .i64 0,.int .i64 0,(.int
 .i64 0),.int .i64 0,.int .i64 0,.int .i64 0,.int .i64 0,.int .i64 0,.int .i64 0,.int .i64 0,.int .i64 0,.int .i64 0,(.int .i64
 0),.int .i64 0,.int .i64 0,.int .i64 0,.int .i64 0,.int .i64 0,.int .i64 0,.int .i64 0,.int .i64 0,.int .i64 0,.int .i64 0,
 (.int .i64 0),.int .i64 0,.int .i64 0,.int .i64 0,.int .i64 0,.int .i64 0,.int .i64 0,.int .i64 0,.int .i64 0,.int .i64 0,(.int
 .i64 0),.int .i64 0,.int .i64 0,.int .i64 0,.int .i64 0,.int .i64 0,.int .i64 0,.int .i64 0,.int .i64 0,.int .i64 0,(.int .i64
 0),.int .i64 0,.int .i64 0,.int .i64 0,.int .i64 0,.int .i64 0,.int .i64 0,.int .i64 0,.int .i64 0,.int .i64 0,.int .i64 0,
 (.int .i64 0),.int .i64 0,.int .i64 0,.int .i64 0,.int .i64 0,.int .i64 0,.int .i64 0,.int .i64 0,.int .i64 0,.int .i64 0,(.int
 .i64 0),.int .i64 0,.int .i64 0,.int .i64 0,.int .i64 0,.int .i64 0,.int .i64 0,.int .i64 0,.int .i64 0,.int .i64 0,(.int .i64
 0),.int .i64 0,.int .i64 0,.int .i64 0,.int .i64 0,.int .i64 0,.int .i64 0,.int .i64 0,.int .i64 0,.int .i64 0,.int .i64 0,
 (.int .i64 0),.int .i64 0,.int .i64 0,.int .i64 0,.int .i64 0,.int .i64 0,.int .i64 0,.int .i64 0,.int .i64 0,.int .i64 0,(.int
 .i64 0),.int .i64 0,.int .i64 0,.int .i64 0,.int .i64 0,.int .i64 0,.int .i64 0,.int .i64 0,.int .i64 0,.int .i64 0,(.int .i64
 0),.int .i64 0,.int .i64 0,.int .i64 0,.int .i64 0,.int .i64 0,.int .i64 0,.int .i64 0,.int .i64 0,.int .i64 0,.int .i64 0,
 (.int .i64 0),.int .i64 0,.int .i64 0,.int .i64 0,.int .i64 0,.int .i64 0,.int .i64 0,.int .i64 0,.int .i64 0,.int .i64 0,(.int
 .i64 0),.int .i64 0,.int .i64 0,.int .i64 0,.int .i64 0,.int .i64 0,.int .i64 0,.int .i64 0,.int .i64 0,.int .i64 0,(.int .i64
 0),.int .i64 0,.int .i64 0,.int .i64 0,.int .i64 0,.int .i64 0,.int .i64 0,.int .i64 0,.int .i64 0,.int .i64 0,.int .i64 0,
 (.int .i64 0),.int .i64 0,.int .i64 0,.int .i64 0,.int .i64 0,.int .i64 0,.int .i64 0,.int .i64 0,.int .i64 0,.int .i64 0,(.int
 .i64 0),.int .i64 0,.int .i64 0,.int .i64 0,.int .i64 0,.int .i64 0,.int .i64 0,.int .i64 0,.int .i64 0,.int .i64 0,(.int .i64
 0),.int .i64 0,.int .i64 0,.int .i64 0,.int .i64 0,.int .i64 0,.int .i64 0,.int .i64 0,.int .i64 0,.int .i64 0,.int .i64 0,
 (.int .i64 0),.int .i64 0,.int .i64 0,.int .i64 0,.int .i64 0,.int .i64 0,.int .i64 0,.int .i64 0,.int .i64 0,.int .i64 0,(.int
 .i64 0),.int .i64 0,.int .i64 0,.int .i64 0,.int .i64 0,.int .i64 0,.int .i64 0,.int .i64 0,.int .i64 0,.int .i64 0,(.int .i64
 0),.int .i64 0,.int .i64 0,.int .i64 0,.int .i64 0,.int .i64 0,.int .i64 0,.int .i64 0,.int .i64 0,.int .i64 0,.int .i64 0,
 (.int .i64 0),.int .i64 0,.int .i64 0,.int .i64 0,.int .i64 0,.int .i64 0,.int .i64 0,.int .i64 0,.int .i64 0,.int .i64 0,(.int
 .i64 0),.int .i64 0,.int .i64 0,.int .i64 0,.int .i64 0,.int .i64 0,.int .i64 0,.int .i64 0,.int .i64 0,.int .i64 0,(.int .i64
 0),.int .i64 0,.int .i64 0,.int .i64 0,.int .i64 0,.int .i64 0,.int .i64 0,.int .i64 0,.int .i64 0,.int .i64 0,.int .i64 0,
 (.int .i64 0),.int .i64 0,.int .i64 0,.int .i64 0,.int .i64 0,.int .i64 0,.int .i64 0,.int .i64 0,.int .i64 0,.int .i64 0,(.int
 .i64 0),.int .i64 0,.int .i64 0,.int .i64 0,.int .i64 0,.int .i64 0,.int .i64 0,.int .i64 0,.int .i64 0,.int .i64 0,(.int .i64
 0),.int .i64 0,.int .i64 0,.int .i64 0,.int .i64 0,.int .i64 0,.int .i64 0,.int .i64 0,.int .i64 0,.int .i64 0,.int .i64 0,
 (.int .i64 0),.int .i64 0,.int .i64 0,.int .i64 0,.int .i64 0,.int .i64 0,.int .i64 0,.int .i64 0,.int .i64 0,.int .i64 0,(.int
 .i64 0),.int .i64 0,.int .i64 0,.int .i64 0,.int .i64 0,.int .i64 0,.int .i64 0,.int .i64 0,.int .i64 0,.int .i64 0,(.int .i64
 0),.int .i64 0,.int .i64 0,.int .i64 0,.int .i64 0,.int .i64 0,.int .i64 0,.int .i64 0,.int .i64 0,.int .i64 0,.int .i64 0,
 (.int .i64 0),.int .i64 0,.int .i64 0,.int .i64 0,.int .i64 0,.int .i64 0,.int .i64 0,.int .i64 0,.int .i64 0,.int .i64 0,(.int
 .i64 0),.int .i64 0,.int .i64 0,.int .i64 0,.int .i64 0,.int .i64 0,.int .i64 0,.int .i64 0,.int .i64 0,.int .i64 0,(.int .i64
 0),.int .i64 0,.int .i64 0,.int .i64 0,.int .i64 0,.int .i64 0,.int .i64 0,.int .i64 0,.int .i64 0,.int .i64 0,.int .i64 0,
 (.int .i64 0),.int .i64 0,.int .i64 0,.int .i64 0,.int .i64 0,.int .i64 0,.int .i64 0,.int .i64 0,.int .i64 0,.int .i64 0,(.int
 .i64 0),.int .i64 0,.int .i64 0,.int .i64 0,.int .i64 0,.int .i64 0,.int .i64 0,.int .i64 0,.int .i64 0,.int .i64 0,(.int .i64
 0),.int .i64 0,.int .i64 0,.int .i64 0,.int .i64 0,.int .i64 0,.int .i64 0,.int .i64 0,.int .i64 0,.int .i64 0,.int .i64 0,
 (.int .i64 0),.int .i64 0,.int .i64 0,.int .i64 0,.int .i64 0,.int .i64 0,.int .i64 0,.int .i64 0,.int .i64 0,.int .i64 0,(.int
 .i64 0),.int .i64 0,.int .i64 0,.int .i64 0,.int .i64 0,.int .i64 0,.int .i64 0,.int .i64 0,.int .i64 0,.int .i64 0,(.int .i64
 0),.int .i64 0,.int .i64 0,.int .i64 0,.int .i64 0,.int .i64 0,.int .i64 0,.int .i64 0,.int .i64 0,.int .i64 0,.int .i64 0,
 (.int .i64 0),.int .i64 0,.int .i64 0,.int .i64 0,.int .i64 0,.int .i64 0,.int .i64 0,.int .i64 0,.int .i64 0,.int .i64 0,(.int
 .i64 0),.int .i64 0,.int .i64 0,.int .i64 0,.int .i64 0,.int .i64 0,.int .i64 0,.int .i64 0,.int .i64 0,.int .i64 0,(.int .i64
 0),.int .i64 0,.int .i64 0,.int .i64 0,.int .i64 0,.int .i64 0,.int .i64 0,.int .i64 0,.int .i64 0,.int .i64 0,.int .i64 0,
 (.int .i64 0),.int .i64 0,.int .i64 0,.int .i64 0,.int .i64 0,.int .i64 0,.int .i64 0,.int .i64 0,.int .i64 0,.int .i64 0,(.int
 .i64 0),.int .i64 0,.int .i64 0,.int .i64 0,.int .i64 0,.int .i64 0,.int .i64 0,.int .i64 0,.int .i64 0,.int .i64 0,(.int .i64
 0),.int .i64 0,.int .i64 0,.int .i64 0,.int .i64 0,.int .i64 0,.int .i64 0,.int .i64 0,.int .i64 0,.int .i64 0,.int .i64 0,
 (.int .i64 0),.int .i64 0,.int .i64 0,.int .i64 0,.int .i64 0,.int .i64 0,.int .i64 0,.int .i64 0,.int .i64 0,.int .i64 0,(.int
 .i64 0),.int .i64 0,.int .i64 0,.int .i64 0,.int .i64 0,.int .i64 0,.int .i64 0,.int .i64 0,.int .i64 0,.int .i64 0,(.int .i64
 0),.int .i64 0,.int .i64 0,.int .i64 0,.int .i64 0,.int .i64 0,.int .i64 0,.int .i64 0,.int .i64 0,.int .i64 0,.int .i64 0,
 (.int .i64 0),.int .i64 0,.int .i64 0,.int .i64 0,.int .i64 0,.int .i64 0,.int .i64 0,.int .i64 0,.int .i64 0,.int .i64 0,(.int
 .i64 0),.int .i64 0,.int .i64 0,.int .i64 0,.int .i64 0,.int .i64 0,.int .i64 0,.int .i64 0,.int .i64 0,.int .i64 0,(.int .i64
 0),.int .i64 0,.int .i64 0,.int .i64 0,.int .i64 0,.int .i64 0,.int .i64 0,.int .i64 0,.int .i64 0,.int .i64 0,.int .i64 0,
 (.int .i64 0),.int .i64 0,.int .i64 0,.int .i64 0,.int .i64 0,.int .i64 0,.int .i64 0,.int .i64 0,.int .i64 0,.int .i64 0,(.int
 .i64 0),.int .i64 0,.int .i64 0,.int .i64 0,.int .i64 0,.int .i64 0,.int .i64 0,.int .i64 0,.int .i64 0,.int .i64 0,(.int .i64
 0),.int .i64 0,.int .i64 0,.int .i64 0,.int .i64 0,.int .i64 0,.int .i64 0,.int .i64 0,.int .i64 0,.int .i64 0,.int .i64 0,
 (.int .i64 0),.int .i64 0,.int .i64 0,.int .i64 0,.int .i64 0,.int .i64 0,.int .i64 0,.int .i64 0,.int .i64 0,.int .i64 0,(.int
 .i64 0),.int .i64 0,.int .i64 0,.int .i64 0,.int .i64 0,.int .i64 0,.int .i64 0,.int .i64 0,.int .i64 0,.int .i64 0,(.int .i64
 0),.int .i64 0,.int .i64 0,.int .i64 0,.int .i64 0,.int .i64 0,.int .i64 0,.int .i64 0,.int .i64 0,.int .i64 0,.int .i64 0,
 (.int .i64 0),.int .i64 0,.int .i64 0,.int .i64 0,.int .i64 0,.int .i64 0,.int .i64 0,.int .i64 0,.int .i64 0,.int .i64 0,(.int
 .i64 0),.int .i64 0,.int .i64 0,.int .i64 0,.int .i64 0,.int .i64 0,.int .i64 0,.int .i64 0,.int .i64 0,.int .i64 0,(.int .i64
 0),.int .i64 0,.int .i64 0,.int .i64 0,.int .i64 0,.int .i64 0,.int .i64 0,.int .i64 0,.int .i64 0,.int .i64 0,.int .i64 0,
 (.int .i64 0),.int .i64 0,.int .i64 0,.int .i64 0,.int .i64 0,.int .i64 0,.int .i64 0,.int .i64 0,.int .i64 0,.int .i64 0,(.int
 .i64 0),.int .i64 0,.int .i64 0,.int .i64 0,.int .i64 0,.int .i64 0,.int .i64 0,.int .i64 0,.int .i64 0,.int .i64 0,(.int .i64
 0),.int .i64 0,.int .i64 0,.int .i64 0,.int .i64 0,.int .i64 0,.int .i64 0,.int .i64 0,.int .i64 0,.int .i64 0,.int .i64 0,
 (.int .i64 0),.int .i64 0,.int .i64 0,.int .i64 0,.int .i64 0,.int .i64 0,.int .i64 0,.int .i64 0,.int .i64 0,.int .i64 0,(.int
 .i64 0),.int .i64 0,.int .i64 0,.int .i64 0,.int .i64 0,.int .i64 0,.int .i64 0,.int .i64 0,.int .i64 0,.int .i64 0,(.int .i64
 0),.int .i64 0,.int .i64 0,.int .i64 0,.int .i64 0,.int .i64 0,.int .i64 0,.int .i64 0,.int .i64 0,.int .i64 0,.int .i64 0,
 (.int .i64 0),.int .i64 0,.int .i64 0,.int .i64 0,.int .i64 0,.int .i64 0,.int .i64 0,.int .i64 0,.int .i64 0,.int .i64 0,(.int
 .i64 0),.int .i64 0,.int .i64 0,.int .i64 0,.int .i64 0,.int .i64 0,.int .i64 0,.int .i64 0,.int .i64 0,.int .i64 0,(.int .i64
 0),.int .i64 0,.int .i64 0,.int .i64 0,.int .i64 0,.int .i64 0,.int .i64 0,.int .i64 0,.int .i64 0,.int .i64 0,.int .i64 0,
 (.int .i64 0),.int .i64 0,.int .i64 0,.int .i64 0,.int .i64 0,.int .i64 0,.int .i64 0,.int .i64 0,.int .i64 0,.int .i64 0,(.int
 .i64 0),.int .i64 0,.int .i64 0,.int .i64 0,.int .i64 0,.int .i64 0,.int .i64 0,.int .i64 0,.int .i64 0,.int .i64 0,(.int .i64
 0),.int .i64 0,.int .i64 0,.int .i64 0,.int .i64 0,.int .i64 0,.int .i64 0,.int .i64 0,.int .i64 0,.int .i64 0,.int .i64 0,
 (.int .i64 0),.int .i64 0,.int .i64 0,.int .i64 0,.int .i64 0,.int .i64 0,.int .i64 0,.int .i64 0,.int .i64 0,.int .i64 0,(.int
 .i64 0),.int .i64 0,.int .i64 0,.int .i64 0,.int .i64 0,.int .i64 0,.int .i64 0,.int .i64 0,.int .i64 0,.int .i64 0,(.int .i64
 0),.int .i64 0,.int .i64 0,.int .i64 0,.int .i64 0,.int .i64 0,.int .i64 0,.int .i64 0,.int .i64 0,.int .i64 0,.int .i64 0,
 (.int .i64 0),.int .i64 0,.int .i64 0,.int .i64 0,.int .i64 0,.int .i64 0,.int .i64 0,.int .i64 0,.int .i64 0,.int .i64 0,(.int
 .i64 0),.int .i64 0,.int .i64 0,.int .i64 0,.int .i64 0,.int .i64 0,.int .i64 0,.int .i64 0,.int .i64 0,.int .i64 0,(.int .i64
 0),.int .i64 0,.int .i64 0,.int .i64 0,.int .i64 0,.int .i64 0,.int .i64 0,.int .i64 0,.int .i64 0,.int .i64 0,.int .i64 0,
 (.int .i64 0),.int .i64 0,.int .i64 0,.int .i64 0,.int .i64 0,.int .i64 0,.int .i64 0,.int .i64 0,.int .i64 0,.int .i64 0,(.int
 .i64 0),.int .i64 0,.int .i64 0,.int .i64 0,.int .i64 0,.int .i64 0,.int .i64 0,.int .i64 0,.int .i64 0,.int .i64 0,(.int .i64
 0),.int .i64 0,.int .i64 0,.int .i64 0,.int .i64 0,.int .i64 0,.int .i64 0,.int .i64 0,.int .i64 0,.int .i64 0,.int .i64 0,
 (.int .i64 0),.int .i64 0,.int .i64 0,.int .i64 0,.int .i64 0,.int .i64 0,.int .i64 0,.int .i64 0,.int .i64 0,.int .i64 0,(.int
 .i64 0),.int .i64 0,.int .i64 0,.int .i64 0,.int .i64 0,.int .i64 0,.int .i64 0,.int .i64 0,.int .i64 0,.int .i64 0,(.int .i64
 0),.int .i64 0,.int .i64 0,.int .i64 0,.int .i64 0,.int .i64 0,.int .i64 0,.int .i64 0,.int .i64 0,.int .i64 0,.int .i64 0,
 (.int .i64 0),.int .i64 0,.int .i64 0,.int .i64 0,.int .i64 0,.int .i64 0,.int .i64 0,.int .i64 0,.int .i64 0,.int .i64 0,(.int
 .i64 0),.int .i64 0,.int .i64 0,.int .i64 0,.int .i64 0,.int .i64 0,.int .i64 0,.int .i64 0,.int .i64 0,.int .i64 0,(.int .i64
 0),.int .i64 0,.int .i64 0,.int .i64 0,.int .i64 0,.int .i64 0,.int .i64 0,.int .i64 0,.int .i64 0,.int .i64 0,.int .i64 0,
 (.int .i64 0),.int .i64 0,.int .i64 0,.int .i64 0,.int .i64 0,.int .i64 0,.int .i64 0,.int .i64 0,.int .i64 0,.int .i64 0,(.int
 .i64 0),.int .i64 0,.int .i64 0,.int .i64 0,.int .i64 0,.int .i64 0,.int .i64 0,.int .i64 0,.int .i64 0,.int .i64 0,(.int .i64
 0),.int .i64 0,.int .i64 0,.int .i64 0,.int .i64 0,.int .i64 0,.int .i64 0,.int .i64 0,.int .i64 0,.int .i64 0,.int .i64 0,
 (.int .i64 0),.int .i64 0,.int .i64 0,.int .i64 0,.int .i64 0,.int .i64 0,.int .i64 0,.int .i64 0,.int .i64 0,.int .i64 0,(.int
 .i64 0),.int .i64 0,.int .i64 0,.int .i64 0,.int .i64 0,.int .i64 0,.int .i64 0,.int .i64 0,.int .i64 0,.int .i64 0,(.int .i64
 0),.int .i64 0,.int .i64 0,.int .i64 0,.int .i64 0,.int .i64 0,.int .i64 0,.int .i64 0,.int .i64 0,.int .i64 0,.int .i64 0,
 (.int .i64 0),.int .i64 0,.int .i64 0,.int .i64 0,.int .i64 0,.int .i64 0,.int .i64 0,.int .i64 0,.int .i64 0,.int .i64 0,(.int
 .i64 0),.int .i64 0,.int .i64 0,.int .i64 0,.int .i64 0,.int .i64 0,.int .i64 0,.int .i64 0,.int .i64 0,.int .i64 0,(.int .i64
 0),.int .i64 0,.int .i64 0,.int .i64 0,.int .i64 0,.int .i64 0,.int .i64 0,.int .i64 0,.int .i64 0,.int .i64 0,.int .i64 0,
 (.int .i64 0),.int .i64 0,.int .i64 0,.int .i64 0,.int .i64 0,.int .i64 0,.int .i64 0,.int .i64 0,.int .i64 0,.int .i64 0,(.int
 .i64 0),.int .i64 0,.int .i64 0,.int .i64 0,.int .i64 0,.int .i64 0,.int .i64 0,.int .i64 0,.int .i64 0,.int .i64 0,(.int .i64
 0),.int .i64 0,.int .i64 0,.int .i64 0,.int .i64 0,.int .i64 0,.int .i64 0,.int .i64 0,.int .i64 0,.int .i64 0,.int .i64 0,
 (.int .i64 0),.int .i64 0,.int .i64 0,.int .i64 0,.int .i64 0,.int .i64 0,.int .i64 0,.int .i64 0,.int .i64 0,.int .i64 0,(.int
 .i64 0),.int .i64 0] [(0,(1,(.t 7)))]),none⟩,⟨0,some 9,.box (.t 8),none⟩,⟨0,some 4,.mv (.t 9),none⟩]) (.seq (.reg [] false [⟨0,(some
 5),.mv (.c (.int .i64 0)),none⟩]) (.seq (.reg [] false [⟨0,some 10,.mv (.t 4),none⟩,⟨0,some 11,(.mkf (.func 28) [.t 10] []),none⟩,⟨0,
 (some 6),.mv (.t 11),none⟩]) (.seq (.block 0 tM) (.seq (.reg [] false [⟨0,some 25,.mv (.t 4),none⟩,⟨0,some 26,.mv (.t 5),none⟩,⟨0,
 (some 2),.mv (.t 25),none⟩,⟨0,some 3,.mv (.t 26),none⟩]) .ret)))))),none⟩
theorem aQb:cT prog 15 x15.fn:=⟨fun vs w=>call15 vs w,_,_,func15,rfl,rfl,by kernel_rfl,by kernel_rfl⟩
theorem aPb:gH x15=true:=by kernel_rfl
theorem aNL:aT x15 x15.body:=(aB rfl)

def qJ:XCode :=
 (.loop [0,1,7,8] (.seq (.reg [] false [⟨0,some 9,.bin .lss (.t 8) (.t 7),none⟩]) (.seq (.cond (.t 9) .skip (.exit 0)) (.seq (.block 1 (.seq (.reg []
 false [⟨0,some 10,.mv (.t 8),none⟩,⟨0,some 5,.mv (.t 10),none⟩]) (.seq (.reg [] false [⟨0,some 11,.mv (.t 1),none⟩,⟨0,some 12,
 (.mv (.t 0)),none⟩,⟨0,some 13,.mv (.t 5),none⟩,⟨0,some 14,.idx 1 (.t 12) (.t 13),none⟩,⟨0,some 15,.load false 1 (.t 14),none⟩,⟨0,
 (some 16),(.callf false (.t 11) [.t 15] []),none⟩]) (.cond (.t 16) (.seq (.reg [] false [⟨0,some 17,.mv (.t 5),none⟩,⟨0,some 4,.mv (.t
 17),none⟩]) .ret) .skip)))) (.reg [] false [⟨0,some 18,.bin .add (.t 8) (.c (.int .i64 1)),none⟩,⟨0,some 8,.mv (.t 18),none⟩])))))
def x16:XFn:=⟨19,[(4,none)],false,false,
 (.seq (.reg [] false [⟨0,some 4,.mv (.c (.int .i64 0)),none⟩]) (.seq (.seq (.reg [] false [⟨0,some 6,.mv (.t 0),none⟩,⟨0,some 7,(.len false
 (.t 6)),none⟩,⟨0,some 8,.mv (.c (.int .i64 0)),none⟩]) (.block 0 qJ)) (.seq (.reg [] false [⟨0,some 4,.mv (.c (.int .i64 (-1))),none⟩])
 .ret))),none⟩
theorem aQa:cT prog 16 x16.fn:=⟨fun vs w=>call16 vs w,_,_,func16,rfl,rfl,by kernel_rfl,by kernel_rfl⟩
theorem aPa:gH x16=true:=by kernel_rfl
theorem aNK:aT x16 x16.body:=(aB rfl)

def x17:XFn:=⟨5,[(2,none)],false,false,
 (.seq (.reg [] false [⟨0,some 2,.mv (.c (.bool false)),none⟩]) (.seq (.reg [] false [⟨0,some 3,.mv (.t 0),none⟩,⟨0,some 4,(.bin .gtr (.t 3)
 (.c (.int .i64 0))),none⟩,⟨0,some 2,.mv (.t 4),none⟩]) .ret)),none⟩
theorem aPZ:cT prog 17 x17.fn:=⟨fun vs w=>call17 vs w,_,_,func17,rfl,rfl,by kernel_rfl,by kernel_rfl⟩
theorem aOZ:gH x17=true:=by kernel_rfl
theorem aNJ:aT x17 x17.body:=(aB rfl)

def mW:XCode :=
 (.loop [0,1,7,8] (.seq (.reg [] false [⟨0,some 9,.bin .lss (.t 8) (.t 7),none⟩]) (.seq (.cond (.t 9) .skip (.exit 0)) (.seq (.block 1 (.seq (.reg []
 false [⟨0,some 10,.mv (.t 8),none⟩,⟨0,some 5,.mv (.t 10),none⟩]) (.seq (.reg [] false [⟨0,some 11,.mv (.t 1),none⟩,⟨0,some 12,
 (.mv (.t 0)),none⟩,⟨0,some 13,.mv (.t 5),none⟩,⟨0,some 14,.idx 1 (.t 12) (.t 13),none⟩,⟨0,some 15,.load false 1 (.t 14),none⟩,⟨0,
 (some 16),.bin .eql (.t 11) (.t 15),none⟩]) (.cond (.t 16) (.seq (.reg [] false [⟨0,some 17,.mv (.t 5),none⟩,⟨0,some 4,.mv (.t 17),
 none⟩]) .ret) .skip)))) (.reg [] false [⟨0,some 18,.bin .add (.t 8) (.c (.int .i64 1)),none⟩,⟨0,some 8,.mv (.t 18),none⟩])))))
def x18:XFn:=⟨19,[(4,none)],false,false,
 (.seq (.reg [] false [⟨0,some 4,.mv (.c (.int .i64 0)),none⟩]) (.seq (.seq (.reg [] false [⟨0,some 6,.mv (.t 0),none⟩,⟨0,some 7,(.len false
 (.t 6)),none⟩,⟨0,some 8,.mv (.c (.int .i64 0)),none⟩]) (.block 0 mW)) (.seq (.reg [] false [⟨0,some 4,.mv (.c (.int .i64 (-1))),none⟩])
 .ret))),none⟩
theorem aPY:cT prog 18 x18.fn:=⟨fun vs w=>call18 vs w,_,_,func18,rfl,rfl,by kernel_rfl,by kernel_rfl⟩
theorem aOY:gH x18=true:=by kernel_rfl
theorem aNI:aT x18 x18.body:=(aB rfl)

def mO:XCode :=
 (.loop [2,7,8,16,17,18] (.seq (.reg [] false [⟨0,some 19,.bin .lss (.t 18) (.t 17),none⟩]) (.seq (.cond (.t 19) .skip (.exit 0)) (.seq (.block 1
 (.seq (.reg [] false [⟨0,some 20,.idx 1 (.t 16) (.t 18),none⟩,⟨0,some 21,.load false 1 (.t 20),none⟩,⟨0,some 10,.mv (.t 21),none⟩])
 (.seq (.block 2 (.seq (.reg [] false [⟨0,some 23,.mv (.t 10),none⟩,⟨0,some 24,.fld 0 (.t 2),none⟩,⟨0,some 25,.load false 1 (.t 24),
 none⟩,⟨0,some 26,.bin .sub (.t 25) (.c (.int .i64 1)),none⟩,⟨0,some 27,(.callf false (.c (.fn (.func 20) [] [])) [.c (.int .i64 0),.t 23,
 (.t 26)] []),none⟩,⟨0,some 28,.not (.t 27),none⟩,⟨0,some 22,.mv (.t 28),none⟩]) (.cond (.t 22) (.seq (.reg [] false [⟨0,some 4,.mv (.c
 (.int .i64 0)),none⟩,⟨0,some 5,.mv (.c (.int .i64 5)),none⟩]) .ret) (.seq (.reg [] false [⟨0,some 30,.mv (.t 10),none⟩,⟨0,some 31,(.mv
 (.t 8)),none⟩,⟨0,some 32,.bin .leq (.t 30) (.t 31),none⟩,⟨0,some 29,.mv (.t 32),none⟩]) (.cond (.t 29) (.seq (.reg [] false [⟨0,some 4,
 (.mv (.c (.int .i64 0))),none⟩,⟨0,some 5,.mv (.c (.int .i64 7)),none⟩]) .ret) (.seq (.reg [(2,true)] false [⟨0,some 34,.fld 5 (.t 2),none⟩,
 ⟨0,some 35,.load false 1 (.t 34),none⟩,⟨0,some 36,.mv (.t 10),none⟩,⟨0,some 37,(.callf false (.c (.fn (.func 11) [] [])) [.t 35,(.t
 36)] []),none⟩,⟨0,some 33,.mv (.t 37),none⟩]) (.cond (.t 33) (.seq (.reg [] false [⟨0,some 4,.mv (.c (.int .i64 0)),none⟩,⟨0,some 5,
 (.mv (.c (.int .i64 23))),none⟩]) .ret) .skip))))))) (.seq (.reg [] false [⟨0,some 38,.mv (.t 10),none⟩,⟨0,some 8,.mv (.t 38),none⟩]) (.reg
 [] false [⟨0,some 39,.mv (.t 7),none⟩,⟨0,some 40,.mv (.t 10),none⟩,⟨0,some 41,(.callf false (.c (.fn (.func 13) [] [])) [.t 40] []),
 none⟩,⟨0,some 42,.bin .or (.t 39) (.t 41),none⟩,⟨0,some 7,.mv (.t 42),none⟩]))))) (.reg [] false [⟨0,some 43,.bin .add (.t 18) (.c
 (.int .i64 1)),none⟩,⟨0,some 18,.mv (.t 43),none⟩])))))
def x19:XFn:=⟨45,[(4,none),(5,none)],false,false,
 (.seq (.reg [] false [⟨0,some 2,.box (.t 0),none⟩,⟨0,some 4,.mv (.c (.int .i64 0)),none⟩,⟨0,some 5,.mv (.c (.int .i64 0)),none⟩]) (.seq
 (.seq (.reg [(2,true)] false [⟨0,some 11,.load true 6 (.t 2),none⟩,⟨0,some 12,(.callf false (.c (.fn (.func 29) [] [])) [.t 11] []),none⟩,
 ⟨0,some 6,.mv (.t 12),none⟩]) (.seq (.reg [] false [⟨0,some 13,.mv (.t 6),none⟩,⟨0,some 14,.bin .neq (.t 13) (.c (.int .i64 0)),
 none⟩]) (.cond (.t 14) (.seq (.reg [] false [⟨0,some 15,.mv (.t 6),none⟩,⟨0,some 4,.mv (.c (.int .i64 0)),none⟩,⟨0,some 5,.mv (.t 15),
 none⟩]) .ret) .skip))) (.seq (.reg [] false [⟨0,some 7,.mv (.c (.int .i64 0)),none⟩]) (.seq (.reg [] false [⟨0,some 8,.mv (.c (.int .i64
 (-1))),none⟩]) (.seq (.seq (.reg [] false [⟨0,some 16,.mv (.t 1),none⟩,⟨0,some 17,.len false (.t 16),none⟩,⟨0,some 18,.mv (.c (.int
 .i64 0)),none⟩]) (.block 0 mO)) (.seq (.reg [] false [⟨0,some 44,.mv (.t 7),none⟩,⟨0,some 4,.mv (.t 44),none⟩,⟨0,some 5,.mv (.c
 (.int .i64 0)),none⟩]) .ret)))))),none⟩
theorem aPX:cT prog 19 x19.fn:=⟨fun vs w=>call19 vs w,_,_,func19,rfl,rfl,by kernel_rfl,by kernel_rfl⟩
theorem aOX:gH x19=true:=by kernel_rfl
theorem aNH:aT x19 x19.body:=(aB rfl)

def x20:XFn:=⟨15,[(6,none)],false,false,
 (.seq (.reg [] false [⟨0,some 6,.mv (.c (.bool false)),none⟩]) (.seq (.reg [] false [⟨0,some 7,.mv (.t 0),none⟩,⟨0,some 8,.mv (.t 1),
 none⟩,⟨0,some 9,.bin .leq (.t 7) (.t 8),none⟩,⟨0,some 10,.mv (.t 9),none⟩,⟨0,some 11,.mv (.t 1),some (10,true)⟩,⟨0,some 12,
 (.mv (.t 2)),some (10,true)⟩,⟨0,some 13,.bin .leq (.t 11) (.t 12),some (10,true)⟩,⟨0,some 14,.pick (.t 10) (.t 13) (.c (.bool false)),
 none⟩,⟨0,some 6,.mv (.t 14),none⟩]) .ret)),none⟩
theorem aPW:cT prog 20 x20.fn:=⟨fun vs w=>call20 vs w,_,_,func20,rfl,rfl,by kernel_rfl,by kernel_rfl⟩
theorem aOW:gH x20=true:=by kernel_rfl
theorem aNG:aT x20 x20.body:=(aB rfl)

def x21:XFn:=⟨21,[(6,none)],false,false,
 (.seq (.reg [] false [⟨0,some 3,.box (.t 0),none⟩,⟨0,some 6,.mv (.c .nilsl),none⟩]) (.seq (.reg [] false [⟨0,some 7,(.alloc [(.int .i64
 0)]),none⟩]) (.seq (.seq (.reg [(3,true),(1,false),(2,false)] false [⟨0,some 9,.load true 6 (.t 3),none⟩,⟨0,some 10,.mv (.t 1),none⟩,
 ⟨0,some 11,.mv (.t 2),none⟩,⟨0,some 12,(.callf false (.c (.fn (.func 30) [] [])) [.t 9,.t 10,.t 11] []),none⟩]) (.block 0 (.rng 0 [7]
 (.t 12) [13] (.reg [] false [⟨0,some 8,(.alloc [.int .i64 0,.int .i64 0]),none⟩,⟨0,none,(.store 2 (.t 8) (.t 13) []),none⟩]) (.block 1 (.reg
 [(8,true)] true [⟨0,some 14,.load false 1 (.t 7),none⟩,⟨1,some 15,.fld 0 (.t 8),none⟩,⟨2,some 16,.load false 1 (.t 15),none⟩,⟨3,
 (some 17),(.callf false (.c (.fn (.func 13) [] [])) [.t 16] [0]),none⟩,⟨4,some 18,.bin .or (.t 14) (.t 17),none⟩,⟨5,none,(.store 1 (.t 7) (.t
 18) []),none⟩]))))) (.seq (.reg [(7,true)] false [⟨0,some 19,.load false 1 (.t 7),none⟩,⟨0,some 20,(.callf false (.c (.fn (.func 14) [] []))
 [.t 19] []),none⟩,⟨0,some 6,.mv (.t 20),none⟩]) .ret)))),none⟩
theorem aPV:cT prog 21 x21.fn:=⟨fun vs w=>call21 vs w,_,_,func21,rfl,rfl,by kernel_rfl,by kernel_rfl⟩
theorem aOV:gH x21=true:=by kernel_rfl
theorem aNF:aT x21 x21.body:=⟨aB rfl,⟨aB rfl,⟨⟨aB rfl,⟨by kernel_rfl,aB rfl,aB rfl⟩⟩,aB rfl⟩⟩⟩

def x22:XFn:=⟨16,[(4,none)],false,false,
 (.seq (.reg [] false [⟨0,some 4,.mv (.c (.int .i64 0)),none⟩]) (.seq (.reg [(0,false)] false [⟨0,some 6,.mv (.t 0),none⟩,⟨0,some 7,(.callf
 false (.c (.fn (.func 31) [] [])) [.t 6] []),none⟩,⟨0,some 5,.mv (.t 7),none⟩]) (.seq (.seq (.reg [(1,false)] false [⟨0,some 8,.mv (.t 5),
 none⟩,⟨0,some 9,.bin .eql (.t 8) (.c (.int .i64 0)),none⟩,⟨0,some 10,.mv (.t 9),none⟩,⟨0,some 11,.mv (.t 1),some (10,true)⟩,⟨0,
 (some 12),(.callf false (.c (.fn (.func 32) [] [])) [.c (.int .i64 0),.t 11,.c (.int .i64 200)] []),some (10,true)⟩,⟨0,some 13,.not (.t
 12),some (10,true)⟩,⟨0,some 14,.pick (.t 10) (.t 13) (.c (.bool false)),none⟩]) (.cond (.t 14) (.seq (.reg [] false [⟨0,some 4,.mv (.c
 (.int .i64 2)),none⟩]) .ret) .skip)) (.seq (.reg [] false [⟨0,some 15,.mv (.t 5),none⟩,⟨0,some 4,.mv (.t 15),none⟩]) .ret)))),none⟩
theorem aPU:cT prog 22 x22.fn:=⟨fun vs w=>call22 vs w,_,_,func22,rfl,rfl,by kernel_rfl,by kernel_rfl⟩
theorem aOU:gH x22=true:=by kernel_rfl
theorem aNE:aT x22 x22.body:=(aB rfl)

def x23:XFn:=⟨30,[(4,(some (false,1))),(5,(some (false,1)))],false,false,
 (.seq (.reg [] false [⟨0,some 3,.box (.t 1),none⟩,⟨0,some 4,(.alloc [.nilsl]),none⟩,⟨0,some 5,(.alloc [.int .i64 0]),none⟩]) (.seq (.reg
 [] false [⟨0,some 7,.mv (.t 0),none⟩,⟨0,some 8,.len false (.t 7),none⟩,⟨0,some 9,(.mksl 1 8 [.int .i64 0] (.t 8) (.t 8)),none⟩,⟨0,
 none,(.store 1 (.t 4) (.t 9) []),none⟩]) (.seq (.seq (.reg [(0,false)] false [⟨0,some 10,.mv (.t 0),none⟩,⟨0,some 11,(.callf false (.c (.fn
 (.func 33) [] [])) [.t 10,.c (.fn (.func 34) [] [])] []),none⟩]) (.block 0 (.rng 0 [3,4,5] (.t 11) [12] (.reg [] false [⟨0,some 6,(.alloc [(.int
 .i64 0),.int .i64 0]),none⟩,⟨0,none,(.store 2 (.t 6) (.t 12) []),none⟩]) (.block 1 (.seq (.seq (.reg [] false [⟨0,some 13,.load false 1 (.t
 3),none⟩,⟨0,some 14,.bin .eql (.t 13) (.c (.int .i64 0)),none⟩]) (.cond (.t 14) (.exit 0) .skip)) (.seq (.reg [] false [⟨0,some 15,(.load
 false 1 (.t 3)),none⟩,⟨0,some 16,.bin .sub (.t 15) (.c (.int .i64 1)),none⟩,⟨0,none,(.store 1 (.t 3) (.t 16) []),none⟩]) (.seq (.reg [] false
 [⟨0,some 17,.load false 1 (.t 4),none⟩,⟨0,some 18,.fld 1 (.t 6),none⟩,⟨0,some 19,.load false 1 (.t 18),none⟩,⟨0,some 20,(.idx 1
 (.t 17) (.t 19)),none⟩,⟨0,some 21,.load false 1 (.t 20),none⟩,⟨0,some 22,.bin .add (.t 21) (.c (.int .i64 1)),none⟩,⟨0,some 23,(.idx 1
 (.t 17) (.t 19)),none⟩,⟨0,none,(.store 1 (.t 23) (.t 22) []),none⟩]) (.reg [] false [⟨0,some 24,.load false 1 (.t 5),none⟩,⟨0,some 25,(.fld
 0 (.t 6)),none⟩,⟨0,some 26,.load false 1 (.t 25),none⟩,⟨0,some 27,.bin .add (.t 24) (.t 26),none⟩,⟨0,none,(.store 1 (.t 5) (.t 27) []),
 none⟩])))))))) (.seq (.reg [] true [⟨0,some 28,.load false 1 (.t 4),none⟩,⟨1,some 29,.load false 1 (.t 5),none⟩,⟨2,none,(.store 1 (.t 4)
 (.t 28) [1]),none⟩,⟨3,none,(.store 1 (.t 5) (.t 29) []),none⟩]) .ret)))),none⟩
theorem aPT:cT prog 23 x23.fn:=⟨fun vs w=>call23 vs w,_,_,func23,rfl,rfl,by kernel_rfl,by kernel_rfl⟩
theorem aOT:gH x23=true:=by kernel_rfl
theorem aND:aT x23 x23.body:=⟨aB rfl,⟨aB rfl,⟨⟨aB rfl,⟨by kernel_rfl,aB rfl,aB rfl⟩⟩,aB rfl⟩⟩⟩

def aDe:XCode :=
 (.loop [1,5,19,20,21] (.seq (.reg [] false [⟨0,some 22,.bin .lss (.t 21) (.t 20),none⟩]) (.seq (.cond (.t 22) .skip (.exit 0)) (.seq (.block 1
 (.seq (.reg [] false [⟨0,some 23,.idx 2 (.t 19) (.t 21),none⟩,⟨0,some 24,.load true 2 (.t 23),none⟩,⟨0,some 7,(.alloc [.int .i64 0,
 (.int .i64 0)]),none⟩,⟨0,none,(.store 2 (.t 7) (.t 24) []),none⟩]) (.seq (.reg [] true [⟨0,some 25,.mv (.t 5),none⟩,⟨1,some 26,(.idxa 2 1
 (.t 7) (.c (.int .i64 0))),none⟩,⟨2,some 27,.load false 1 (.t 26),none⟩,⟨3,some 28,.nilck (.t 25),none⟩,⟨4,some 29,.fld 6 (.t 28),
 none⟩,⟨5,some 30,.idxa 16 1 (.t 29) (.t 27),none⟩,⟨6,some 31,.load false 1 (.t 30),none⟩,⟨7,some 32,.idxa 2 1 (.t 7) (.c (.int .i64
 1)),none⟩,⟨8,some 33,.load false 1 (.t 32),none⟩,⟨11,some 36,.nilck (.t 25),none⟩,⟨12,some 37,.fld 6 (.t 36),none⟩,⟨9,some 34,
 (.callf false (.c (.fn (.func 13) [] [])) [.t 33] [2,6]),none⟩,⟨10,some 35,.bin .or (.t 31) (.t 34),none⟩,⟨13,some 38,(.idxa 16 1 (.t 37)
 (.t 27)),none⟩,⟨14,none,(.store 1 (.t 38) (.t 35) []),none⟩]) (.reg [] true [⟨0,some 39,.mv (.t 5),none⟩,⟨1,some 40,.idxa 2 1 (.t 7) (.c
 (.int .i64 1)),none⟩,⟨2,some 41,.load false 1 (.t 40),none⟩,⟨3,some 42,.nilck (.t 39),none⟩,⟨4,some 43,.fld 6 (.t 42),none⟩,⟨5,
 (some 44),.idxa 16 1 (.t 43) (.t 41),none⟩,⟨6,some 45,.load false 1 (.t 44),none⟩,⟨7,some 46,.idxa 2 1 (.t 7) (.c (.int .i64 0)),none⟩,
 ⟨8,some 47,.load false 1 (.t 46),none⟩,⟨11,some 50,.nilck (.t 39),none⟩,⟨12,some 51,.fld 6 (.t 50),none⟩,⟨9,some 48,(.callf
 false (.c (.fn (.func 13) [] [])) [.t 47] [2,6]),none⟩,⟨10,some 49,.bin .or (.t 45) (.t 48),none⟩,⟨13,some 52,.idxa 16 1 (.t 51) (.t 41),
 none⟩,⟨14,none,(.store 1 (.t 52) (.t 49) []),none⟩])))) (.reg [] false [⟨0,some 53,.bin .add (.t 21) (.c (.int .i64 1)),none⟩,⟨0,some 21,
 (.mv (.t 53)),none⟩])))))
def aDd:XCode :=
 (.loop [5,55,56,57] (.seq (.reg [] false [⟨0,some 58,.bin .lss (.t 57) (.t 56),none⟩]) (.seq (.cond (.t 58) .skip (.exit 2)) (.seq (.block 3 (.seq
 (.reg [] false [⟨0,some 59,.idx 3 (.t 55) (.t 57),none⟩,⟨0,some 60,.load true 3 (.t 59),none⟩,⟨0,some 9,(.alloc [.int .i64 0,(.int
 .i64 0),.int .i64 0]),none⟩,⟨0,none,(.store 3 (.t 9) (.t 60) []),none⟩]) (.reg [(9,true)] true [⟨0,some 61,.mv (.t 5),none⟩,⟨1,some 62,
 (.fld 1 (.t 9)),none⟩,⟨2,some 63,.load false 1 (.t 62),none⟩,⟨3,some 64,.nilck (.t 61),none⟩,⟨4,some 65,.fld 6 (.t 64),none⟩,⟨5,
 (some 66),.idxa 16 1 (.t 65) (.t 63),none⟩,⟨6,some 67,.load false 1 (.t 66),none⟩,⟨7,some 68,.fld 2 (.t 9),none⟩,⟨8,some 69,(.load
 false 1 (.t 68)),none⟩,⟨11,some 72,.nilck (.t 61),none⟩,⟨12,some 73,.fld 6 (.t 72),none⟩,⟨9,some 70,(.callf false (.c (.fn (.func 13)
 [] [])) [.t 69] [2,6]),none⟩,⟨10,some 71,.bin .or (.t 67) (.t 70),none⟩,⟨13,some 74,.idxa 16 1 (.t 73) (.t 63),none⟩,⟨14,none,(.store
 1 (.t 74) (.t 71) []),none⟩]))) (.reg [] false [⟨0,some 75,.bin .add (.t 57) (.c (.int .i64 1)),none⟩,⟨0,some 57,.mv (.t 75),none⟩])))))
def x24:XFn:=⟨77,[(2,none),(3,none)],false,false,
 (.seq (.reg [] false [⟨0,some 1,.box (.t 0),none⟩,⟨0,some 2,.mv (.c .nilpt),none⟩,⟨0,some 3,.mv (.c (.int .i64 0)),none⟩]) (.seq (.seq
 (.reg [(1,true)] false [⟨0,some 10,.load true 6 (.t 1),none⟩,⟨0,some 11,(.callf false (.c (.fn (.func 29) [] [])) [.t 10] []),none⟩,⟨0,
 (some 4),.mv (.t 11),none⟩]) (.seq (.reg [] false [⟨0,some 12,.mv (.t 4),none⟩,⟨0,some 13,.bin .neq (.t 12) (.c (.int .i64 0)),none⟩])
 (.cond (.t 13) (.seq (.reg [] false [⟨0,some 14,.mv (.t 4),none⟩,⟨0,some 2,.mv (.c .nilpt),none⟩,⟨0,some 3,.mv (.t 14),none⟩]) .ret)
 .skip))) (.seq (.reg [] false [⟨0,some 15,.load true 6 (.t 1),none⟩,⟨0,some 16,(.build [.int .i64 0,.nilsl,.nilsl,.int .i64 0,(.int .i64
 0),.int .i64 0,.int .i64 0,.int .i64 0,.int .i64 0,.int .i64 0,.int .i64 0,.int .i64 0,.int .i64 0,.int .i64 0,.int .i64 0,
 (.int .i64 0),.int .i64 0,.int .i64 0,.int .i64 0,.int .i64 0,.int .i64 0,.int .i64 0] [(0,(6,(.t 15)))]),none⟩,⟨0,some 17,(.box
 (.t 16)),none⟩,⟨0,some 5,.mv (.t 17),none⟩]) (.seq (.seq (.reg [] false [⟨0,some 18,.fld 1 (.t 1),none⟩,⟨0,some 19,.load false 1 (.t
 18),none⟩,⟨0,some 20,.len false (.t 19),none⟩,⟨0,some 21,.mv (.c (.int .i64 0)),none⟩]) (.block 0 aDe)) (.seq (.seq (.reg [] false [⟨0,
 (some 54),.fld 2 (.t 1),none⟩,⟨0,some 55,.load false 1 (.t 54),none⟩,⟨0,some 56,.len false (.t 55),none⟩,⟨0,some 57,.mv (.c (.int
 .i64 0)),none⟩]) (.block 2 aDd)) (.seq (.reg [] false [⟨0,some 76,.mv (.t 5),none⟩,⟨0,some 2,.mv (.t 76),none⟩,⟨0,some 3,.mv (.c
 (.int .i64 0)),none⟩]) .ret)))))),none⟩
theorem aPS:cT prog 24 x24.fn:=⟨fun vs w=>call24 vs w,_,_,func24,rfl,rfl,by kernel_rfl,by kernel_rfl⟩
theorem aOS:gH x24=true:=by kernel_rfl
theorem aNC:aT x24 x24.body:=(aB rfl)

end Go.Proofs.YtmcbhljgkgfanaaDoor
end
section
set_option maxRecDepth 100000
namespace Go.Proofs.YtmcbhljgkgfanaaDoor
open Go Go.DL Go.Proofs.Tryd

def x25:XFn:=⟨15,[(4,none)],false,false,
 (.seq (.reg [] false [⟨0,some 4,.mv (.c (.bool false)),none⟩]) (.seq (.reg [(0,false),(1,false)] true [⟨0,some 5,.mv (.t 0),none⟩,⟨1,(some
 6),.mv (.t 1),none⟩,⟨3,some 8,.mv (.t 0),none⟩,⟨4,some 9,.nilck (.t 8),none⟩,⟨5,some 10,.fld 0 (.t 9),none⟩,⟨6,some 11,
 (.fld 4 (.t 10)),none⟩,⟨7,some 12,.load false 1 (.t 11),none⟩,⟨2,some 7,(.callf false (.c (.fn (.func 35) [] [])) [.t 5,.t 6] [7]),
 none⟩,⟨8,some 13,.bin .and (.t 7) (.t 12),none⟩,⟨9,some 14,.bin .eql (.t 13) (.c (.int .i64 0)),none⟩,⟨10,some 4,.mv (.t 14),none⟩])
 .ret)),none⟩
theorem aPR:cT prog 25 x25.fn:=⟨fun vs w=>call25 vs w,_,_,func25,rfl,rfl,by kernel_rfl,by kernel_rfl⟩
theorem aOR:gH x25=true:=by kernel_rfl
theorem aNB:aT x25 x25.body:=(aB rfl)

def x26:XFn:=⟨5,[(2,none)],false,false,
 (.seq (.reg [] false [⟨0,some 2,.mv (.c .nilsl),none⟩]) (.seq (.reg [] false [⟨0,some 3,.mv (.t 0),none⟩,⟨0,some 4,(.callf false (.c (.fn
 (.func 36) [] [])) [.c .nilsl,.t 3] []),none⟩,⟨0,some 2,.mv (.t 4),none⟩]) .ret)),none⟩
theorem aPQ:cT prog 26 x26.fn:=⟨fun vs w=>call26 vs w,_,_,func26,rfl,rfl,by kernel_rfl,by kernel_rfl⟩
theorem aOQ:gH x26=true:=by kernel_rfl
theorem aNA:aT x26 x26.body:=(aB rfl)

def x27:XFn:=⟨4,[(2,none)],false,false,
 (.seq (.reg [] false [⟨0,some 1,.box (.t 0),none⟩,⟨0,some 2,.mv (.c .nilfn),none⟩]) (.seq (.reg [] false [⟨0,some 3,(.mkf (.func 37) []
 [.t 1]),none⟩,⟨0,some 2,.mv (.t 3),none⟩]) .ret)),none⟩
theorem aPP:cT prog 27 x27.fn:=⟨fun vs w=>call27 vs w,_,_,func27,rfl,rfl,by kernel_rfl,by kernel_rfl⟩
theorem aOP:gH x27=true:=by kernel_rfl
theorem aNz:aT x27 x27.body:=(aB rfl)

def x28:XFn:=⟨8,[(2,none)],false,false,
 (.seq (.reg [] false [⟨0,some 1,.box (.t 0),none⟩,⟨0,some 2,.mv (.c (.bool false)),none⟩]) (.seq (.reg [] false [⟨0,some 3,(.alloc [(.bool
 false),.bool false,.bool false,.bool false,.bool false,.bool false,.bool false,.bool false,.bool false,.bool false,(.bool
 false),.bool false,.bool false,.bool false,.bool false,.bool false,.bool false,.bool false,.bool false,.bool false,(.bool
 false),.bool false,.bool false,.bool false,.bool false,.bool false,.bool false,.bool false,.bool false,.bool false,(.bool
 false),.bool false,.bool false,.bool false]),none⟩]) (.seq (.reg [] false [⟨0,some 4,(.alloc [.nilfn]),none⟩]) (.seq (.reg [] false [⟨0,
 (some 5),(.mkf (.func 39) [] [.t 3,.t 1,.t 4]),none⟩,⟨0,none,(.store 1 (.t 4) (.t 5) []),none⟩]) (.seq (.reg [] false [⟨0,some 6,(.load
 false 1 (.t 4)),none⟩,⟨0,some 7,(.callf false (.t 6) [.c (.int .i64 32)] []),none⟩,⟨0,some 2,.mv (.t 7),none⟩]) .ret))))),none⟩
theorem aPO:cT prog 28 x28.fn:=⟨fun vs w=>call28 vs w,_,_,func28,rfl,rfl,by kernel_rfl,by kernel_rfl⟩
theorem aOO:gH x28=true:=by kernel_rfl
theorem aNy:aT x28 x28.body:=(aB rfl)

def qI:XCode :=
 (.loop [1,22,23,24] (.seq (.reg [] false [⟨0,some 25,.bin .lss (.t 24) (.t 23),none⟩]) (.seq (.cond (.t 25) .skip (.exit 1)) (.seq (.block 2 (.seq
 (.reg [] false [⟨0,some 26,.idx 2 (.t 22) (.t 24),none⟩,⟨0,some 27,.load true 2 (.t 26),none⟩,⟨0,some 4,(.alloc [.int .i64 0,(.int
 .i64 0)]),none⟩,⟨0,none,(.store 2 (.t 4) (.t 27) []),none⟩]) (.seq (.reg [(1,true)] false [⟨0,some 28,.load true 6 (.t 1),none⟩,⟨0,some 29,
 (.idxa 2 1 (.t 4) (.c (.int .i64 0))),none⟩,⟨0,some 30,.load false 1 (.t 29),none⟩,⟨0,some 31,.idxa 2 1 (.t 4) (.c (.int .i64 1)),none⟩,
 ⟨0,some 32,.load false 1 (.t 31),none⟩,⟨0,some 33,(.callf false (.c (.fn (.func 41) [] [])) [.t 28,.t 30,.t 32] []),none⟩,⟨0,(some
 5),.mv (.t 33),none⟩]) (.seq (.reg [] false [⟨0,some 34,.mv (.t 5),none⟩,⟨0,some 35,.bin .neq (.t 34) (.c (.int .i64 0)),none⟩]) (.cond
 (.t 35) (.seq (.reg [] false [⟨0,some 36,.mv (.t 5),none⟩,⟨0,some 2,.mv (.t 36),none⟩]) .ret) .skip))))) (.reg [] false [⟨0,some 37,(.bin
 .add (.t 24) (.c (.int .i64 1))),none⟩,⟨0,some 24,.mv (.t 37),none⟩])))))
def oY:XCode :=
 (.loop [1,43,44,45] (.seq (.reg [] false [⟨0,some 46,.bin .lss (.t 45) (.t 44),none⟩]) (.seq (.cond (.t 46) .skip (.exit 3)) (.seq (.block 4 (.seq
 (.reg [] false [⟨0,some 47,.idx 3 (.t 43) (.t 45),none⟩,⟨0,some 48,.load true 3 (.t 47),none⟩,⟨0,some 7,(.alloc [.int .i64 0,(.int
 .i64 0),.int .i64 0]),none⟩,⟨0,none,(.store 3 (.t 7) (.t 48) []),none⟩]) (.seq (.seq (.reg [(1,true),(7,true)] false [⟨0,some 49,(.load true
 6 (.t 1)),none⟩,⟨0,some 50,.fld 1 (.t 7),none⟩,⟨0,some 51,.load false 1 (.t 50),none⟩,⟨0,some 52,.fld 2 (.t 7),none⟩,⟨0,(some
 53),.load false 1 (.t 52),none⟩,⟨0,some 54,(.callf false (.c (.fn (.func 41) [] [])) [.t 49,.t 51,.t 53] []),none⟩,⟨0,some 8,.mv (.t
 54),none⟩]) (.seq (.reg [] false [⟨0,some 55,.mv (.t 8),none⟩,⟨0,some 56,.bin .neq (.t 55) (.c (.int .i64 0)),none⟩]) (.cond (.t 56) (.seq
 (.reg [] false [⟨0,some 57,.mv (.t 8),none⟩,⟨0,some 2,.mv (.t 57),none⟩]) .ret) .skip))) (.seq (.reg [(7,true)] false [⟨0,some 58,(.fld
 0 (.t 7)),none⟩,⟨0,some 59,.load false 1 (.t 58),none⟩,⟨0,some 60,(.callf false (.c (.fn (.func 20) [] [])) [.c (.int .i64 0),.t 59,(.c
 (.int .i64 100))] []),none⟩,⟨0,some 61,.not (.t 60),none⟩]) (.cond (.t 61) (.seq (.reg [] false [⟨0,some 2,.mv (.c (.int .i64 2)),none⟩])
 .ret) .skip))))) (.reg [] false [⟨0,some 62,.bin .add (.t 45) (.c (.int .i64 1)),none⟩,⟨0,some 45,.mv (.t 62),none⟩])))))
def vK:XCode :=
 (.loop [1,69,70,71] (.seq (.reg [] false [⟨0,some 72,.bin .lss (.t 71) (.t 70),none⟩]) (.seq (.cond (.t 72) .skip (.exit 5)) (.seq (.block 6 (.seq
 (.reg [] false [⟨0,some 73,.idx 1 (.t 69) (.t 71),none⟩,⟨0,some 74,.load false 1 (.t 73),none⟩,⟨0,some 10,.mv (.t 74),none⟩]) (.seq
 (.reg [(10,false)] false [⟨0,some 75,.mv (.t 10),none⟩,⟨0,some 76,.fld 0 (.t 1),none⟩,⟨0,some 77,.load false 1 (.t 76),none⟩,⟨0,
 (some 78),.bin .shl (.c (.int .i64 1)) (.t 77),none⟩,⟨0,some 79,.bin .sub (.t 78) (.c (.int .i64 1)),none⟩,⟨0,some 80,(.callf false (.c
 (.fn (.func 20) [] [])) [.c (.int .i64 0),.t 75,.t 79] []),none⟩,⟨0,some 81,.not (.t 80),none⟩]) (.cond (.t 81) (.seq (.reg [] false [⟨0,
 (some 2),.mv (.c (.int .i64 2)),none⟩]) .ret) .skip)))) (.reg [] false [⟨0,some 82,.bin .add (.t 71) (.c (.int .i64 1)),none⟩,⟨0,some 71,
 (.mv (.t 82)),none⟩])))))
def x29:XFn:=⟨83,[(2,none)],false,false,
 (.seq (.reg [] false [⟨0,some 1,.box (.t 0),none⟩,⟨0,some 2,.mv (.c (.int .i64 0)),none⟩]) (.seq (.block 0 (.seq (.reg [(1,true)] false [⟨0,
 (some 12),.fld 0 (.t 1),none⟩,⟨0,some 13,.load false 1 (.t 12),none⟩,⟨0,some 14,(.callf false (.c (.fn (.func 20) [] [])) [.c (.int .i64
 1),.t 13,.c (.int .i64 16)] []),none⟩,⟨0,some 15,.not (.t 14),none⟩,⟨0,some 11,.mv (.t 15),none⟩]) (.cond (.t 11) (.seq (.reg []
 false [⟨0,some 2,.mv (.c (.int .i64 2)),none⟩]) .ret) (.seq (.reg [] false [⟨0,some 17,.fld 1 (.t 1),none⟩,⟨0,some 18,.load false 1 (.t
 17),none⟩,⟨0,some 19,.len false (.t 18),none⟩,⟨0,some 20,.bin .gtr (.t 19) (.c (.int .i64 60)),none⟩,⟨0,some 16,.mv (.t 20),
 none⟩]) (.cond (.t 16) (.seq (.reg [] false [⟨0,some 2,.mv (.c (.int .i64 1)),none⟩]) .ret) .skip))))) (.seq (.seq (.reg [] false [⟨0,some 21,
 (.fld 1 (.t 1)),none⟩,⟨0,some 22,.load false 1 (.t 21),none⟩,⟨0,some 23,.len false (.t 22),none⟩,⟨0,some 24,.mv (.c (.int .i64 0)),
 none⟩]) (.block 1 qI)) (.seq (.seq (.reg [] false [⟨0,some 38,.fld 2 (.t 1),none⟩,⟨0,some 39,.load false 1 (.t 38),none⟩,⟨0,some 40,
 (.len false (.t 39)),none⟩,⟨0,some 41,.bin .gtr (.t 40) (.c (.int .i64 20)),none⟩]) (.cond (.t 41) (.seq (.reg [] false [⟨0,some 2,.mv (.c
 (.int .i64 1)),none⟩]) .ret) .skip)) (.seq (.seq (.reg [] false [⟨0,some 42,.fld 2 (.t 1),none⟩,⟨0,some 43,.load false 1 (.t 42),none⟩,⟨0,
 (some 44),.len false (.t 43),none⟩,⟨0,some 45,.mv (.c (.int .i64 0)),none⟩]) (.block 3 oY)) (.seq (.seq (.reg [(1,true)] false [⟨0,(some
 63),.fld 3 (.t 1),none⟩,⟨0,some 64,.load false 1 (.t 63),none⟩,⟨0,some 65,.fld 4 (.t 1),none⟩,⟨0,some 66,.load false 1 (.t 65),
 none⟩,⟨0,some 67,.fld 5 (.t 1),none⟩,⟨0,some 68,.load false 1 (.t 67),none⟩,⟨0,some 69,(.bslice 1 3 [.int .i64 0] [(0,(1,(.t 64))),
 (1,(1,(.t 66))),(2,(1,(.t 68)))]),none⟩,⟨0,some 70,.len false (.t 69),none⟩,⟨0,some 71,.mv (.c (.int .i64 0)),none⟩]) (.block 5
 vK)) (.seq (.reg [] false [⟨0,some 2,.mv (.c (.int .i64 0)),none⟩]) .ret))))))),none⟩
theorem aPN:cT prog 29 x29.fn:=⟨fun vs w=>call29 vs w,_,_,func29,rfl,rfl,by kernel_rfl,by kernel_rfl⟩
theorem aON:gH x29=true:=by kernel_rfl
theorem aNx:aT x29 x29.body:=(aB rfl)

def x30:XFn:=⟨8,[(6,none)],false,false,
 (.seq (.reg [] false [⟨0,some 3,.box (.t 0),none⟩,⟨0,some 4,.box (.t 1),none⟩,⟨0,some 5,.box (.t 2),none⟩,⟨0,some 6,.mv (.c
 .nilfn),none⟩]) (.seq (.reg [] false [⟨0,some 7,(.mkf (.func 42) [] [.t 3,.t 4,.t 5]),none⟩,⟨0,some 6,.mv (.t 7),none⟩]) .ret)),none⟩
theorem aPM:cT prog 30 x30.fn:=⟨fun vs w=>call30 vs w,_,_,func30,rfl,rfl,by kernel_rfl,by kernel_rfl⟩
theorem aOM:gH x30=true:=by kernel_rfl
theorem aNw:aT x30 x30.body:=(aB rfl)

def x31:XFn:=⟨5,[(2,none)],false,false,
 (.seq (.reg [] false [⟨0,some 2,.mv (.c (.int .i64 0)),none⟩]) (.seq (.reg [(0,false)] false [⟨0,some 3,.mv (.t 0),none⟩,⟨0,some 4,(.callf
 false (.c (.fn (.func 44) [] [])) [.t 3,.c (.fn (.func 45) [] []),.c (.fn (.func 46) [] [])] []),none⟩,⟨0,some 2,.mv (.t 4),none⟩]) .ret)),none⟩
theorem aPL:cT prog 31 x31.fn:=⟨fun vs w=>call31 vs w,_,_,func31,rfl,rfl,by kernel_rfl,by kernel_rfl⟩
theorem aOL:gH x31=true:=by kernel_rfl
theorem aNv:aT x31 x31.body:=(aB rfl)

def x32:XFn:=⟨15,[(6,none)],false,false,
 (.seq (.reg [] false [⟨0,some 6,.mv (.c (.bool false)),none⟩]) (.seq (.reg [] false [⟨0,some 7,.mv (.t 0),none⟩,⟨0,some 8,.mv (.t 1),
 none⟩,⟨0,some 9,.bin .leq (.t 7) (.t 8),none⟩,⟨0,some 10,.mv (.t 9),none⟩,⟨0,some 11,.mv (.t 1),some (10,true)⟩,⟨0,some 12,
 (.mv (.t 2)),some (10,true)⟩,⟨0,some 13,.bin .leq (.t 11) (.t 12),some (10,true)⟩,⟨0,some 14,.pick (.t 10) (.t 13) (.c (.bool false)),
 none⟩,⟨0,some 6,.mv (.t 14),none⟩]) .ret)),none⟩
theorem aPK:cT prog 32 x32.fn:=⟨fun vs w=>call32 vs w,_,_,func32,rfl,rfl,by kernel_rfl,by kernel_rfl⟩
theorem aOK:gH x32=true:=by kernel_rfl
theorem aNu:aT x32 x32.body:=(aB rfl)

def x33l0:XCode :=
 (.loop [3,5,6,10,11,12,17,18,19] (.seq (.reg [] false [⟨0,some 20,.bin .lss (.t 19) (.t 18),none⟩]) (.seq (.cond (.t 20) .skip (.exit 2)) (.seq
 (.block 3 (.seq (.reg [] false [⟨0,some 21,.idx 1 (.t 17) (.t 19),none⟩,⟨0,some 22,.load false 1 (.t 21),none⟩,⟨0,some 9,.mv (.t 22),
 none⟩]) (.reg [] false [⟨0,some 23,.mv (.t 5),none⟩,⟨0,some 24,.mv (.t 9),none⟩,⟨0,some 25,.mv (.t 6),none⟩,⟨0,some 26,(.build
 [.int .i64 0,.int .i64 0] [(0,(1,(.t 24))),(1,(1,(.t 25)))]),none⟩,⟨0,some 27,(.bslice 2 1 [.int .i64 0,.int .i64 0] [(0,(2,(.t
 26)))]),none⟩,⟨0,some 28,.app 2 16 (.t 23) (.t 27),none⟩,⟨0,some 5,.mv (.t 28),none⟩]))) (.reg [] false [⟨0,some 29,(.bin .add (.t 19)
 (.c (.int .i64 1))),none⟩,⟨0,some 19,.mv (.t 29),none⟩])))))
def yN:XCode :=
 (.loop [3,5,10,11,12] (.seq (.reg [] false [⟨0,some 13,.bin .lss (.t 12) (.t 11),none⟩]) (.seq (.cond (.t 13) .skip (.exit 0)) (.seq (.block 1
 (.seq (.reg [] false [⟨0,some 14,.mv (.t 12),none⟩,⟨0,some 15,.idx 1 (.t 10) (.t 12),none⟩,⟨0,some 16,.load false 1 (.t 15),none⟩,
 ⟨0,some 6,.mv (.t 14),none⟩,⟨0,some 7,.mv (.t 16),none⟩]) (.seq (.reg [] false [⟨0,some 17,.mv (.t 7),none⟩,⟨0,some 18,(.len
 false (.t 17)),none⟩,⟨0,some 19,.mv (.c (.int .i64 0)),none⟩]) (.block 2 x33l0)))) (.reg [] false [⟨0,some 30,.bin .add (.t 12) (.c (.int .i64
 1)),none⟩,⟨0,some 12,.mv (.t 30),none⟩])))))
def x33:XFn:=⟨36,[(4,none)],false,false,
 (.seq (.reg [] false [⟨0,some 3,.box (.t 1),none⟩,⟨0,some 4,.mv (.c .nilfn),none⟩]) (.seq (.reg [] false [⟨0,some 5,.mv (.c .nilsl),
 none⟩]) (.seq (.seq (.reg [] false [⟨0,some 10,.mv (.t 0),none⟩,⟨0,some 11,.len false (.t 10),none⟩,⟨0,some 12,.mv (.c (.int .i64 0)),
 none⟩]) (.block 0 yN)) (.seq (.reg [] false [⟨0,some 31,.mv (.t 5),none⟩,⟨0,some 32,(.mkf (.func 48) [] [.t 3]),none⟩,⟨0,some 33,
 (.callf false (.c (.fn (.func 47) [] [])) [.t 31,.t 32] []),none⟩]) (.seq (.reg [(5,false)] false [⟨0,some 34,.mv (.t 5),none⟩,⟨0,some 35,
 (.callf false (.c (.fn (.func 50) [] [])) [.t 34] []),none⟩,⟨0,some 4,.mv (.t 35),none⟩]) .ret))))),none⟩
theorem aPJ:cT prog 33 x33.fn:=⟨fun vs w=>call33 vs w,_,_,func33,rfl,rfl,by kernel_rfl,by kernel_rfl⟩
theorem aOJ:gH x33=true:=by kernel_rfl
theorem aNt:aT x33 x33.body:=(aB rfl)

def x34:XFn:=⟨3,[(2,none)],false,false,
 (.seq (.reg [] false [⟨0,some 2,.mv (.c (.int .i64 0)),none⟩]) (.seq (.reg [] false [⟨0,some 2,.mv (.c (.int .i64 0)),none⟩]) .ret)),none⟩
theorem aPI:cT prog 34 x34.fn:=⟨fun vs w=>call34 vs w,_,_,func34,rfl,rfl,by kernel_rfl,by kernel_rfl⟩
theorem aOI:gH x34=true:=by kernel_rfl
theorem aNs:aT x34 x34.body:=(aB rfl)

def x35:XFn:=⟨20,[(4,none)],false,false,
 (.seq (.reg [] false [⟨0,some 2,.box (.t 0),none⟩,⟨0,some 3,.box (.t 1),none⟩,⟨0,some 4,.mv (.c (.int .i64 0)),none⟩]) (.seq (.reg []
 false [⟨0,some 5,(.alloc [.int .i64 0]),none⟩]) (.seq (.reg [] false [⟨0,some 6,(.alloc [.nilfn]),none⟩]) (.seq (.reg [] false [⟨0,some 8,
 (.mkf (.func 51) [] [.t 5,.t 3,.t 2,.t 6]),none⟩,⟨0,none,(.store 1 (.t 6) (.t 8) []),none⟩]) (.seq (.seq (.reg [] false [⟨0,some 9,
 (.load false 1 (.t 2)),none⟩,⟨0,some 10,.nilck (.t 9),none⟩,⟨0,some 11,.fld 0 (.t 10),none⟩,⟨0,some 12,.fld 3 (.t 11),none⟩,⟨0,
 (some 13),.load false 1 (.t 12),none⟩,⟨0,some 14,(.callf false (.c (.fn (.func 27) [] [])) [.t 13] []),none⟩]) (.block 0 (.rng 0 [6] (.t 14)
 [15] (.reg [] false [⟨0,some 7,.mv (.t 15),none⟩]) (.block 1 (.reg [(7,false)] false [⟨0,some 16,.load false 1 (.t 6),none⟩,⟨0,some 17,
 (.mv (.t 7)),none⟩,⟨0,some 18,(.callf false (.t 16) [.t 17] []),none⟩]))))) (.seq (.reg [] false [⟨0,some 19,.load false 1 (.t 5),none⟩,⟨0,
 (some 4),.mv (.t 19),none⟩]) .ret)))))),none⟩
theorem aPH:cT prog 35 x35.fn:=⟨fun vs w=>call35 vs w,_,_,func35,rfl,rfl,by kernel_rfl,by kernel_rfl⟩
theorem aOH:gH x35=true:=by kernel_rfl
theorem aNr:aT x35 x35.body:=⟨aB rfl,⟨aB rfl,⟨aB rfl,⟨aB rfl,⟨⟨aB rfl,⟨by kernel_rfl,aB rfl,aB rfl⟩⟩,aB rfl⟩⟩⟩⟩⟩

def x36:XFn:=⟨13,[(4,none)],true,false,
 (.seq (.reg [] false [⟨0,some 2,.box (.t 0),none⟩,⟨0,some 4,.mv (.c .nilsl),none⟩]) (.seq (.seq (.reg [] false [⟨0,some 6,.mv (.t 1),
 none⟩]) (.block 0 (.rng 0 [2] (.t 6) [7] (.reg [] false [⟨0,some 5,.mv (.t 7),none⟩]) (.block 1 (.reg [(5,false)] false [⟨0,some 8,(.load false
 1 (.t 2)),none⟩,⟨0,some 9,.mv (.t 5),none⟩,⟨0,some 10,(.bslice 1 1 [.int .i64 0] [(0,(1,(.t 9)))]),none⟩,⟨0,some 11,(.app 1 8 (.t 8)
 (.t 10)),none⟩,⟨0,none,(.store 1 (.t 2) (.t 11) []),none⟩]))))) (.seq (.reg [] false [⟨0,some 12,.load false 1 (.t 2),none⟩,⟨0,some 4,(.mv
 (.t 12)),none⟩]) .ret))),none⟩
theorem aPG:cT prog 36 x36.fn:=⟨fun vs w=>call36 vs w,_,_,func36,rfl,rfl,by kernel_rfl,by kernel_rfl⟩
theorem aOG:gH x36=true:=by kernel_rfl
theorem aNq:aT x36 x36.body:=⟨aB rfl,⟨⟨aB rfl,⟨by kernel_rfl,aB rfl,aB rfl⟩⟩,aB rfl⟩⟩

def vJ:XCode :=
 (.loop [0,1] (.seq (.seq (.reg [] false [⟨0,some 3,.load false 1 (.t 1),none⟩,⟨0,some 4,.bin .neq (.t 3) (.c (.int .i64 0)),none⟩]) (.cond (.t
 4) .skip (.exit 0))) (.seq (.block 1 (.seq (.reg [] false [⟨0,some 9,.mv (.t 0),none⟩,⟨0,some 10,.load false 1 (.t 1),none⟩,⟨0,some 11,
 (.conv .u64 (.t 10)),none⟩,⟨0,some 12,(.callf false (.c (.fn (.func 38) [] [])) [.t 11] []),none⟩,⟨0,some 13,(.callf false (.t 9) [.t 12]
 []),none⟩,⟨0,some 14,.not (.t 13),none⟩]) (.cond (.t 14) .ret .skip))) (.reg [] false [⟨0,some 5,.load false 1 (.t 1),none⟩,⟨0,some 6,
 (.load false 1 (.t 1)),none⟩,⟨0,some 7,.bin .sub (.t 6) (.c (.int .i64 1)),none⟩,⟨0,some 8,.bin .and (.t 5) (.t 7),none⟩,⟨0,none,(.store
 1 (.t 1) (.t 8) []),none⟩]))))
def x37:XFn:=⟨15,[],false,false,
 (.block 0 vJ),none⟩
theorem aPF:cT prog 37 x37.fn:=⟨fun vs w=>call37 vs w,_,_,func37,rfl,rfl,by kernel_rfl,by kernel_rfl⟩
theorem aOF:gH x37=true:=by kernel_rfl
theorem aNp:aT x37 x37.body:=(aB rfl)

def x38:XFn:=⟨8,[(2,none)],false,false,
 (.seq (.reg [] false [⟨0,some 2,.mv (.c (.int .i64 0)),none⟩]) (.seq (.cond (.c (.bool false)) (.seq (.reg [] false [⟨0,some 3,.mv (.t 0),none⟩,
 ⟨0,some 4,.conv .u32 (.t 3),none⟩,⟨0,some 5,(.callf false (.c (.fn (.func 52) [] [])) [.t 4] []),none⟩,⟨0,some 2,.mv (.t 5),none⟩])
 .ret) .skip) (.seq (.reg [] false [⟨0,some 6,.mv (.t 0),none⟩,⟨0,some 7,(.callf false (.c (.fn (.func 53) [] [])) [.t 6] []),none⟩,⟨0,(some
 2),.mv (.t 7),none⟩]) .ret))),none⟩
theorem aPE:cT prog 38 x38.fn:=⟨fun vs w=>call38 vs w,_,_,func38,rfl,rfl,by kernel_rfl,by kernel_rfl⟩
theorem aOE:gH x38=true:=by kernel_rfl
theorem aNo:aT x38 x38.body:=(aB rfl)

def gJ:XCode :=
 (.loop [0,1,2,3,11] (.seq (.reg [] false [⟨0,some 12,.bin .lss (.t 11) (.c (.int .i64 34)),none⟩]) (.seq (.cond (.t 12) .skip (.exit 0)) (.seq
 (.block 1 (.seq (.reg [] false [⟨0,some 13,.mv (.t 11),none⟩,⟨0,some 6,.mv (.t 13),none⟩]) (.seq (.seq (.reg [(2,true)] false [⟨0,(some
 14),.mv (.t 6),none⟩,⟨0,some 15,.idxa 34 1 (.t 1) (.t 14),none⟩,⟨0,some 16,.load false 1 (.t 15),none⟩,⟨0,some 17,.mv (.t 16),
 none⟩,⟨0,some 18,.load false 1 (.t 2),some (17,false)⟩,⟨0,some 19,.mv (.t 0),some (17,false)⟩,⟨0,some 20,.mv (.t 6),some (17,
 false)⟩,⟨0,some 21,(.callf false (.c (.fn (.func 40) [] [])) [.t 18,.t 19,.t 20] []),some (17,false)⟩,⟨0,some 22,(.bin .leq (.t 21)
 (.c (.int .i64 0))),some (17,false)⟩,⟨0,some 23,.pick (.t 17) (.c (.bool true)) (.t 22),none⟩,⟨0,some 24,.mv (.t 23),none⟩,⟨0,(some
 25),.load false 1 (.t 3),some (24,false)⟩,⟨0,some 26,.mv (.t 6),some (24,false)⟩,⟨0,some 27,(.callf false (.t 25) [.t 26] []),
 (some (24,false))⟩,⟨0,some 28,.not (.t 27),some (24,false)⟩,⟨0,some 29,.pick (.t 24) (.c (.bool true)) (.t 28),none⟩]) (.cond (.t 29)
 (.exit 1) .skip)) (.seq (.seq (.reg [] false [⟨0,some 30,.load false 1 (.t 2),none⟩,⟨0,some 31,.mv (.t 6),none⟩,⟨0,some 32,.mv (.t 0),
 none⟩,⟨0,some 33,.nilck (.t 30),none⟩,⟨0,some 34,.fld 1 (.t 33),none⟩,⟨0,some 35,.idxa 34 34 (.t 34) (.t 31),none⟩,⟨0,some 36,
 (.idxa 34 1 (.t 35) (.t 32)),none⟩,⟨0,some 37,.load false 1 (.t 36),none⟩,⟨0,some 38,.bin .gtr (.t 37) (.c (.int .i64 0)),none⟩]) (.cond
 (.t 38) (.reg [] true [⟨0,some 39,.load false 1 (.t 2),none⟩,⟨1,some 40,.mv (.t 6),none⟩,⟨2,some 41,.mv (.t 0),none⟩,⟨3,some 42,
 (.nilck (.t 39)),none⟩,⟨4,some 43,.fld 1 (.t 42),none⟩,⟨5,some 44,.idxa 34 34 (.t 43) (.t 40),none⟩,⟨6,some 45,.idxa 34 1 (.t 44) (.t
 41),none⟩,⟨7,some 46,.load false 1 (.t 45),none⟩,⟨8,some 47,.bin .sub (.t 46) (.c (.int .i64 1)),none⟩,⟨9,some 48,.nilck (.t 39),
 none⟩,⟨10,some 49,.fld 1 (.t 48),none⟩,⟨11,some 50,.idxa 34 34 (.t 49) (.t 40),none⟩,⟨12,some 51,.idxa 34 1 (.t 50) (.t 41),none⟩,
 ⟨13,none,(.store 1 (.t 51) (.t 47) []),none⟩]) (.reg [] true [⟨0,some 52,.load false 1 (.t 2),none⟩,⟨1,some 53,.mv (.t 0),none⟩,⟨2,(some
 54),.mv (.t 6),none⟩,⟨3,some 55,.nilck (.t 52),none⟩,⟨4,some 56,.fld 1 (.t 55),none⟩,⟨5,some 57,.idxa 34 34 (.t 56) (.t 53),
 none⟩,⟨6,some 58,.idxa 34 1 (.t 57) (.t 54),none⟩,⟨7,some 59,.load false 1 (.t 58),none⟩,⟨8,some 60,.bin .add (.t 59) (.c (.int .i64
 1)),none⟩,⟨9,some 61,.nilck (.t 52),none⟩,⟨10,some 62,.fld 1 (.t 61),none⟩,⟨11,some 63,.idxa 34 34 (.t 62) (.t 53),none⟩,⟨12,
 (some 64),.idxa 34 1 (.t 63) (.t 54),none⟩,⟨13,none,(.store 1 (.t 64) (.t 60) []),none⟩]))) (.seq (.reg [] false [⟨0,some 5,.mv (.c (.bool
 true)),none⟩]) .ret))))) (.reg [] false [⟨0,some 65,.bin .add (.t 11) (.c (.int .i64 1)),none⟩,⟨0,some 11,.mv (.t 65),none⟩])))))
def x39:XFn:=⟨66,[(5,none)],false,false,
 (.seq (.reg [] false [⟨0,some 5,.mv (.c (.bool false)),none⟩]) (.seq (.seq (.reg [] false [⟨0,some 7,.mv (.t 0),none⟩,⟨0,some 8,(.bin .eql
 (.t 7) (.c (.int .i64 33))),none⟩]) (.cond (.t 8) (.seq (.reg [] false [⟨0,some 5,.mv (.c (.bool true)),none⟩]) .ret) .skip)) (.seq (.reg [] false
 [⟨0,some 9,.mv (.t 0),none⟩,⟨0,some 10,.idxa 34 1 (.t 1) (.t 9),none⟩,⟨0,none,(.store 1 (.t 10) (.c (.bool true)) []),none⟩]) (.seq (.seq
 (.reg [] false [⟨0,some 11,.mv (.c (.int .i64 0)),none⟩]) (.block 0 gJ)) (.seq (.reg [] false [⟨0,some 5,.mv (.c (.bool false)),none⟩])
 .ret))))),none⟩
theorem aPD:cT prog 39 x39.fn:=⟨fun vs w=>call39 vs w,_,_,func39,rfl,rfl,by kernel_rfl,by kernel_rfl⟩
theorem aOD:gH x39=true:=by kernel_rfl
theorem aNn:aT x39 x39.body:=(aB rfl)

def x40:XFn:=⟨126,[(6,none)],false,false,
 (.seq (.reg [] false [⟨0,some 6,.mv (.c (.int .i64 0)),none⟩]) (.seq (.reg [] false [⟨0,some 7,.mv (.c (.int .i64 0)),none⟩]) (.seq (.seq (.reg
 [] false [⟨0,some 10,.mv (.t 1),none⟩,⟨0,some 11,.bin .quo (.t 10) (.c (.int .i64 2)),none⟩,⟨0,some 12,.mv (.t 2),none⟩,⟨0,(some
 13),.bin .quo (.t 12) (.c (.int .i64 2)),none⟩,⟨0,some 8,.mv (.t 11),none⟩,⟨0,some 9,.mv (.t 13),none⟩]) (.block 0 (.seq (.reg [] false
 [⟨0,some 15,.mv (.t 1),none⟩,⟨0,some 16,.bin .eql (.t 15) (.c (.int .i64 32)),none⟩,⟨0,some 14,.mv (.t 16),none⟩]) (.cond (.t 14)
 (.seq (.reg [] false [⟨0,some 17,.mv (.t 2),none⟩,⟨0,some 18,.bin .rem (.t 17) (.c (.int .i64 2)),none⟩,⟨0,some 19,(.bin .eql (.t 18)
 (.c (.int .i64 0))),none⟩,⟨0,some 20,.mv (.t 19),none⟩,⟨0,some 21,.mv (.t 2),some (20,true)⟩,⟨0,some 22,.bin .lss (.t 21) (.c
 (.int .i64 32)),some (20,true)⟩,⟨0,some 23,.pick (.t 20) (.t 22) (.c (.bool false)),none⟩,⟨0,some 24,.mv (.t 23),none⟩,⟨0,some 25,
 (.mv (.t 0)),some (24,true)⟩,⟨0,some 26,.nilck (.t 25),some (24,true)⟩,⟨0,some 27,.fld 0 (.t 26),some (24,true)⟩,⟨0,some 28,
 (.load false 1 (.t 27)),some (24,true)⟩,⟨0,some 29,.nilck (.t 28),some (24,true)⟩,⟨0,some 30,.fld 0 (.t 29),some (24,true)⟩,⟨0,
 (some 31),.fld 3 (.t 30),some (24,true)⟩,⟨0,some 32,.load false 1 (.t 31),some (24,true)⟩,⟨0,some 33,.mv (.t 9),some (24,
 true)⟩,⟨0,some 34,(.callf false (.c (.fn (.func 11) [] [])) [.t 32,.t 33] []),some (24,true)⟩,⟨0,some 35,.pick (.t 24) (.t 34) (.c
 (.bool false)),none⟩]) (.cond (.t 35) (.reg [] false [⟨0,some 7,.mv (.c (.int .i64 16)),none⟩]) .skip)) (.seq (.reg [] false [⟨0,some 37,(.mv
 (.t 2)),none⟩,⟨0,some 38,.bin .eql (.t 37) (.c (.int .i64 33)),none⟩,⟨0,some 36,.mv (.t 38),none⟩]) (.cond (.t 36) (.seq (.reg [] false
 [⟨0,some 39,.mv (.t 1),none⟩,⟨0,some 40,.bin .rem (.t 39) (.c (.int .i64 2)),none⟩,⟨0,some 41,.bin .eql (.t 40) (.c (.int .i64 1)),
 none⟩,⟨0,some 42,.mv (.t 41),none⟩,⟨0,some 43,.mv (.t 1),some (42,true)⟩,⟨0,some 44,.bin .lss (.t 43) (.c (.int .i64 32)),(some
 (42,true))⟩,⟨0,some 45,.pick (.t 42) (.t 44) (.c (.bool false)),none⟩,⟨0,some 46,.mv (.t 45),none⟩,⟨0,some 47,.mv (.t 0),some (46,
 true)⟩,⟨0,some 48,.nilck (.t 47),some (46,true)⟩,⟨0,some 49,.fld 0 (.t 48),some (46,true)⟩,⟨0,some 50,.load false 1 (.t 49),
 (some (46,true))⟩,⟨0,some 51,.nilck (.t 50),some (46,true)⟩,⟨0,some 52,.fld 0 (.t 51),some (46,true)⟩,⟨0,some 53,.fld 4 (.t
 52),some (46,true)⟩,⟨0,some 54,.load false 1 (.t 53),some (46,true)⟩,⟨0,some 55,.mv (.t 8),some (46,true)⟩,⟨0,some 56,
 (.callf false (.c (.fn (.func 11) [] [])) [.t 54,.t 55] []),some (46,true)⟩,⟨0,some 57,.pick (.t 46) (.t 56) (.c (.bool false)),none⟩])
 (.cond (.t 57) (.reg [] false [⟨0,some 7,.mv (.c (.int .i64 16)),none⟩]) .skip)) (.seq (.reg [] false [⟨0,some 59,.mv (.t 1),none⟩,⟨0,(some
 60),.bin .geq (.t 59) (.c (.int .i64 32)),none⟩,⟨0,some 61,.mv (.t 60),none⟩,⟨0,some 62,.mv (.t 2),some (61,false)⟩,⟨0,some 63,
 (.bin .geq (.t 62) (.c (.int .i64 32))),some (61,false)⟩,⟨0,some 64,.pick (.t 61) (.c (.bool true)) (.t 63),none⟩,⟨0,some 58,.mv (.t 64),
 none⟩]) (.cond (.t 58) .skip (.seq (.reg [] false [⟨0,some 66,.mv (.t 1),none⟩,⟨0,some 67,.bin .rem (.t 66) (.c (.int .i64 2)),none⟩,⟨0,
 (some 68),.bin .eql (.t 67) (.c (.int .i64 0)),none⟩,⟨0,some 69,.mv (.t 68),none⟩,⟨0,some 70,.mv (.t 2),some (69,true)⟩,⟨0,(some
 71),.mv (.t 1),some (69,true)⟩,⟨0,some 72,.bin .add (.t 71) (.c (.int .i64 1)),some (69,true)⟩,⟨0,some 73,.bin .eql (.t 70) (.t
 72),some (69,true)⟩,⟨0,some 74,.pick (.t 69) (.t 73) (.c (.bool false)),none⟩,⟨0,some 65,.mv (.t 74),none⟩]) (.cond (.t 65) (.seq (.reg
 [] false [⟨0,some 7,.mv (.c (.int .i64 1)),none⟩]) (.seq (.reg [] false [⟨0,some 75,.mv (.t 0),none⟩,⟨0,some 76,.nilck (.t 75),none⟩,
 ⟨0,some 77,.fld 0 (.t 76),none⟩,⟨0,some 78,.load false 1 (.t 77),none⟩,⟨0,some 79,.nilck (.t 78),none⟩,⟨0,some 80,.fld 0 (.t
 79),none⟩,⟨0,some 81,.fld 5 (.t 80),none⟩,⟨0,some 82,.load false 1 (.t 81),none⟩,⟨0,some 83,.mv (.t 8),none⟩,⟨0,some 84,
 (.callf false (.c (.fn (.func 11) [] [])) [.t 82,.t 83] []),none⟩]) (.cond (.t 84) (.reg [] false [⟨0,some 7,.mv (.c (.int .i64 16)),none⟩])
 .skip))) (.seq (.reg [] false [⟨0,some 86,.mv (.t 1),none⟩,⟨0,some 87,.bin .rem (.t 86) (.c (.int .i64 2)),none⟩,⟨0,some 88,(.bin .eql
 (.t 87) (.c (.int .i64 1))),none⟩,⟨0,some 89,.mv (.t 88),none⟩,⟨0,some 90,.mv (.t 2),some (89,true)⟩,⟨0,some 91,(.bin .rem (.t 90)
 (.c (.int .i64 2))),some (89,true)⟩,⟨0,some 92,.bin .eql (.t 91) (.c (.int .i64 0)),some (89,true)⟩,⟨0,some 93,(.pick (.t 89) (.t 92)
 (.c (.bool false))),none⟩,⟨0,some 94,.mv (.t 93),none⟩,⟨0,some 95,.mv (.t 0),some (94,true)⟩,⟨0,some 96,.nilck (.t 95),(some
 (94,true))⟩,⟨0,some 97,.fld 0 (.t 96),some (94,true)⟩,⟨0,some 98,.load false 1 (.t 97),some (94,true)⟩,⟨0,some 99,.mv (.t 8),
 (some (94,true))⟩,⟨0,some 100,.nilck (.t 98),some (94,true)⟩,⟨0,some 101,.fld 6 (.t 100),some (94,true)⟩,⟨0,some 102,(.idxa 16 1
 (.t 101) (.t 99)),some (94,true)⟩,⟨0,some 103,.load false 1 (.t 102),some (94,true)⟩,⟨0,some 104,.mv (.t 9),some (94,true)⟩,⟨0,
 (some 105),(.callf false (.c (.fn (.func 11) [] [])) [.t 103,.t 104] []),some (94,true)⟩,⟨0,some 106,.pick (.t 94) (.t 105) (.c (.bool
 false)),none⟩,⟨0,some 85,.mv (.t 106),none⟩]) (.cond (.t 85) (.reg [] false [⟨0,some 7,.mv (.c (.int .i64 16)),none⟩]) .skip))))))))))))
 (.seq (.reg [] true [⟨0,some 107,.mv (.t 7),none⟩,⟨1,some 108,.mv (.t 0),none⟩,⟨2,some 109,.mv (.t 1),none⟩,⟨3,some 110,.mv (.t
 2),none⟩,⟨4,some 111,.nilck (.t 108),none⟩,⟨5,some 112,.fld 1 (.t 111),none⟩,⟨6,some 113,.idxa 34 34 (.t 112) (.t 109),none⟩,⟨7,
 (some 114),.idxa 34 1 (.t 113) (.t 110),none⟩,⟨8,some 115,.load false 1 (.t 114),none⟩,⟨9,some 116,.bin .sub (.t 107) (.t 115),none⟩,
 ⟨10,some 117,.mv (.t 0),none⟩,⟨11,some 118,.mv (.t 2),none⟩,⟨12,some 119,.mv (.t 1),none⟩,⟨13,some 120,.nilck (.t 117),none⟩,
 ⟨14,some 121,.fld 1 (.t 120),none⟩,⟨15,some 122,.idxa 34 34 (.t 121) (.t 118),none⟩,⟨16,some 123,.idxa 34 1 (.t 122) (.t 119),none⟩,
 ⟨17,some 124,.load false 1 (.t 123),none⟩,⟨18,some 125,.bin .add (.t 116) (.t 124),none⟩,⟨19,some 6,.mv (.t 125),none⟩]) .ret)))),none⟩
theorem aPC:cT prog 40 x40.fn:=⟨fun vs w=>call40 vs w,_,_,func40,rfl,rfl,by kernel_rfl,by kernel_rfl⟩
theorem aOC:gH x40=true:=by kernel_rfl
theorem aNm:aT x40 x40.body:=(aB rfl)

def x41:XFn:=⟨26,[(6,none)],false,false,
 (.seq (.reg [] false [⟨0,some 3,.box (.t 0),none⟩,⟨0,some 6,.mv (.c (.int .i64 0)),none⟩]) (.seq (.block 0 (.seq (.reg [] false [⟨0,some 8,
 (.mv (.t 1)),none⟩,⟨0,some 9,.fld 0 (.t 3),none⟩,⟨0,some 10,.load false 1 (.t 9),none⟩,⟨0,some 11,.bin .sub (.t 10) (.c (.int .i64
 1)),none⟩,⟨0,some 12,(.callf false (.c (.fn (.func 20) [] [])) [.c (.int .i64 0),.t 8,.t 11] []),none⟩,⟨0,some 13,.not (.t 12),
 none⟩,⟨0,some 14,.mv (.t 13),none⟩,⟨0,some 15,.mv (.t 2),some (14,false)⟩,⟨0,some 16,.fld 0 (.t 3),some (14,false)⟩,⟨0,(some
 17),.load false 1 (.t 16),some (14,false)⟩,⟨0,some 18,.bin .sub (.t 17) (.c (.int .i64 1)),some (14,false)⟩,⟨0,some 19,(.callf false
 (.c (.fn (.func 20) [] [])) [.c (.int .i64 0),.t 15,.t 18] []),some (14,false)⟩,⟨0,some 20,.not (.t 19),some (14,false)⟩,⟨0,(some
 21),.pick (.t 14) (.c (.bool true)) (.t 20),none⟩,⟨0,some 7,.mv (.t 21),none⟩]) (.cond (.t 7) (.seq (.reg [] false [⟨0,some 6,.mv (.c (.int
 .i64 5)),none⟩]) .ret) (.seq (.reg [] false [⟨0,some 23,.mv (.t 1),none⟩,⟨0,some 24,.mv (.t 2),none⟩,⟨0,some 25,.bin .eql (.t 23) (.t
 24),none⟩,⟨0,some 22,.mv (.t 25),none⟩]) (.cond (.t 22) (.seq (.reg [] false [⟨0,some 6,.mv (.c (.int .i64 22)),none⟩]) .ret) .skip)))))
 (.seq (.reg [] false [⟨0,some 6,.mv (.c (.int .i64 0)),none⟩]) .ret))),none⟩
theorem aPB:cT prog 41 x41.fn:=⟨fun vs w=>call41 vs w,_,_,func41,rfl,rfl,by kernel_rfl,by kernel_rfl⟩
theorem aOB:gH x41=true:=by kernel_rfl
theorem aNl:aT x41 x41.body:=(aB rfl)

def aDc:XCode :=
 (.loop [0,13] (.seq (.reg [] false [⟨0,some 14,.recv true (.agg [.int .i64 0,(.int .i64 0)]) (.t 13),none⟩,⟨0,some 15,.ext (.t 14) 1,
 none⟩]) (.seq (.cond (.t 15) .skip (.exit 0)) (.block 1 (.seq (.reg [] false [⟨0,some 16,.ext (.t 14) 0,none⟩,⟨0,some 6,(.alloc [.int .i64 0,
 (.int .i64 0)]),none⟩,⟨0,none,(.store 2 (.t 6) (.t 16) []),none⟩]) (.seq (.reg [(6,true)] false [⟨0,some 17,.mv (.t 0),none⟩,⟨0,some 18,
 (.load true 2 (.t 6)),none⟩,⟨0,some 19,(.callf false (.t 17) [.t 18] []),none⟩,⟨0,some 20,.not (.t 19),none⟩]) (.cond (.t 20) .ret
 .skip)))))))
def x42:XFn:=⟨21,[],false,false,
 (.seq (.reg [] false [⟨0,some 7,.mkchan 16,none⟩,⟨0,some 5,.mv (.t 7),none⟩]) (.seq (.reg [(1,true),(2,true),(3,true),(5,false)] false
 [⟨0,some 8,.load true 6 (.t 1),none⟩,⟨0,some 9,.load false 1 (.t 2),none⟩,⟨0,some 10,.load false 1 (.t 3),none⟩,⟨0,some 11,(.mv
 (.t 5)),none⟩,⟨0,some 12,(.callf false (.c (.fn (.func 43) [] [])) [.t 8,.t 9,.t 10,.t 11] []),none⟩]) (.seq (.reg [] false [⟨0,(some
 13),.mv (.t 5),none⟩]) (.block 0 aDc)))),none⟩
theorem aPA:cT prog 42 x42.fn:=⟨fun vs w=>call42 vs w,_,_,func42,rfl,rfl,by kernel_rfl,by kernel_rfl⟩
theorem aOA:gH x42=true:=by kernel_rfl
theorem aNk:aT x42 x42.body:=(aB rfl)

def aJv:XCode :=
 (.loop [1,4,7,8,10,11,13,30,31,36,37,38,42,43] (.seq (.reg [] false [⟨0,some 44,.bin .lss (.t 43) (.c (.int .i64 2)),none⟩]) (.seq (.cond
 (.t 44) .skip (.exit 6)) (.seq (.block 7 (.seq (.reg [] false [⟨0,some 45,.mv (.t 43),none⟩,⟨0,some 46,.idxv false 2 1 (.t 42) (.t 43),none⟩,
 ⟨0,some 14,.mv (.t 45),none⟩,⟨0,some 15,.mv (.t 46),none⟩]) (.seq (.reg [(15,false)] false [⟨0,some 47,.mv (.t 11),none⟩,⟨0,(some
 48),.mv (.t 15),none⟩,⟨0,some 49,(.callf false (.c (.fn (.func 11) [] [])) [.t 47,.t 48] []),none⟩]) (.cond (.t 49) (.reg [] false [⟨0,(some
 50),.mv (.t 8),none⟩,⟨0,some 51,.mv (.t 14),none⟩,⟨0,some 52,.bin .sub (.c (.int .i64 1)) (.t 51),none⟩,⟨0,some 53,.idxa 2 1 (.t
 13) (.t 52),none⟩,⟨0,some 54,.load false 1 (.t 53),none⟩,⟨0,some 55,(.callf false (.c (.fn (.func 13) [] [])) [.t 54] []),none⟩,⟨0,(some
 56),.bin .or (.t 50) (.t 55),none⟩,⟨0,some 8,.mv (.t 56),none⟩]) .skip)))) (.reg [] false [⟨0,some 57,.bin .add (.t 43) (.c (.int .i64
 1)),none⟩,⟨0,some 43,.mv (.t 57),none⟩])))))
def aDb:XCode :=
 (.loop [1,4,7,8,10,11,30,31,36,37,38] (.seq (.reg [] false [⟨0,some 39,.bin .lss (.t 38) (.t 37),none⟩]) (.seq (.cond (.t 39) .skip (.exit
 4)) (.seq (.block 5 (.seq (.reg [] false [⟨0,some 40,.idx 2 (.t 36) (.t 38),none⟩,⟨0,some 41,.load true 2 (.t 40),none⟩,⟨0,some 13,
 (.alloc [.int .i64 0,.int .i64 0]),none⟩,⟨0,none,(.store 2 (.t 13) (.t 41) []),none⟩]) (.seq (.reg [] false [⟨0,some 42,.load true 2 (.t
 13),none⟩,⟨0,some 43,.mv (.c (.int .i64 0)),none⟩]) (.block 6 aJv)))) (.reg [] false [⟨0,some 58,.bin .add (.t 38) (.c (.int .i64 1)),
 none⟩,⟨0,some 38,.mv (.t 58),none⟩])))))
def yM:XCode :=
 (.loop [1,4,7,8,10,11,30,31,63,64,65] (.seq (.reg [] false [⟨0,some 66,.bin .lss (.t 65) (.t 64),none⟩]) (.seq (.cond (.t 66) .skip (.exit
 8)) (.seq (.block 9 (.seq (.reg [] false [⟨0,some 67,.idx 3 (.t 63) (.t 65),none⟩,⟨0,some 68,.load true 3 (.t 67),none⟩,⟨0,some 17,
 (.alloc [.int .i64 0,.int .i64 0,.int .i64 0]),none⟩,⟨0,none,(.store 3 (.t 17) (.t 68) []),none⟩]) (.seq (.reg [(17,true)] false [⟨0,(some
 69),.fld 0 (.t 17),none⟩,⟨0,some 70,.load false 1 (.t 69),none⟩,⟨0,some 71,.load false 1 (.t 10),none⟩,⟨0,some 72,.bin .eql (.t
 70) (.t 71),none⟩,⟨0,some 73,.mv (.t 72),none⟩,⟨0,some 74,.mv (.t 8),some (73,true)⟩,⟨0,some 75,.fld 1 (.t 17),some (73,
 true)⟩,⟨0,some 76,.load false 1 (.t 75),some (73,true)⟩,⟨0,some 77,(.callf false (.c (.fn (.func 11) [] [])) [.t 74,.t 76] []),(some
 (73,true))⟩,⟨0,some 78,.pick (.t 73) (.t 77) (.c (.bool false)),none⟩]) (.cond (.t 78) (.reg [(17,true)] false [⟨0,some 79,.mv (.t 8),
 none⟩,⟨0,some 80,.fld 2 (.t 17),none⟩,⟨0,some 81,.load false 1 (.t 80),none⟩,⟨0,some 82,(.callf false (.c (.fn (.func 13) [] [])) [(.t
 81)] []),none⟩,⟨0,some 83,.mv (.t 1),none⟩,⟨0,some 84,.bin .andNot (.t 82) (.t 83),none⟩,⟨0,some 85,.bin .or (.t 79) (.t 84),none⟩,
 ⟨0,some 8,.mv (.t 85),none⟩]) .skip)))) (.reg [] false [⟨0,some 86,.bin .add (.t 65) (.c (.int .i64 1)),none⟩,⟨0,some 65,.mv (.t 86),
 none⟩])))))
def aDa:XCode :=
 (.loop [1,4,7,8,30,31] (.seq (.reg [] false [⟨0,some 32,.bin .lss (.t 31) (.t 30),none⟩]) (.seq (.cond (.t 32) .skip (.exit 2)) (.seq (.block 3
 (.seq (.reg [] false [⟨0,some 33,.mv (.t 31),none⟩,⟨0,some 10,(.alloc [.int .i64 0]),none⟩,⟨0,none,(.store 1 (.t 10) (.t 33) []),none⟩])
 (.seq (.reg [] false [⟨0,some 34,.mv (.t 8),none⟩,⟨0,some 11,.mv (.t 34),none⟩]) (.seq (.seq (.reg [] false [⟨0,some 35,.fld 1 (.t 4),
 none⟩,⟨0,some 36,.load false 1 (.t 35),none⟩,⟨0,some 37,.len false (.t 36),none⟩,⟨0,some 38,.mv (.c (.int .i64 0)),none⟩]) (.block 4
 aDb)) (.seq (.reg [] false [⟨0,some 59,.mv (.t 8),none⟩,⟨0,some 60,.mv (.t 1),none⟩,⟨0,some 61,.bin .andNot (.t 59) (.t 60),none⟩,
 ⟨0,some 8,.mv (.t 61),none⟩]) (.seq (.seq (.reg [] false [⟨0,some 62,.fld 2 (.t 4),none⟩,⟨0,some 63,.load false 1 (.t 62),none⟩,⟨0,
 (some 64),.len false (.t 63),none⟩,⟨0,some 65,.mv (.c (.int .i64 0)),none⟩]) (.block 8 yM)) (.seq (.reg [] false [⟨0,some 87,.mv (.t
 8),none⟩,⟨0,some 88,.mv (.t 11),none⟩,⟨0,some 89,.bin .andNot (.t 87) (.t 88),none⟩,⟨0,some 90,(.callf false (.c (.fn (.func 27) []
 [])) [.t 89] []),none⟩]) (.block 10 (.rng 1 [7,10] (.t 90) [91] (.reg [] false [⟨0,some 18,.mv (.t 91),none⟩]) (.block 11 (.reg [] false [⟨0,
 (some 92),.load false 1 (.t 7),none⟩,⟨0,some 93,.mv (.t 18),none⟩,⟨0,some 94,.load false 1 (.t 10),none⟩,⟨0,some 95,.bin .add (.t
 94) (.c (.int .i64 1)),none⟩,⟨0,some 96,(.build [.int .i64 0,.int .i64 0] [(0,(1,(.t 93))),(1,(1,(.t 95)))]),none⟩,⟨0,none,.send (.t
 92) (.t 96),none⟩]))))))))))) (.reg [] false [⟨0,some 97,.bin .add (.t 31) (.c (.int .i64 1)),none⟩,⟨0,some 31,.mv (.t 97),none⟩])))))
def x43:XFn:=⟨98,[],false,false,
 (.seq (.reg [] false [⟨0,some 20,.fld 3 (.t 4),none⟩,⟨0,some 21,.load false 1 (.t 20),none⟩,⟨0,some 22,.mv (.t 1),none⟩,⟨0,some 23,
 (.bin .andNot (.t 21) (.t 22)),none⟩,⟨0,some 8,.mv (.t 23),none⟩]) (.seq (.seq (.reg [] false [⟨0,some 24,.mv (.t 8),none⟩,⟨0,some 25,
 (.callf false (.c (.fn (.func 27) [] [])) [.t 24] []),none⟩]) (.block 0 (.rng 0 [7] (.t 25) [26] (.reg [] false [⟨0,some 9,.mv (.t 26),none⟩])
 (.block 1 (.reg [] false [⟨0,some 27,.load false 1 (.t 7),none⟩,⟨0,some 28,.mv (.t 9),none⟩,⟨0,some 29,(.build [.int .i64 0,(.int
 .i64 0)] [(0,(1,(.t 28))),(1,(1,(.c (.int .i64 0))))]),none⟩,⟨0,none,.send (.t 27) (.t 29),none⟩]))))) (.seq (.reg [] false [⟨0,some 30,(.mv
 (.t 2)),none⟩,⟨0,some 31,.mv (.c (.int .i64 0)),none⟩]) (.block 2 aDa)))),some ([⟨0,(some 4),(.box (.t 0)),none⟩,⟨0,(some 7),(.box (.t 3)),none⟩,⟨0,(some 19),(.load false 1 (.t 7)),none⟩],19)⟩
theorem aPz:cT prog 43 x43.fn:=⟨fun vs w=>call43 vs w,_,_,func43,rfl,rfl,by kernel_rfl,by kernel_rfl⟩
theorem aOz:gH x43=true:=by kernel_rfl
theorem aNj:aT x43 x43.body:=⟨aB rfl,⟨⟨aB rfl,⟨by kernel_rfl,aB rfl,aB rfl⟩⟩,⟨aB rfl,⟨aB rfl,⟨aB rfl,⟨⟨aB rfl,⟨aB rfl,⟨aB rfl,⟨aB rfl,⟨aB rfl,⟨aB rfl,⟨by kernel_rfl,aB rfl,aB rfl⟩⟩⟩⟩⟩⟩⟩,aB rfl⟩⟩⟩⟩⟩⟩

def x44l0:XCode :=
 (.loop [1,2,8,14,15,16,23,24,25] (.seq (.reg [] false [⟨0,some 26,.bin .lss (.t 25) (.t 24),none⟩]) (.seq (.cond (.t 26) .skip (.exit 2)) (.seq
 (.block 3 (.seq (.reg [] false [⟨0,some 27,.mv (.t 25),none⟩,⟨0,some 28,.idx 1 (.t 23) (.t 25),none⟩,⟨0,some 29,.load false 1 (.t 28),
 none⟩,⟨0,some 9,.mv (.t 27),none⟩,⟨0,some 10,.mv (.t 29),none⟩]) (.block 4 (.seq (.reg [(10,false)] false [⟨0,some 31,.mv (.t 1),
 none⟩,⟨0,some 32,.mv (.t 10),none⟩,⟨0,some 33,(.callf false (.t 31) [.t 32] []),none⟩,⟨0,some 34,.not (.t 33),none⟩,⟨0,some 30,
 (.mv (.t 34)),none⟩]) (.cond (.t 30) (.seq (.reg [] false [⟨0,some 6,.mv (.c (.int .i64 2)),none⟩]) .ret) (.seq (.reg [(10,false)] false [⟨0,(some
 36),.mv (.t 9),none⟩,⟨0,some 37,.bin .gtr (.t 36) (.c (.int .i64 0)),none⟩,⟨0,some 38,.mv (.t 37),none⟩,⟨0,some 39,.mv (.t 2),
 (some (38,true))⟩,⟨0,some 40,.mv (.t 10),some (38,true)⟩,⟨0,some 41,.mv (.t 8),some (38,true)⟩,⟨0,some 42,.mv (.t 9),(some
 (38,true))⟩,⟨0,some 43,.bin .sub (.t 42) (.c (.int .i64 1)),some (38,true)⟩,⟨0,some 44,.idx 1 (.t 41) (.t 43),some (38,true)⟩,⟨0,
 (some 45),.load false 1 (.t 44),some (38,true)⟩,⟨0,some 46,(.callf false (.t 39) [.t 40,.t 45] []),some (38,true)⟩,⟨0,some 47,
 (.not (.t 46)),some (38,true)⟩,⟨0,some 48,.pick (.t 38) (.t 47) (.c (.bool false)),none⟩,⟨0,some 35,.mv (.t 48),none⟩]) (.cond (.t 35)
 (.seq (.reg [] false [⟨0,some 6,.mv (.c (.int .i64 7)),none⟩]) .ret) .skip))))))) (.reg [] false [⟨0,some 49,.bin .add (.t 25) (.c (.int .i64
 1)),none⟩,⟨0,some 25,.mv (.t 49),none⟩])))))
def aAO:XCode :=
 (.loop [1,2,14,15,16] (.seq (.reg [] false [⟨0,some 17,.bin .lss (.t 16) (.t 15),none⟩]) (.seq (.cond (.t 17) .skip (.exit 0)) (.seq (.block 1
 (.seq (.reg [] false [⟨0,some 18,.idx 1 (.t 14) (.t 16),none⟩,⟨0,some 19,.load false 1 (.t 18),none⟩,⟨0,some 8,.mv (.t 19),none⟩])
 (.seq (.seq (.reg [] false [⟨0,some 20,.mv (.t 8),none⟩,⟨0,some 21,.len false (.t 20),none⟩,⟨0,some 22,.bin .gtr (.t 21) (.c (.int .i64
 10)),none⟩]) (.cond (.t 22) (.seq (.reg [] false [⟨0,some 6,.mv (.c (.int .i64 1)),none⟩]) .ret) .skip)) (.seq (.reg [] false [⟨0,some 23,(.mv
 (.t 8)),none⟩,⟨0,some 24,.len false (.t 23),none⟩,⟨0,some 25,.mv (.c (.int .i64 0)),none⟩]) (.block 2 x44l0))))) (.reg [] false [⟨0,(some
 50),.bin .add (.t 16) (.c (.int .i64 1)),none⟩,⟨0,some 16,.mv (.t 50),none⟩])))))
def x44:XFn:=⟨51,[(6,none)],false,false,
 (.seq (.reg [] false [⟨0,some 6,.mv (.c (.int .i64 0)),none⟩]) (.seq (.seq (.reg [] false [⟨0,some 11,.mv (.t 0),none⟩,⟨0,some 12,(.len
 false (.t 11)),none⟩,⟨0,some 13,.bin .gtr (.t 12) (.c (.int .i64 12)),none⟩]) (.cond (.t 13) (.seq (.reg [] false [⟨0,some 6,.mv (.c (.int
 .i64 1)),none⟩]) .ret) .skip)) (.seq (.seq (.reg [] false [⟨0,some 14,.mv (.t 0),none⟩,⟨0,some 15,.len false (.t 14),none⟩,⟨0,some 16,
 (.mv (.c (.int .i64 0))),none⟩]) (.block 0 aAO)) (.seq (.reg [] false [⟨0,some 6,.mv (.c (.int .i64 0)),none⟩]) .ret)))),none⟩
theorem aPy:cT prog 44 x44.fn:=⟨fun vs w=>call44 vs w,_,_,func44,rfl,rfl,by kernel_rfl,by kernel_rfl⟩
theorem aOy:gH x44=true:=by kernel_rfl
theorem aNi:aT x44 x44.body:=(aB rfl)

def x45:XFn:=⟨5,[(2,none)],false,false,
 (.seq (.reg [] false [⟨0,some 2,.mv (.c (.bool false)),none⟩]) (.seq (.reg [(0,false)] false [⟨0,some 3,.mv (.t 0),none⟩,⟨0,some 4,(.callf
 false (.c (.fn (.func 32) [] [])) [.c (.int .i64 0),.t 3,.c (.int .i64 1000000)] []),none⟩,⟨0,some 2,.mv (.t 4),none⟩]) .ret)),none⟩
theorem aPx:cT prog 45 x45.fn:=⟨fun vs w=>call45 vs w,_,_,func45,rfl,rfl,by kernel_rfl,by kernel_rfl⟩
theorem aOx:gH x45=true:=by kernel_rfl
theorem aNh:aT x45 x45.body:=(aB rfl)

def x46:XFn:=⟨8,[(4,none)],false,false,
 (.seq (.reg [] false [⟨0,some 4,.mv (.c (.bool false)),none⟩]) (.seq (.reg [] false [⟨0,some 5,.mv (.t 0),none⟩,⟨0,some 6,.mv (.t 1),
 none⟩,⟨0,some 7,.bin .leq (.t 5) (.t 6),none⟩,⟨0,some 4,.mv (.t 7),none⟩]) .ret)),none⟩
theorem aPw:cT prog 46 x46.fn:=⟨fun vs w=>call46 vs w,_,_,func46,rfl,rfl,by kernel_rfl,by kernel_rfl⟩
theorem aOw:gH x46=true:=by kernel_rfl
theorem aNg:aT x46 x46.body:=(aB rfl)

def x47:XFn:=⟨9,[],true,false,
 (.reg [] false [⟨0,some 4,.mv (.t 0),none⟩,⟨0,some 5,.mv (.t 0),none⟩,⟨0,some 6,.len false (.t 5),none⟩,⟨0,some 7,.mv (.t 1),
 none⟩,⟨0,some 8,(.callf false (.c (.fn (.func 54) [] [])) [.t 4,.t 6,.t 7] []),none⟩]),none⟩
theorem aPv:cT prog 47 x47.fn:=⟨fun vs w=>call47 vs w,_,_,func47,rfl,rfl,by kernel_rfl,by kernel_rfl⟩
theorem aOv:gH x47=true:=by kernel_rfl
theorem aNf:aT x47 x47.body:=(aB rfl)

def x48:XFn:=⟨30,[(5,none)],false,false,
 (.seq (.reg [] false [⟨0,some 3,.box (.t 0),none⟩,⟨0,some 4,.box (.t 1),none⟩,⟨0,some 5,.mv (.c (.int .i64 0)),none⟩]) (.seq (.seq
 (.reg [] false [⟨0,some 6,.load true 2 (.t 3),none⟩,⟨0,some 7,.load true 2 (.t 4),none⟩,⟨0,some 8,(.eqag false [0,0] (.t 6) (.t 7)),
 none⟩]) (.cond (.t 8) (.seq (.reg [] false [⟨0,some 5,.mv (.c (.int .i64 0)),none⟩]) .ret) .skip)) (.seq (.reg [(4,true),(3,true)] true [⟨0,(some
 9),.fld 0 (.t 4),none⟩,⟨1,some 10,.load false 1 (.t 9),none⟩,⟨2,some 11,.fld 0 (.t 3),none⟩,⟨3,some 12,.load false 1 (.t 11),
 none⟩,⟨4,some 13,.bin .sub (.t 10) (.t 12),none⟩,⟨5,some 14,.load false 1 (.t 2),none⟩,⟨6,some 15,.fld 1 (.t 4),none⟩,⟨7,(some
 16),.load false 1 (.t 15),none⟩,⟨9,some 18,.load false 1 (.t 2),none⟩,⟨10,some 19,.fld 1 (.t 3),none⟩,⟨11,some 20,(.load false 1
 (.t 19)),none⟩,⟨14,some 23,.fld 1 (.t 3),none⟩,⟨15,some 24,.load false 1 (.t 23),none⟩,⟨16,some 25,.fld 1 (.t 4),none⟩,⟨17,(some
 26),.load false 1 (.t 25),none⟩,⟨18,some 27,.bin .sub (.t 24) (.t 26),none⟩,⟨8,some 17,(.callf false (.t 14) [.t 16] [1,3,9,11,15,
 17]),none⟩,⟨12,some 21,(.callf false (.t 18) [.t 20] [1,3,15,17]),none⟩,⟨13,some 22,.bin .sub (.t 17) (.t 21),none⟩,⟨19,some 28,
 (.bslice 1 3 [.int .i64 0] [(0,(1,(.t 13))),(1,(1,(.t 22))),(2,(1,(.t 27)))]),none⟩,⟨20,some 29,(.callf false (.c (.fn (.func 49) [] []))
 [.t 28] []),none⟩,⟨21,some 5,.mv (.t 29),none⟩]) .ret))),none⟩
theorem aPu:cT prog 48 x48.fn:=⟨fun vs w=>call48 vs w,_,_,func48,rfl,rfl,by kernel_rfl,by kernel_rfl⟩
theorem aOu:gH x48=true:=by kernel_rfl
theorem aNe:aT x48 x48.body:=(aB rfl)

def x49l0:XCode :=
 (.loop [3,6,7,8] (.seq (.reg [] false [⟨0,some 9,.bin .lss (.t 8) (.t 7),none⟩]) (.seq (.cond (.t 9) .skip (.exit 0)) (.seq (.block 1 (.seq (.reg []
 false [⟨0,some 10,.idx 1 (.t 6) (.t 8),none⟩,⟨0,some 11,.load false 1 (.t 10),none⟩,⟨0,some 5,.mv (.t 11),none⟩]) (.seq (.reg []
 false [⟨0,some 12,.mv (.t 5),none⟩,⟨0,some 13,.mv (.t 3),none⟩,⟨0,some 14,.bin .neq (.t 12) (.t 13),none⟩]) (.cond (.t 14) (.seq
 (.reg [] false [⟨0,some 15,.mv (.t 5),none⟩,⟨0,some 2,.mv (.t 15),none⟩]) .ret) .skip)))) (.reg [] false [⟨0,some 16,(.bin .add (.t 8)
 (.c (.int .i64 1))),none⟩,⟨0,some 8,.mv (.t 16),none⟩])))))
def x49:XFn:=⟨18,[(2,none)],false,false,
 (.seq (.reg [] false [⟨0,some 2,.mv (.c (.int .i64 0)),none⟩]) (.seq (.reg [] false [⟨0,some 3,.mv (.c (.int .i64 0)),none⟩]) (.seq (.seq (.reg
 [] false [⟨0,some 6,.mv (.t 0),none⟩,⟨0,some 7,.len false (.t 6),none⟩,⟨0,some 8,.mv (.c (.int .i64 0)),none⟩]) (.block 0 x49l0))
 (.seq (.reg [] false [⟨0,some 17,.mv (.t 3),none⟩,⟨0,some 2,.mv (.t 17),none⟩]) .ret)))),none⟩
theorem aPt:cT prog 49 x49.fn:=⟨fun vs w=>call49 vs w,_,_,func49,rfl,rfl,by kernel_rfl,by kernel_rfl⟩
theorem aOt:gH x49=true:=by kernel_rfl
theorem aNd:aT x49 x49.body:=(aB rfl)

def x50:XFn:=⟨4,[(2,none)],false,false,
 (.seq (.reg [] false [⟨0,some 1,.box (.t 0),none⟩,⟨0,some 2,.mv (.c .nilfn),none⟩]) (.seq (.reg [] false [⟨0,some 3,(.mkf (.func 55) []
 [.t 1]),none⟩,⟨0,some 2,.mv (.t 3),none⟩]) .ret)),none⟩
theorem aPs:cT prog 50 x50.fn:=⟨fun vs w=>call50 vs w,_,_,func50,rfl,rfl,by kernel_rfl,by kernel_rfl⟩
theorem aOs:gH x50=true:=by kernel_rfl
theorem aNc:aT x50 x50.body:=(aB rfl)

def x51:XFn:=⟨30,[],false,false,
 (.seq (.seq (.reg [(1,true),(2,true)] false [⟨0,some 7,.load false 1 (.t 1),none⟩,⟨0,some 8,.mv (.t 0),none⟩,⟨0,some 9,(.callf false
 (.c (.fn (.func 11) [] [])) [.t 7,.t 8] []),none⟩,⟨0,some 10,.mv (.t 9),none⟩,⟨0,some 11,.load false 1 (.t 2),some (10,false)⟩,⟨0,
 (some 12),.mv (.t 0),some (10,false)⟩,⟨0,some 13,(.callf false (.c (.fn (.func 11) [] [])) [.t 11,.t 12] []),some (10,false)⟩,⟨0,
 (some 14),.pick (.t 10) (.c (.bool true)) (.t 13),none⟩]) (.cond (.t 14) .ret .skip)) (.seq (.reg [] true [⟨0,some 15,.load false 1 (.t 1),none⟩,
 ⟨1,some 16,.mv (.t 0),none⟩,⟨2,some 17,(.callf false (.c (.fn (.func 13) [] [])) [.t 16] [0]),none⟩,⟨3,some 18,.bin .or (.t 15) (.t
 17),none⟩,⟨4,none,(.store 1 (.t 1) (.t 18) []),none⟩]) (.seq (.reg [] false [⟨0,some 19,.load false 1 (.t 3),none⟩,⟨0,some 20,.mv (.t
 0),none⟩,⟨0,some 21,.nilck (.t 19),none⟩,⟨0,some 22,.fld 6 (.t 21),none⟩,⟨0,some 23,.idxa 16 1 (.t 22) (.t 20),none⟩,⟨0,(some
 24),.load false 1 (.t 23),none⟩,⟨0,some 25,(.callf false (.c (.fn (.func 27) [] [])) [.t 24] []),none⟩]) (.block 0 (.rng 0 [4] (.t 25) [26]
 (.reg [] false [⟨0,some 6,.mv (.t 26),none⟩]) (.block 1 (.reg [(6,false)] false [⟨0,some 27,.load false 1 (.t 4),none⟩,⟨0,some 28,(.mv
 (.t 6)),none⟩,⟨0,some 29,(.callf false (.t 27) [.t 28] []),none⟩]))))))),none⟩
theorem aPr:cT prog 51 x51.fn:=⟨fun vs w=>call51 vs w,_,_,func51,rfl,rfl,by kernel_rfl,by kernel_rfl⟩
theorem aOr:gH x51=true:=by kernel_rfl
theorem aNb:aT x51 x51.body:=⟨aB rfl,⟨aB rfl,⟨aB rfl,⟨by kernel_rfl,aB rfl,aB rfl⟩⟩⟩⟩

def x52:XFn:=⟨14,[(2,none)],false,false,
 (.seq (.reg [] false [⟨0,some 2,.mv (.c (.int .i64 0)),none⟩]) (.seq (.seq (.reg [] false [⟨0,some 3,.mv (.t 0),none⟩,⟨0,some 4,(.bin .eql
 (.t 3) (.c (.int .u32 0))),none⟩]) (.cond (.t 4) (.seq (.reg [] false [⟨0,some 2,.mv (.c (.int .i64 32)),none⟩]) .ret) .skip)) (.seq (.reg [] false
 [⟨0,some 5,.mv (.t 0),none⟩,⟨0,some 6,.mv (.t 0),none⟩,⟨0,some 7,.neg (.t 6),none⟩,⟨0,some 8,.bin .and (.t 5) (.t 7),none⟩,
 ⟨0,some 9,.bin .mul (.t 8) (.c (.int .u32 125613361)),none⟩,⟨0,some 10,.bin .shr (.t 9) (.c (.int .u64 27)),none⟩,⟨0,some 11,(.idxa 32 1
 (.c (.fp [[.int .u8 0,.int .u8 1,.int .u8 28,.int .u8 2,.int .u8 29,.int .u8 14,.int .u8 24,.int .u8 3,.int .u8 30,.int .u8 22,
 (.int .u8 20),.int .u8 15,.int .u8 25,.int .u8 17,.int .u8 4,.int .u8 8,.int .u8 31,.int .u8 27,.int .u8 13,.int .u8 23,(.int
 .u8 21),.int .u8 19,.int .u8 16,.int .u8 7,.int .u8 26,.int .u8 12,.int .u8 18,.int .u8 6,.int .u8 11,.int .u8 5,.int .u8 10,
 (.int .u8 9)]] 0 0)) (.t 10)),none⟩,⟨0,some 12,.load false 1 (.t 11),none⟩,⟨0,some 13,.conv .i64 (.t 12),none⟩,⟨0,some 2,.mv (.t
 13),none⟩]) .ret))),none⟩
theorem aPq:cT prog 52 x52.fn:=⟨fun vs w=>call52 vs w,_,_,func52,rfl,rfl,by kernel_rfl,by kernel_rfl⟩
theorem aOq:gH x52=true:=by kernel_rfl
theorem aNa:aT x52 x52.body:=(aB rfl)

def x53:XFn:=⟨14,[(2,none)],false,false,
 (.seq (.reg [] false [⟨0,some 2,.mv (.c (.int .i64 0)),none⟩]) (.seq (.seq (.reg [] false [⟨0,some 3,.mv (.t 0),none⟩,⟨0,some 4,(.bin .eql
 (.t 3) (.c (.int .u64 0))),none⟩]) (.cond (.t 4) (.seq (.reg [] false [⟨0,some 2,.mv (.c (.int .i64 64)),none⟩]) .ret) .skip)) (.seq (.reg [] false
 [⟨0,some 5,.mv (.t 0),none⟩,⟨0,some 6,.mv (.t 0),none⟩,⟨0,some 7,.neg (.t 6),none⟩,⟨0,some 8,.bin .and (.t 5) (.t 7),none⟩,
 ⟨0,some 9,.bin .mul (.t 8) (.c (.int .u64 285870213051353865)),none⟩,⟨0,some 10,.bin .shr (.t 9) (.c (.int .u64 58)),none⟩,⟨0,some 11,
 (.idxa 64 1 (.c (.fp [[.int .u8 0,.int .u8 1,.int .u8 56,.int .u8 2,.int .u8 57,.int .u8 49,.int .u8 28,.int .u8 3,.int .u8 61,
 (.int .u8 58),.int .u8 42,.int .u8 50,.int .u8 38,.int .u8 29,.int .u8 17,.int .u8 4,.int .u8 62,.int .u8 47,.int .u8 59,(.int
 .u8 36),.int .u8 45,.int .u8 43,.int .u8 51,.int .u8 22,.int .u8 53,.int .u8 39,.int .u8 33,.int .u8 30,.int .u8 24,(.int .u8
 18),.int .u8 12,.int .u8 5,.int .u8 63,.int .u8 55,.int .u8 48,.int .u8 27,.int .u8 60,.int .u8 41,.int .u8 37,.int .u8 16,
 (.int .u8 46),.int .u8 35,.int .u8 44,.int .u8 21,.int .u8 52,.int .u8 32,.int .u8 23,.int .u8 11,.int .u8 54,.int .u8 26,(.int
 .u8 40),.int .u8 15,.int .u8 34,.int .u8 20,.int .u8 31,.int .u8 10,.int .u8 25,.int .u8 14,.int .u8 19,.int .u8 9,(.int .u8
 13),.int .u8 8,.int .u8 7,.int .u8 6]] 0 0)) (.t 10)),none⟩,⟨0,some 12,.load false 1 (.t 11),none⟩,⟨0,some 13,.conv .i64 (.t 12),
 none⟩,⟨0,some 2,.mv (.t 13),none⟩]) .ret))),none⟩
theorem aPp:cT prog 53 x53.fn:=⟨fun vs w=>call53 vs w,_,_,func53,rfl,rfl,by kernel_rfl,by kernel_rfl⟩
theorem aOp:gH x53=true:=by kernel_rfl
theorem aMZ:aT x53 x53.body:=(aB rfl)

def x54l0:XCode :=
 (.loop [0,1,2,6,7,8] (.seq (.seq (.reg [] false [⟨0,some 11,.mv (.t 8),none⟩,⟨0,some 12,.mv (.t 1),none⟩,⟨0,some 13,.bin .leq (.t
 11) (.t 12),none⟩]) (.cond (.t 13) .skip (.exit 0))) (.block 1 (.seq (.reg [] false [⟨0,some 14,.mv (.t 0),none⟩,⟨0,some 15,.mv (.t 7),
 none⟩,⟨0,some 16,.mv (.t 8),none⟩,⟨0,some 17,.mv (.t 2),none⟩,⟨0,some 18,(.callf false (.c (.fn (.func 56) [] [])) [.t 14,.t 15,
 (.t 16),.t 17] []),none⟩]) (.seq (.reg [] false [⟨0,some 19,.mv (.t 8),none⟩,⟨0,some 7,.mv (.t 19),none⟩]) (.reg [] false [⟨0,some 20,
 (.mv (.t 8)),none⟩,⟨0,some 21,.mv (.t 6),none⟩,⟨0,some 22,.bin .add (.t 20) (.t 21),none⟩,⟨0,some 8,.mv (.t 22),none⟩]))))))
def aLu:XCode :=
 (.loop [0,1,2,6,7,8] (.seq (.seq (.reg [] false [⟨0,some 33,.mv (.t 8),none⟩,⟨0,some 34,.mv (.t 1),none⟩,⟨0,some 35,.bin .leq (.t
 33) (.t 34),none⟩]) (.cond (.t 35) .skip (.exit 4))) (.block 5 (.seq (.reg [] false [⟨0,some 36,.mv (.t 0),none⟩,⟨0,some 37,.mv (.t 7),
 none⟩,⟨0,some 38,.mv (.t 7),none⟩,⟨0,some 39,.mv (.t 6),none⟩,⟨0,some 40,.bin .add (.t 38) (.t 39),none⟩,⟨0,some 41,.mv (.t
 8),none⟩,⟨0,some 42,.mv (.t 2),none⟩,⟨0,some 43,(.callf false (.c (.fn (.func 57) [] [])) [.t 36,.t 37,.t 40,.t 41,.t 42] []),
 none⟩]) (.seq (.reg [] false [⟨0,some 44,.mv (.t 8),none⟩,⟨0,some 7,.mv (.t 44),none⟩]) (.reg [] false [⟨0,some 45,.mv (.t 8),none⟩,
 ⟨0,some 46,.mv (.t 6),none⟩,⟨0,some 47,.bin .mul (.c (.int .i64 2)) (.t 46),none⟩,⟨0,some 48,.bin .add (.t 45) (.t 47),none⟩,⟨0,
 (some 8),.mv (.t 48),none⟩]))))))
def x54l2:XCode :=
 (.loop [0,1,2,6] (.seq (.seq (.reg [] false [⟨0,some 28,.mv (.t 6),none⟩,⟨0,some 29,.mv (.t 1),none⟩,⟨0,some 30,.bin .lss (.t 28) (.t
 29),none⟩]) (.cond (.t 30) .skip (.exit 2))) (.block 3 (.seq (.reg [] false [⟨0,some 31,.mv (.t 6),none⟩,⟨0,some 32,.bin .mul (.c (.int .i64
 2)) (.t 31),none⟩,⟨0,some 7,.mv (.c (.int .i64 0)),none⟩,⟨0,some 8,.mv (.t 32),none⟩]) (.seq (.block 4 aLu) (.seq (.seq (.reg [] false
 [⟨0,some 49,.mv (.t 7),none⟩,⟨0,some 50,.mv (.t 6),none⟩,⟨0,some 51,.bin .add (.t 49) (.t 50),none⟩,⟨0,some 9,.mv (.t 51),
 none⟩]) (.seq (.reg [] false [⟨0,some 52,.mv (.t 9),none⟩,⟨0,some 53,.mv (.t 1),none⟩,⟨0,some 54,.bin .lss (.t 52) (.t 53),none⟩])
 (.cond (.t 54) (.reg [] false [⟨0,some 55,.mv (.t 0),none⟩,⟨0,some 56,.mv (.t 7),none⟩,⟨0,some 57,.mv (.t 9),none⟩,⟨0,some 58,
 (.mv (.t 1)),none⟩,⟨0,some 59,.mv (.t 2),none⟩,⟨0,some 60,(.callf false (.c (.fn (.func 57) [] [])) [.t 55,.t 56,.t 57,.t 58,(.t
 59)] []),none⟩]) .skip))) (.reg [] false [⟨0,some 61,.mv (.t 6),none⟩,⟨0,some 62,.bin .mul (.t 61) (.c (.int .i64 2)),none⟩,⟨0,some 6,
 (.mv (.t 62)),none⟩])))))))
def x54:XFn:=⟨63,[],true,false,
 (.seq (.reg [] false [⟨0,some 6,.mv (.c (.int .i64 20)),none⟩]) (.seq (.reg [] false [⟨0,some 10,.mv (.t 6),none⟩,⟨0,some 7,.mv (.c (.int
 .i64 0)),none⟩,⟨0,some 8,.mv (.t 10),none⟩]) (.seq (.block 0 x54l0) (.seq (.reg [] false [⟨0,some 23,.mv (.t 0),none⟩,⟨0,some 24,(.mv
 (.t 7)),none⟩,⟨0,some 25,.mv (.t 1),none⟩,⟨0,some 26,.mv (.t 2),none⟩,⟨0,some 27,(.callf false (.c (.fn (.func 56) [] [])) [.t 23,
 (.t 24),.t 25,.t 26] []),none⟩]) (.block 2 x54l2))))),none⟩
theorem aPo:cT prog 54 x54.fn:=⟨fun vs w=>call54 vs w,_,_,func54,rfl,rfl,by kernel_rfl,by kernel_rfl⟩
theorem aOo:gH x54=true:=by kernel_rfl
theorem aMY:aT x54 x54.body:=(aB rfl)

def aAN:XCode :=
 (.loop [0,5,6,7] (.seq (.reg [] false [⟨0,some 8,.bin .lss (.t 7) (.t 6),none⟩]) (.seq (.cond (.t 8) .skip (.exit 0)) (.seq (.block 1 (.seq (.reg []
 false [⟨0,some 9,.idx 2 (.t 5) (.t 7),none⟩,⟨0,some 10,.load true 2 (.t 9),none⟩,⟨0,some 4,(.alloc [.int .i64 0,.int .i64 0]),
 none⟩,⟨0,none,(.store 2 (.t 4) (.t 10) []),none⟩]) (.seq (.reg [(4,true)] false [⟨0,some 11,.mv (.t 0),none⟩,⟨0,some 12,.load true 2 (.t
 4),none⟩,⟨0,some 13,(.callf false (.t 11) [.t 12] []),none⟩,⟨0,some 14,.not (.t 13),none⟩]) (.cond (.t 14) .ret .skip)))) (.reg [] false
 [⟨0,some 15,.bin .add (.t 7) (.c (.int .i64 1)),none⟩,⟨0,some 7,.mv (.t 15),none⟩])))))
def x55:XFn:=⟨16,[],false,false,
 (.seq (.reg [] false [⟨0,some 5,.load false 1 (.t 1),none⟩,⟨0,some 6,.len false (.t 5),none⟩,⟨0,some 7,.mv (.c (.int .i64 0)),none⟩])
 (.block 0 aAN)),none⟩
theorem aPn:cT prog 55 x55.fn:=⟨fun vs w=>call55 vs w,_,_,func55,rfl,rfl,by kernel_rfl,by kernel_rfl⟩
theorem aOn:gH x55=true:=by kernel_rfl
theorem aMX:aT x55 x55.body:=(aB rfl)

def aAM:XCode :=
 (.loop [0,1,2,3,8,9] (.seq (.seq (.reg [] true [⟨0,some 18,.mv (.t 9),none⟩,⟨1,some 19,.mv (.t 1),none⟩,⟨2,some 20,(.bin .gtr (.t 18)
 (.t 19)),none⟩,⟨3,some 21,.mv (.t 20),none⟩,⟨4,some 22,.mv (.t 3),some (21,true)⟩,⟨5,some 23,.mv (.t 0),some (21,true)⟩,⟨6,
 (some 24),.mv (.t 9),some (21,true)⟩,⟨7,some 25,.idx 2 (.t 23) (.t 24),some (21,true)⟩,⟨8,some 26,.load true 2 (.t 25),some (21,
 true)⟩,⟨9,some 27,.mv (.t 0),some (21,true)⟩,⟨10,some 28,.mv (.t 9),some (21,true)⟩,⟨11,some 29,.bin .sub (.t 28) (.c (.int
 .i64 1)),some (21,true)⟩,⟨12,some 30,.idx 2 (.t 27) (.t 29),some (21,true)⟩,⟨13,some 31,.load true 2 (.t 30),some (21,true)⟩,
 ⟨14,some 32,(.callf false (.t 22) [.t 26,.t 31] []),some (21,true)⟩,⟨15,some 33,.bin .lss (.t 32) (.c (.int .i64 0)),some (21,
 true)⟩,⟨16,some 34,.pick (.t 21) (.t 33) (.c (.bool false)),none⟩]) (.cond (.t 34) .skip (.exit 2))) (.seq (.block 3 (.reg [] true [⟨0,some 37,
 (.mv (.t 0)),none⟩,⟨1,some 38,.mv (.t 9),none⟩,⟨2,some 39,.mv (.t 0),none⟩,⟨3,some 40,.mv (.t 9),none⟩,⟨4,some 41,(.bin .sub
 (.t 40) (.c (.int .i64 1))),none⟩,⟨5,some 42,.mv (.t 0),none⟩,⟨6,some 43,.mv (.t 9),none⟩,⟨7,some 44,.bin .sub (.t 43) (.c (.int .i64
 1)),none⟩,⟨8,some 45,.idx 2 (.t 42) (.t 44),none⟩,⟨9,some 46,.load true 2 (.t 45),none⟩,⟨10,some 47,.mv (.t 0),none⟩,⟨11,(some
 48),.mv (.t 9),none⟩,⟨12,some 49,.idx 2 (.t 47) (.t 48),none⟩,⟨13,some 50,.load true 2 (.t 49),none⟩,⟨14,some 51,(.idx 2 (.t 37)
 (.t 38)),none⟩,⟨15,none,(.store 2 (.t 51) (.t 46) []),none⟩,⟨16,some 52,.idx 2 (.t 39) (.t 41),none⟩,⟨17,none,(.store 2 (.t 52) (.t 50) []),
 none⟩])) (.reg [] false [⟨0,some 35,.mv (.t 9),none⟩,⟨0,some 36,.bin .sub (.t 35) (.c (.int .i64 1)),none⟩,⟨0,some 9,.mv (.t 36),
 none⟩]))))
def x56l1:XCode :=
 (.loop [0,1,2,3,8] (.seq (.seq (.reg [] false [⟨0,some 12,.mv (.t 8),none⟩,⟨0,some 13,.mv (.t 2),none⟩,⟨0,some 14,(.bin .lss (.t 12)
 (.t 13)),none⟩]) (.cond (.t 14) .skip (.exit 0))) (.seq (.block 1 (.seq (.reg [] false [⟨0,some 17,.mv (.t 8),none⟩,⟨0,some 9,.mv (.t 17),
 none⟩]) (.block 2 aAM))) (.reg [] false [⟨0,some 15,.mv (.t 8),none⟩,⟨0,some 16,.bin .add (.t 15) (.c (.int .i64 1)),none⟩,⟨0,some 8,
 (.mv (.t 16)),none⟩]))))
def x56:XFn:=⟨53,[],true,false,
 (.seq (.reg [] false [⟨0,some 10,.mv (.t 1),none⟩,⟨0,some 11,.bin .add (.t 10) (.c (.int .i64 1)),none⟩,⟨0,some 8,.mv (.t 11),none⟩])
 (.block 0 x56l1)),none⟩
theorem aPm:cT prog 56 x56.fn:=⟨fun vs w=>call56 vs w,_,_,func56,rfl,rfl,by kernel_rfl,by kernel_rfl⟩
theorem aOm:gH x56=true:=by kernel_rfl
theorem aMW:aT x56 x56.body:=(aB rfl)

def aLt:XCode :=
 (.loop [0,1,4,10,11] (.seq (.seq (.reg [] false [⟨0,some 31,.mv (.t 10),none⟩,⟨0,some 32,.mv (.t 11),none⟩,⟨0,some 33,.bin .lss (.t
 31) (.t 32),none⟩]) (.cond (.t 33) .skip (.exit 0))) (.block 1 (.seq (.reg [] false [⟨0,some 34,.mv (.t 10),none⟩,⟨0,some 35,.mv (.t 11),
 none⟩,⟨0,some 36,.bin .add (.t 34) (.t 35),none⟩,⟨0,some 37,.conv .u64 (.t 36),none⟩,⟨0,some 38,.bin .shr (.t 37) (.c (.int .u64 1)),
 none⟩,⟨0,some 39,.conv .i64 (.t 38),none⟩,⟨0,some 12,.mv (.t 39),none⟩]) (.seq (.reg [] true [⟨0,some 40,.mv (.t 4),none⟩,⟨1,(some
 41),.mv (.t 0),none⟩,⟨2,some 42,.mv (.t 12),none⟩,⟨3,some 43,.idx 2 (.t 41) (.t 42),none⟩,⟨4,some 44,.load true 2 (.t 43),none⟩,
 ⟨5,some 45,.mv (.t 0),none⟩,⟨6,some 46,.mv (.t 1),none⟩,⟨7,some 47,.idx 2 (.t 45) (.t 46),none⟩,⟨8,some 48,.load true 2 (.t
 47),none⟩,⟨9,some 49,(.callf false (.t 40) [.t 44,.t 48] []),none⟩,⟨10,some 50,.bin .lss (.t 49) (.c (.int .i64 0)),none⟩]) (.cond (.t
 50) (.reg [] false [⟨0,some 51,.mv (.t 12),none⟩,⟨0,some 52,.bin .add (.t 51) (.c (.int .i64 1)),none⟩,⟨0,some 10,.mv (.t 52),none⟩])
 (.reg [] false [⟨0,some 53,.mv (.t 12),none⟩,⟨0,some 11,.mv (.t 53),none⟩])))))))
def aLs:XCode :=
 (.loop [0,10,13] (.seq (.seq (.reg [] false [⟨0,some 55,.mv (.t 13),none⟩,⟨0,some 56,.mv (.t 10),none⟩,⟨0,some 57,.bin .sub (.t 56) (.c
 (.int .i64 1)),none⟩,⟨0,some 58,.bin .lss (.t 55) (.t 57),none⟩]) (.cond (.t 58) .skip (.exit 2))) (.seq (.block 3 (.reg [] true [⟨0,some 61,
 (.mv (.t 0)),none⟩,⟨1,some 62,.mv (.t 13),none⟩,⟨2,some 63,.mv (.t 0),none⟩,⟨3,some 64,.mv (.t 13),none⟩,⟨4,some 65,(.bin .add
 (.t 64) (.c (.int .i64 1))),none⟩,⟨5,some 66,.mv (.t 0),none⟩,⟨6,some 67,.mv (.t 13),none⟩,⟨7,some 68,.bin .add (.t 67) (.c (.int
 .i64 1)),none⟩,⟨8,some 69,.idx 2 (.t 66) (.t 68),none⟩,⟨9,some 70,.load true 2 (.t 69),none⟩,⟨10,some 71,.mv (.t 0),none⟩,⟨11,
 (some 72),.mv (.t 13),none⟩,⟨12,some 73,.idx 2 (.t 71) (.t 72),none⟩,⟨13,some 74,.load true 2 (.t 73),none⟩,⟨14,some 75,.idx 2 (.t
 61) (.t 62),none⟩,⟨15,none,(.store 2 (.t 75) (.t 70) []),none⟩,⟨16,some 76,.idx 2 (.t 63) (.t 65),none⟩,⟨17,none,(.store 2 (.t 76) (.t 74)
 []),none⟩])) (.reg [] false [⟨0,some 59,.mv (.t 13),none⟩,⟨0,some 60,.bin .add (.t 59) (.c (.int .i64 1)),none⟩,⟨0,some 13,.mv (.t
 60),none⟩]))))
def aLr:XCode :=
 (.loop [0,2,4,14,15] (.seq (.seq (.reg [] false [⟨0,some 83,.mv (.t 14),none⟩,⟨0,some 84,.mv (.t 15),none⟩,⟨0,some 85,.bin .lss (.t
 83) (.t 84),none⟩]) (.cond (.t 85) .skip (.exit 4))) (.block 5 (.seq (.reg [] false [⟨0,some 86,.mv (.t 14),none⟩,⟨0,some 87,.mv (.t 15),
 none⟩,⟨0,some 88,.bin .add (.t 86) (.t 87),none⟩,⟨0,some 89,.conv .u64 (.t 88),none⟩,⟨0,some 90,.bin .shr (.t 89) (.c (.int .u64 1)),
 none⟩,⟨0,some 91,.conv .i64 (.t 90),none⟩,⟨0,some 16,.mv (.t 91),none⟩]) (.seq (.reg [] true [⟨0,some 92,.mv (.t 4),none⟩,⟨1,(some
 93),.mv (.t 0),none⟩,⟨2,some 94,.mv (.t 2),none⟩,⟨3,some 95,.idx 2 (.t 93) (.t 94),none⟩,⟨4,some 96,.load true 2 (.t 95),none⟩,
 ⟨5,some 97,.mv (.t 0),none⟩,⟨6,some 98,.mv (.t 16),none⟩,⟨7,some 99,.idx 2 (.t 97) (.t 98),none⟩,⟨8,some 100,.load true 2 (.t
 99),none⟩,⟨9,some 101,(.callf false (.t 92) [.t 96,.t 100] []),none⟩,⟨10,some 102,.bin .lss (.t 101) (.c (.int .i64 0)),none⟩,⟨11,
 (some 103),.not (.t 102),none⟩]) (.cond (.t 103) (.reg [] false [⟨0,some 104,.mv (.t 16),none⟩,⟨0,some 105,.bin .add (.t 104) (.c (.int
 .i64 1)),none⟩,⟨0,some 14,.mv (.t 105),none⟩]) (.reg [] false [⟨0,some 106,.mv (.t 16),none⟩,⟨0,some 15,.mv (.t 106),none⟩])))))))
def aLq:XCode :=
 (.loop [0,14,17] (.seq (.seq (.reg [] false [⟨0,some 108,.mv (.t 17),none⟩,⟨0,some 109,.mv (.t 14),none⟩,⟨0,some 110,(.bin .gtr (.t 108)
 (.t 109)),none⟩]) (.cond (.t 110) .skip (.exit 6))) (.seq (.block 7 (.reg [] true [⟨0,some 113,.mv (.t 0),none⟩,⟨1,some 114,.mv (.t 17),
 none⟩,⟨2,some 115,.mv (.t 0),none⟩,⟨3,some 116,.mv (.t 17),none⟩,⟨4,some 117,.bin .sub (.t 116) (.c (.int .i64 1)),none⟩,⟨5,(some
 118),.mv (.t 0),none⟩,⟨6,some 119,.mv (.t 17),none⟩,⟨7,some 120,.bin .sub (.t 119) (.c (.int .i64 1)),none⟩,⟨8,some 121,.idx 2 (.t
 118) (.t 120),none⟩,⟨9,some 122,.load true 2 (.t 121),none⟩,⟨10,some 123,.mv (.t 0),none⟩,⟨11,some 124,.mv (.t 17),none⟩,⟨12,
 (some 125),.idx 2 (.t 123) (.t 124),none⟩,⟨13,some 126,.load true 2 (.t 125),none⟩,⟨14,some 127,.idx 2 (.t 113) (.t 114),none⟩,⟨15,
 none,(.store 2 (.t 127) (.t 122) []),none⟩,⟨16,some 128,.idx 2 (.t 115) (.t 117),none⟩,⟨17,none,(.store 2 (.t 128) (.t 126) []),none⟩])) (.reg
 [] false [⟨0,some 111,.mv (.t 17),none⟩,⟨0,some 112,.bin .sub (.t 111) (.c (.int .i64 1)),none⟩,⟨0,some 17,.mv (.t 112),none⟩]))))
def aLp:XCode :=
 (.loop [0,1,2,3,4,18,19,20,21,22] (.seq (.seq (.reg [] false [⟨0,some 149,.mv (.t 20),none⟩,⟨0,some 150,.mv (.t 21),none⟩,⟨0,(some
 151),.bin .lss (.t 149) (.t 150),none⟩]) (.cond (.t 151) .skip (.exit 8))) (.block 9 (.seq (.reg [] false [⟨0,some 152,.mv (.t 20),none⟩,⟨0,
 (some 153),.mv (.t 21),none⟩,⟨0,some 154,.bin .add (.t 152) (.t 153),none⟩,⟨0,some 155,.conv .u64 (.t 154),none⟩,⟨0,some 156,(.bin
 .shr (.t 155) (.c (.int .u64 1))),none⟩,⟨0,some 157,.conv .i64 (.t 156),none⟩,⟨0,some 23,.mv (.t 157),none⟩]) (.seq (.reg [] true [⟨0,
 (some 158),.mv (.t 4),none⟩,⟨1,some 159,.mv (.t 0),none⟩,⟨2,some 160,.mv (.t 22),none⟩,⟨3,some 161,.mv (.t 23),none⟩,⟨4,(some
 162),.bin .sub (.t 160) (.t 161),none⟩,⟨5,some 163,.idx 2 (.t 159) (.t 162),none⟩,⟨6,some 164,.load true 2 (.t 163),none⟩,⟨7,(some
 165),.mv (.t 0),none⟩,⟨8,some 166,.mv (.t 23),none⟩,⟨9,some 167,.idx 2 (.t 165) (.t 166),none⟩,⟨10,some 168,.load true 2 (.t
 167),none⟩,⟨11,some 169,(.callf false (.t 158) [.t 164,.t 168] []),none⟩,⟨12,some 170,.bin .lss (.t 169) (.c (.int .i64 0)),none⟩,⟨13,
 (some 171),.not (.t 170),none⟩]) (.cond (.t 171) (.reg [] false [⟨0,some 172,.mv (.t 23),none⟩,⟨0,some 173,.bin .add (.t 172) (.c (.int
 .i64 1)),none⟩,⟨0,some 20,.mv (.t 173),none⟩]) (.reg [] false [⟨0,some 174,.mv (.t 23),none⟩,⟨0,some 21,.mv (.t 174),none⟩])))))))
def x57:XFn:=⟨220,[],true,false,
 (.seq (.seq (.reg [] false [⟨0,some 25,.mv (.t 2),none⟩,⟨0,some 26,.mv (.t 1),none⟩,⟨0,some 27,.bin .sub (.t 25) (.t 26),none⟩,⟨0,
 (some 28),.bin .eql (.t 27) (.c (.int .i64 1)),none⟩]) (.cond (.t 28) (.seq (.reg [] false [⟨0,some 29,.mv (.t 2),none⟩,⟨0,some 10,.mv (.t
 29),none⟩]) (.seq (.reg [] false [⟨0,some 30,.mv (.t 3),none⟩,⟨0,some 11,.mv (.t 30),none⟩]) (.seq (.block 0 aLt) (.seq (.seq (.reg []
 false [⟨0,some 54,.mv (.t 1),none⟩,⟨0,some 13,.mv (.t 54),none⟩]) (.block 2 aLs)) .ret)))) .skip)) (.seq (.seq (.reg [] false [⟨0,(some
 77),.mv (.t 3),none⟩,⟨0,some 78,.mv (.t 2),none⟩,⟨0,some 79,.bin .sub (.t 77) (.t 78),none⟩,⟨0,some 80,.bin .eql (.t 79) (.c (.int
 .i64 1)),none⟩]) (.cond (.t 80) (.seq (.reg [] false [⟨0,some 81,.mv (.t 1),none⟩,⟨0,some 14,.mv (.t 81),none⟩]) (.seq (.reg [] false [⟨0,
 (some 82),.mv (.t 2),none⟩,⟨0,some 15,.mv (.t 82),none⟩]) (.seq (.block 4 aLr) (.seq (.seq (.reg [] false [⟨0,some 107,.mv (.t 2),
 none⟩,⟨0,some 17,.mv (.t 107),none⟩]) (.block 6 aLq)) .ret)))) .skip)) (.seq (.reg [] false [⟨0,some 129,.mv (.t 1),none⟩,⟨0,some 130,
 (.mv (.t 3)),none⟩,⟨0,some 131,.bin .add (.t 129) (.t 130),none⟩,⟨0,some 132,.conv .u64 (.t 131),none⟩,⟨0,some 133,(.bin .shr (.t 132)
 (.c (.int .u64 1))),none⟩,⟨0,some 134,.conv .i64 (.t 133),none⟩,⟨0,some 18,.mv (.t 134),none⟩]) (.seq (.reg [] false [⟨0,some 135,(.mv
 (.t 18)),none⟩,⟨0,some 136,.mv (.t 2),none⟩,⟨0,some 137,.bin .add (.t 135) (.t 136),none⟩,⟨0,some 19,.mv (.t 137),none⟩]) (.seq
 (.reg [] false [⟨0,some 20,.mv (.c (.int .i64 0)),none⟩,⟨0,some 21,.mv (.c (.int .i64 0)),none⟩]) (.seq (.seq (.reg [] false [⟨0,some 138,
 (.mv (.t 2)),none⟩,⟨0,some 139,.mv (.t 18),none⟩,⟨0,some 140,.bin .gtr (.t 138) (.t 139),none⟩]) (.cond (.t 140) (.seq (.reg [] false [⟨0,
 (some 141),.mv (.t 19),none⟩,⟨0,some 142,.mv (.t 3),none⟩,⟨0,some 143,.bin .sub (.t 141) (.t 142),none⟩,⟨0,some 20,.mv (.t 143),
 none⟩]) (.reg [] false [⟨0,some 144,.mv (.t 18),none⟩,⟨0,some 21,.mv (.t 144),none⟩])) (.seq (.reg [] false [⟨0,some 145,.mv (.t 1),
 none⟩,⟨0,some 20,.mv (.t 145),none⟩]) (.reg [] false [⟨0,some 146,.mv (.t 2),none⟩,⟨0,some 21,.mv (.t 146),none⟩])))) (.seq (.reg []
 false [⟨0,some 147,.mv (.t 19),none⟩,⟨0,some 148,.bin .sub (.t 147) (.c (.int .i64 1)),none⟩,⟨0,some 22,.mv (.t 148),none⟩]) (.seq
 (.block 8 aLp) (.seq (.reg [] false [⟨0,some 175,.mv (.t 19),none⟩,⟨0,some 176,.mv (.t 20),none⟩,⟨0,some 177,.bin .sub (.t 175) (.t
 176),none⟩,⟨0,some 24,.mv (.t 177),none⟩]) (.seq (.seq (.reg [] false [⟨0,some 178,.mv (.t 20),none⟩,⟨0,some 179,.mv (.t 2),none⟩,
 ⟨0,some 180,.bin .lss (.t 178) (.t 179),none⟩,⟨0,some 181,.mv (.t 180),none⟩,⟨0,some 182,.mv (.t 2),some (181,true)⟩,⟨0,(some
 183),.mv (.t 24),some (181,true)⟩,⟨0,some 184,.bin .lss (.t 182) (.t 183),some (181,true)⟩,⟨0,some 185,.pick (.t 181) (.t 184) (.c
 (.bool false)),none⟩]) (.cond (.t 185) (.reg [(0,false),(4,false)] false [⟨0,some 186,.mv (.t 0),none⟩,⟨0,some 187,.mv (.t 20),none⟩,
 ⟨0,some 188,.mv (.t 2),none⟩,⟨0,some 189,.mv (.t 24),none⟩,⟨0,some 190,.mv (.t 4),none⟩,⟨0,some 191,(.callf false (.c (.fn
 (.func 58) [] [])) [.t 186,.t 187,.t 188,.t 189,.t 190] []),none⟩]) .skip)) (.seq (.seq (.reg [] false [⟨0,some 192,.mv (.t 1),none⟩,
 ⟨0,some 193,.mv (.t 20),none⟩,⟨0,some 194,.bin .lss (.t 192) (.t 193),none⟩,⟨0,some 195,.mv (.t 194),none⟩,⟨0,some 196,.mv (.t
 20),some (195,true)⟩,⟨0,some 197,.mv (.t 18),some (195,true)⟩,⟨0,some 198,.bin .lss (.t 196) (.t 197),some (195,true)⟩,⟨0,(some
 199),.pick (.t 195) (.t 198) (.c (.bool false)),none⟩]) (.cond (.t 199) (.reg [] false [⟨0,some 200,.mv (.t 0),none⟩,⟨0,some 201,.mv (.t
 1),none⟩,⟨0,some 202,.mv (.t 20),none⟩,⟨0,some 203,.mv (.t 18),none⟩,⟨0,some 204,.mv (.t 4),none⟩,⟨0,some 205,(.callf false
 (.c (.fn (.func 57) [] [])) [.t 200,.t 201,.t 202,.t 203,.t 204] []),none⟩]) .skip)) (.seq (.reg [] false [⟨0,some 206,.mv (.t 18),
 none⟩,⟨0,some 207,.mv (.t 24),none⟩,⟨0,some 208,.bin .lss (.t 206) (.t 207),none⟩,⟨0,some 209,.mv (.t 208),none⟩,⟨0,some 210,
 (.mv (.t 24)),some (209,true)⟩,⟨0,some 211,.mv (.t 3),some (209,true)⟩,⟨0,some 212,.bin .lss (.t 210) (.t 211),some (209,true)⟩,
 ⟨0,some 213,.pick (.t 209) (.t 212) (.c (.bool false)),none⟩]) (.cond (.t 213) (.reg [] false [⟨0,some 214,.mv (.t 0),none⟩,⟨0,some 215,
 (.mv (.t 18)),none⟩,⟨0,some 216,.mv (.t 24),none⟩,⟨0,some 217,.mv (.t 3),none⟩,⟨0,some 218,.mv (.t 4),none⟩,⟨0,some 219,
 (.callf false (.c (.fn (.func 57) [] [])) [.t 214,.t 215,.t 216,.t 217,.t 218] []),none⟩]) .skip))))))))))))),none⟩
theorem aPl:cT prog 57 x57.fn:=⟨fun vs w=>call57 vs w,_,_,func57,rfl,rfl,by kernel_rfl,by kernel_rfl⟩
theorem aOl:gH x57=true:=by kernel_rfl
theorem aMV:aT x57 x57.body:=(aB rfl)

def aLo:XCode :=
 (.loop [0,2,4,10,11] (.seq (.seq (.reg [] false [⟨0,some 18,.mv (.t 10),none⟩,⟨0,some 19,.mv (.t 11),none⟩,⟨0,some 20,.bin .neq (.t
 18) (.t 19),none⟩]) (.cond (.t 20) .skip (.exit 0))) (.block 1 (.seq (.reg [] false [⟨0,some 21,.mv (.t 10),none⟩,⟨0,some 22,.mv (.t 11),
 none⟩,⟨0,some 23,.bin .gtr (.t 21) (.t 22),none⟩]) (.cond (.t 23) (.seq (.reg [(0,false),(4,false)] false [⟨0,some 24,.mv (.t 0),none⟩,
 ⟨0,some 25,.mv (.t 2),none⟩,⟨0,some 26,.mv (.t 10),none⟩,⟨0,some 27,.bin .sub (.t 25) (.t 26),none⟩,⟨0,some 28,.mv (.t 2),
 none⟩,⟨0,some 29,.mv (.t 11),none⟩,⟨0,some 30,.mv (.t 4),none⟩,⟨0,some 31,(.callf false (.c (.fn (.func 59) [] [])) [.t 24,.t 27,
 (.t 28),.t 29,.t 30] []),none⟩]) (.reg [] false [⟨0,some 32,.mv (.t 10),none⟩,⟨0,some 33,.mv (.t 11),none⟩,⟨0,some 34,(.bin .sub
 (.t 32) (.t 33)),none⟩,⟨0,some 10,.mv (.t 34),none⟩])) (.seq (.reg [(0,false),(4,false)] false [⟨0,some 35,.mv (.t 0),none⟩,⟨0,(some
 36),.mv (.t 2),none⟩,⟨0,some 37,.mv (.t 10),none⟩,⟨0,some 38,.bin .sub (.t 36) (.t 37),none⟩,⟨0,some 39,.mv (.t 2),none⟩,⟨0,
 (some 40),.mv (.t 11),none⟩,⟨0,some 41,.bin .add (.t 39) (.t 40),none⟩,⟨0,some 42,.mv (.t 10),none⟩,⟨0,some 43,(.bin .sub (.t 41)
 (.t 42)),none⟩,⟨0,some 44,.mv (.t 10),none⟩,⟨0,some 45,.mv (.t 4),none⟩,⟨0,some 46,(.callf false (.c (.fn (.func 59) [] [])) [.t 35,
 (.t 38),.t 43,.t 44,.t 45] []),none⟩]) (.reg [] false [⟨0,some 47,.mv (.t 11),none⟩,⟨0,some 48,.mv (.t 10),none⟩,⟨0,some 49,
 (.bin .sub (.t 47) (.t 48)),none⟩,⟨0,some 11,.mv (.t 49),none⟩])))))))
def x58:XFn:=⟨58,[],false,false,
 (.seq (.reg [] false [⟨0,some 12,.mv (.t 2),none⟩,⟨0,some 13,.mv (.t 1),none⟩,⟨0,some 14,.bin .sub (.t 12) (.t 13),none⟩,⟨0,(some
 10),.mv (.t 14),none⟩]) (.seq (.reg [] false [⟨0,some 15,.mv (.t 3),none⟩,⟨0,some 16,.mv (.t 2),none⟩,⟨0,some 17,(.bin .sub (.t 15)
 (.t 16)),none⟩,⟨0,some 11,.mv (.t 17),none⟩]) (.seq (.block 0 aLo) (.reg [(0,false),(4,false)] false [⟨0,some 50,.mv (.t 0),none⟩,⟨0,
 (some 51),.mv (.t 2),none⟩,⟨0,some 52,.mv (.t 10),none⟩,⟨0,some 53,.bin .sub (.t 51) (.t 52),none⟩,⟨0,some 54,.mv (.t 2),none⟩,
 ⟨0,some 55,.mv (.t 10),none⟩,⟨0,some 56,.mv (.t 4),none⟩,⟨0,some 57,(.callf false (.c (.fn (.func 59) [] [])) [.t 50,.t 53,(.t
 54),.t 55,.t 56] []),none⟩])))),none⟩
theorem aPk:cT prog 58 x58.fn:=⟨fun vs w=>call58 vs w,_,_,func58,rfl,rfl,by kernel_rfl,by kernel_rfl⟩
theorem aOk:gH x58=true:=by kernel_rfl
theorem aMU:aT x58 x58.body:=(aB rfl)

end Go.Proofs.YtmcbhljgkgfanaaDoor
end
section
set_option maxRecDepth 100000
namespace Go.Proofs.YtmcbhljgkgfanaaDoor
open Go Go.DL Go.Proofs.Tryd

def aLn:XCode :=
 (.loop [0,1,2,3,10] (.seq (.seq (.reg [] false [⟨0,some 11,.mv (.t 10),none⟩,⟨0,some 12,.mv (.t 3),none⟩,⟨0,some 13,(.bin .lss (.t 11)
 (.t 12)),none⟩]) (.cond (.t 13) .skip (.exit 0))) (.seq (.block 1 (.reg [] true [⟨0,some 16,.mv (.t 0),none⟩,⟨1,some 17,.mv (.t 1),none⟩,
 ⟨2,some 18,.mv (.t 10),none⟩,⟨3,some 19,.bin .add (.t 17) (.t 18),none⟩,⟨4,some 20,.mv (.t 0),none⟩,⟨5,some 21,.mv (.t 2),
 none⟩,⟨6,some 22,.mv (.t 10),none⟩,⟨7,some 23,.bin .add (.t 21) (.t 22),none⟩,⟨8,some 24,.mv (.t 0),none⟩,⟨9,some 25,.mv (.t
 2),none⟩,⟨10,some 26,.mv (.t 10),none⟩,⟨11,some 27,.bin .add (.t 25) (.t 26),none⟩,⟨12,some 28,.idx 2 (.t 24) (.t 27),none⟩,⟨13,
 (some 29),.load true 2 (.t 28),none⟩,⟨14,some 30,.mv (.t 0),none⟩,⟨15,some 31,.mv (.t 1),none⟩,⟨16,some 32,.mv (.t 10),none⟩,
 ⟨17,some 33,.bin .add (.t 31) (.t 32),none⟩,⟨18,some 34,.idx 2 (.t 30) (.t 33),none⟩,⟨19,some 35,.load true 2 (.t 34),none⟩,⟨20,
 (some 36),.idx 2 (.t 16) (.t 19),none⟩,⟨21,none,(.store 2 (.t 36) (.t 29) []),none⟩,⟨22,some 37,.idx 2 (.t 20) (.t 23),none⟩,⟨23,none,
 (.store 2 (.t 37) (.t 35) []),none⟩])) (.reg [] false [⟨0,some 14,.mv (.t 10),none⟩,⟨0,some 15,.bin .add (.t 14) (.c (.int .i64 1)),none⟩,
 ⟨0,some 10,.mv (.t 15),none⟩]))))
def x59:XFn:=⟨38,[],false,false,
 (.seq (.reg [] false [⟨0,some 10,.mv (.c (.int .i64 0)),none⟩]) (.block 0 aLn)),none⟩
theorem aPj:cT prog 59 x59.fn:=⟨fun vs w=>call59 vs w,_,_,func59,rfl,rfl,by kernel_rfl,by kernel_rfl⟩
theorem aOj:gH x59=true:=by kernel_rfl
theorem aMT:aT x59 x59.body:=(aB rfl)

end Go.Proofs.YtmcbhljgkgfanaaDoor
end
