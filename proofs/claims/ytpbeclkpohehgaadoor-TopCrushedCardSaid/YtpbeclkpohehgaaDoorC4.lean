/- Parts of a proof, joined: G0 G1. No statement of the seed is proved here. -/
import Derived.KernelRfl
import Derived.Test.YtpbeclkpohehgaaDoorProg
import Derived.Test.YtpbeclkpohehgaaDoorC3
set_option linter.unusedSimpArgs false
set_option linter.unusedVariables false
set_option linter.unusedSectionVars false
section
set_option maxRecDepth 100000
namespace Go.Proofs.YtpbeclkpohehgaaDoor
open Go Go.DL Go.Proofs.Tryd

def x4l0 : XCode :=
  (.loop [0,1,5,7,8,9,10,11,13,14,15,19,131,132,133] (.seq (.reg [] false [⟨0,some 134,.bin .lss (.t 133) (.t 132),none⟩]) (.seq (.cond (.t
  134) .skip (.exit 2)) (.seq (.block 3 (.seq (.reg [] false [⟨0,some 135,.idx 1 (.t 131) (.t 133),none⟩,⟨0,some 136,.load false 1 (.t 135),
  none⟩,⟨0,some 21,.mv (.t 136),none⟩]) (.reg [] false [⟨0,some 137,.mv (.t 19),none⟩,⟨0,some 138,.mv (.t 21),none⟩,⟨0,some 139,
  (.mm true (.t 137) (.t 138)),none⟩,⟨0,some 19,.mv (.t 139),none⟩]))) (.reg [] false [⟨0,some 140,.bin .add (.t 133) (.c (.int .i64 1)),
  none⟩,⟨0,some 133,.mv (.t 140),none⟩])))))
def x4l1 : XCode :=
  (.loop [0,1,5,7,8,9,10,11] (.seq (.seq (.reg [] false [⟨0,some 49,.mv (.t 11),none⟩,⟨0,some 50,.mv (.t 1),none⟩,⟨0,some 51,(.len
  false (.t 50)),none⟩,⟨0,some 52,.bin .lss (.t 49) (.t 51),none⟩,⟨0,some 53,.mv (.t 52),none⟩,⟨0,some 54,.mv (.t 11),some (53,
  true)⟩,⟨0,some 55,.bin .lss (.t 54) (.c (.int .i64 5)),some (53,true)⟩,⟨0,some 56,.pick (.t 53) (.t 55) (.c (.bool false)),none⟩])
  (.cond (.t 56) .skip (.exit 0))) (.seq (.block 1 (.seq (.reg [] false [⟨0,some 60,.mv (.t 0),none⟩,⟨0,some 61,.mv (.t 11),none⟩,⟨0,(some
  62),.mv (.t 0),none⟩,⟨0,some 63,.len false (.t 62),none⟩,⟨0,some 64,.bin .rem (.t 61) (.t 63),none⟩,⟨0,some 65,.idx 4 (.t 60) (.t
  64),none⟩,⟨0,some 66,.load true 4 (.t 65),none⟩,⟨0,some 67,(.callf false (.c (.fn (.func 26) [] [])) [.t 66] []),none⟩,⟨0,some 59,
  (.mv (.t 67)),none⟩,⟨0,some 68,.ext (.t 59) 0,none⟩,⟨0,some 69,.ext (.t 59) 1,none⟩,⟨0,some 12,(.alloc [.int .i64 0,.int .i64 0,
  (.int .i64 0),.nilsl]),none⟩,⟨0,none,(.store 4 (.t 12) (.t 68) []),none⟩,⟨0,some 13,.mv (.t 69),none⟩]) (.seq (.reg [(12,true)] false [⟨0,
  (some 71),.load true 4 (.t 12),none⟩,⟨0,some 72,(.callf false (.c (.fn (.func 27) [] [])) [.t 71] []),none⟩,⟨0,some 70,.mv (.t 72),
  none⟩,⟨0,some 73,.ext (.t 70) 0,none⟩,⟨0,some 74,.ext (.t 70) 1,none⟩,⟨0,some 75,.ext (.t 70) 2,none⟩,⟨0,some 14,.mv (.t 73),
  none⟩,⟨0,some 15,.mv (.t 74),none⟩,⟨0,some 16,.mv (.t 75),none⟩]) (.seq (.reg [(12,true)] false [⟨0,some 77,.load true 4 (.t 12),
  none⟩,⟨0,some 78,(.callf false (.c (.fn (.func 28) [] [])) [.t 77] []),none⟩,⟨0,some 76,.mv (.t 78),none⟩,⟨0,some 79,.ext (.t 76) 0,
  none⟩,⟨0,some 80,.ext (.t 76) 1,none⟩,⟨0,some 17,.mv (.t 79),none⟩,⟨0,some 18,.mv (.t 80),none⟩]) (.seq (.seq (.reg [] true [⟨0,
  (some 81),.mv (.t 16),none⟩,⟨1,some 82,.bin .neq (.t 81) (.c (.int .i64 0)),none⟩,⟨2,some 83,.mv (.t 82),none⟩,⟨3,some 84,.mv (.t
  18),some (83,false)⟩,⟨4,some 85,.bin .neq (.t 84) (.c (.int .i64 0)),some (83,false)⟩,⟨5,some 86,.pick (.t 83) (.c (.bool true)) (.t
  85),none⟩,⟨6,some 87,.mv (.t 86),none⟩,⟨7,some 88,.mv (.t 14),some (87,false)⟩,⟨8,some 89,.bin .lss (.t 88) (.c (.int .i64 0)),
  (some (87,false))⟩,⟨9,some 90,.pick (.t 87) (.c (.bool true)) (.t 89),none⟩,⟨10,some 91,.mv (.t 90),none⟩,⟨11,some 92,.mv (.t 14),
  (some (91,false))⟩,⟨12,some 93,.mv (.t 13),some (91,false)⟩,⟨13,some 94,.len false (.t 93),some (91,false)⟩,⟨14,some 95,(.bin
  .geq (.t 92) (.t 94)),some (91,false)⟩,⟨15,some 96,.pick (.t 91) (.c (.bool true)) (.t 95),none⟩,⟨16,some 97,.mv (.t 96),none⟩,⟨17,
  (some 98),.mv (.t 17),some (97,false)⟩,⟨18,some 99,.len false (.t 98),some (97,false)⟩,⟨19,some 100,.mv (.t 13),some (97,
  false)⟩,⟨20,some 101,.len false (.t 100),some (97,false)⟩,⟨21,some 102,.bin .neq (.t 99) (.t 101),some (97,false)⟩,⟨22,some 103,
  (.pick (.t 97) (.c (.bool true)) (.t 102)),none⟩,⟨23,some 104,.mv (.t 103),none⟩,⟨24,some 105,.mv (.t 13),some (104,false)⟩,⟨25,(some
  106),.mv (.t 14),some (104,false)⟩,⟨26,some 107,.idx 1 (.t 105) (.t 106),some (104,false)⟩,⟨27,some 108,.load false 1 (.t 107),
  (some (104,false))⟩,⟨28,some 109,.mv (.t 17),some (104,false)⟩,⟨29,some 110,.mv (.t 14),some (104,false)⟩,⟨30,some 111,(.idx 2
  (.t 109) (.t 110)),some (104,false)⟩,⟨31,some 112,.fld 0 (.t 111),some (104,false)⟩,⟨32,some 113,.load false 1 (.t 112),some (104,
  false)⟩,⟨33,some 114,.bin .lss (.t 108) (.t 113),some (104,false)⟩,⟨34,some 115,.pick (.t 104) (.c (.bool true)) (.t 114),none⟩,⟨35,
  (some 116),.mv (.t 115),none⟩,⟨36,some 117,.mv (.t 13),some (116,false)⟩,⟨37,some 118,.mv (.t 14),some (116,false)⟩,⟨38,(some
  119),.idx 1 (.t 117) (.t 118),some (116,false)⟩,⟨39,some 120,.load false 1 (.t 119),some (116,false)⟩,⟨40,some 121,.mv (.t 17),
  (some (116,false))⟩,⟨41,some 122,.mv (.t 14),some (116,false)⟩,⟨42,some 123,.idx 2 (.t 121) (.t 122),some (116,false)⟩,⟨43,(some
  124),.fld 1 (.t 123),some (116,false)⟩,⟨44,some 125,.load false 1 (.t 124),some (116,false)⟩,⟨45,some 126,.bin .gtr (.t 120) (.t
  125),some (116,false)⟩,⟨46,some 127,.pick (.t 116) (.c (.bool true)) (.t 126),none⟩]) (.cond (.t 127) (.seq (.reg [] false [⟨0,some 6,(.mv
  (.c (.bool false))),none⟩]) .ret) .skip)) (.seq (.reg [] false [⟨0,some 128,.mv (.t 13),none⟩,⟨0,some 129,.idx 1 (.t 128) (.c (.int .i64 0)),
  none⟩,⟨0,some 130,.load false 1 (.t 129),none⟩,⟨0,some 19,.mv (.t 130),none⟩]) (.seq (.seq (.reg [] false [⟨0,some 131,.mv (.t 13),
  none⟩,⟨0,some 132,.len false (.t 131),none⟩,⟨0,some 133,.mv (.c (.int .i64 0)),none⟩]) (.block 2 x4l0)) (.seq (.reg [] false [⟨0,(some
  141),.mv (.t 1),none⟩,⟨0,some 142,.mv (.t 11),none⟩,⟨0,some 143,.idx 4 (.t 141) (.t 142),none⟩,⟨0,some 144,.load true 4 (.t 143),
  none⟩,⟨0,some 22,(.alloc [.int .u8 0,.int .u8 0,.int .u8 0,.int .u8 0]),none⟩,⟨0,none,(.store 4 (.t 22) (.t 144) []),none⟩]) (.seq
  (.reg [] true [⟨0,some 145,.idxa 4 1 (.t 22) (.c (.int .i64 0)),none⟩,⟨1,some 146,.load false 1 (.t 145),none⟩,⟨2,some 147,(.conv .i64
  (.t 146)),none⟩,⟨3,some 148,.idxa 4 1 (.t 22) (.c (.int .i64 2)),none⟩,⟨4,some 149,.load false 1 (.t 148),none⟩,⟨5,some 150,(.conv
  .i64 (.t 149)),none⟩,⟨6,some 151,.bin .rem (.t 150) (.c (.int .i64 60)),none⟩,⟨7,some 152,.bin .add (.c (.int .i64 1)) (.t 151),none⟩,⟨8,
  (some 23),.mv (.t 147),none⟩,⟨9,some 24,.mv (.t 152),none⟩]) (.seq (.reg [] true [⟨0,some 153,.fld 1 (.t 7),none⟩,⟨1,some 154,(.load
  false 1 (.t 153)),none⟩,⟨2,some 155,.idxa 4 1 (.t 22) (.c (.int .i64 1)),none⟩,⟨3,some 156,.load false 1 (.t 155),none⟩,⟨4,some 157,
  (.conv .i64 (.t 156)),none⟩,⟨5,some 158,.bin .rem (.t 157) (.c (.int .i64 2)),none⟩,⟨6,some 159,.mv (.t 23),none⟩,⟨7,some 160,.mv (.t
  23),none⟩,⟨8,some 161,.idxa 4 1 (.t 22) (.c (.int .i64 3)),none⟩,⟨9,some 162,.load false 1 (.t 161),none⟩,⟨10,some 163,(.conv .i64
  (.t 162)),none⟩,⟨11,some 164,.bin .rem (.t 163) (.c (.int .i64 30)),none⟩,⟨12,some 165,.bin .add (.t 160) (.t 164),none⟩,⟨14,some 167,
  (.mv (.t 24)),none⟩,⟨15,some 168,.mv (.t 24),none⟩,⟨16,some 169,.idxa 4 1 (.t 22) (.c (.int .i64 3)),none⟩,⟨17,some 170,(.load false 1
  (.t 169)),none⟩,⟨18,some 171,.conv .i64 (.t 170),none⟩,⟨19,some 172,.bin .rem (.t 171) (.c (.int .i64 20)),none⟩,⟨20,some 173,(.bin
  .add (.t 168) (.t 172)),none⟩,⟨13,some 166,(.callf false (.c (.fn (.func 25) [] [])) [.t 159,.t 165] [1,3,17]),none⟩,⟨21,some 174,(.callf
  false (.c (.fn (.func 25) [] [])) [.t 167,.t 173] [1,3]),none⟩,⟨22,some 175,(.build [.int .i64 0,.int .i64 0,.int .i64 0,.int .i64 0,
  (.int .i64 0)] [(0,(1,(.t 158))),(1,(2,(.t 166))),(3,(2,(.t 174)))]),none⟩,⟨23,some 176,(.bslice 5 1 [.int .i64 0,.int .i64 0,(.int .i64
  0),.int .i64 0,.int .i64 0] [(0,(5,(.t 175)))]),none⟩,⟨24,some 177,.app 5 40 (.t 154) (.t 176),none⟩,⟨25,some 178,.fld 1 (.t 7),
  none⟩,⟨26,none,(.store 1 (.t 178) (.t 177) []),none⟩]) (.seq (.reg [(15,false)] false [⟨0,some 179,.mv (.t 8),none⟩,⟨0,some 180,.mv (.t
  13),none⟩,⟨0,some 181,.mv (.t 14),none⟩,⟨0,some 182,.idx 1 (.t 180) (.t 181),none⟩,⟨0,some 183,.load false 1 (.t 182),none⟩,⟨0,
  (some 184),(.bslice 1 1 [.int .i64 0] [(0,(1,(.t 183)))]),none⟩,⟨0,some 185,.app 1 8 (.t 179) (.t 184),none⟩,⟨0,some 186,.mv (.t 9),
  none⟩,⟨0,some 187,.mv (.t 19),none⟩,⟨0,some 188,(.bslice 1 1 [.int .i64 0] [(0,(1,(.t 187)))]),none⟩,⟨0,some 189,(.app 1 8 (.t 186)
  (.t 188)),none⟩,⟨0,some 190,.mv (.t 10),none⟩,⟨0,some 191,.mv (.t 15),none⟩,⟨0,some 192,(.bslice 1 1 [.int .i64 0] [(0,(1,(.t
  191)))]),none⟩,⟨0,some 193,.app 1 8 (.t 190) (.t 192),none⟩,⟨0,some 8,.mv (.t 185),none⟩,⟨0,some 9,.mv (.t 189),none⟩,⟨0,(some
  10),.mv (.t 193),none⟩]) (.seq (.reg [] false [⟨0,some 194,.mv (.t 11),none⟩,⟨0,some 195,.bin .rem (.t 194) (.c (.int .i64 2)),none⟩,⟨0,
  (some 196),.bin .eql (.t 195) (.c (.int .i64 1)),none⟩]) (.cond (.t 196) (.reg [] false [⟨0,some 197,.fld 2 (.t 7),none⟩,⟨0,some 198,(.load
  false 1 (.t 197)),none⟩,⟨0,some 199,.mv (.t 11),none⟩,⟨0,some 200,.bin .sub (.t 199) (.c (.int .i64 1)),none⟩,⟨0,some 201,.mv (.t
  11),none⟩,⟨0,some 202,(.bslice 1 2 [.int .i64 0] [(0,(1,(.t 200))),(1,(1,(.t 201)))]),none⟩,⟨0,some 203,(.bslice 1 1 [.nilsl] [(0,(1,
  (.t 202)))]),none⟩,⟨0,some 204,.app 1 24 (.t 198) (.t 203),none⟩,⟨0,some 205,.fld 2 (.t 7),none⟩,⟨0,none,(.store 1 (.t 205) (.t 204)
  []),none⟩]) (.seq (.reg [] false [⟨0,some 206,.mv (.t 11),none⟩,⟨0,some 207,.mv (.t 1),none⟩,⟨0,some 208,.len false (.t 207),none⟩,
  ⟨0,some 209,.bin .sub (.t 208) (.c (.int .i64 1)),none⟩,⟨0,some 210,.bin .eql (.t 206) (.t 209),none⟩,⟨0,some 211,.mv (.t 210),none⟩,
  ⟨0,some 212,.mv (.t 11),some (211,false)⟩,⟨0,some 213,.bin .eql (.t 212) (.c (.int .i64 4)),some (211,false)⟩,⟨0,some 214,(.pick
  (.t 211) (.c (.bool true)) (.t 213)),none⟩]) (.cond (.t 214) (.reg [] false [⟨0,some 215,.fld 2 (.t 7),none⟩,⟨0,some 216,.load false 1 (.t
  215),none⟩,⟨0,some 217,.mv (.t 11),none⟩,⟨0,some 218,(.bslice 1 1 [.int .i64 0] [(0,(1,(.t 217)))]),none⟩,⟨0,some 219,(.bslice 1 1
  [.nilsl] [(0,(1,(.t 218)))]),none⟩,⟨0,some 220,.app 1 24 (.t 216) (.t 219),none⟩,⟨0,some 221,.fld 2 (.t 7),none⟩,⟨0,none,(.store 1 (.t
  221) (.t 220) []),none⟩]) .skip))))))))))))))) (.reg [] false [⟨0,some 57,.mv (.t 11),none⟩,⟨0,some 58,.bin .add (.t 57) (.c (.int .i64 1)),
  none⟩,⟨0,some 11,.mv (.t 58),none⟩]))))
def x4l2 : XCode :=
  (.loop [7,8,9,10,26,28,29,30,31,32,33,243,244,245,278,279,280] (.seq (.reg [] false [⟨0,some 281,.bin .lss (.t 280) (.t 279),none⟩])
  (.seq (.cond (.t 281) .skip (.exit 6)) (.seq (.block 7 (.seq (.reg [] false [⟨0,some 282,.idx 2 (.t 278) (.t 280),none⟩,⟨0,some 283,(.load true
  2 (.t 282)),none⟩,⟨0,some 35,(.alloc [.int .i64 0,.int .i64 0]),none⟩,⟨0,none,(.store 2 (.t 35) (.t 283) []),none⟩]) (.seq (.reg [(32,
  true)] true [⟨0,some 284,.fld 0 (.t 35),none⟩,⟨1,some 285,.load false 1 (.t 284),none⟩,⟨2,some 286,.mv (.t 28),none⟩,⟨3,some 287,
  (.mv (.t 30)),none⟩,⟨4,some 288,.bin .mul (.c (.int .i64 2)) (.t 287),none⟩,⟨5,some 289,.bin .add (.t 288) (.c (.int .i64 2)),none⟩,⟨6,
  (some 290),.fld 1 (.t 32),none⟩,⟨7,some 291,.load true 2 (.t 290),none⟩,⟨9,some 293,.mv (.t 29),none⟩,⟨8,some 292,(.callf false (.t
  286) [.t 289,.t 291] [1]),none⟩,⟨10,some 294,.bin .add (.t 292) (.t 293),none⟩,⟨11,some 295,.bin .leq (.t 285) (.t 294),none⟩]) (.cond
  (.t 295) (.reg [] false [⟨0,some 296,.fld 1 (.t 35),none⟩,⟨0,some 297,.load false 1 (.t 296),none⟩,⟨0,some 33,.mv (.t 297),none⟩])
  .skip)))) (.reg [] false [⟨0,some 298,.bin .add (.t 280) (.c (.int .i64 1)),none⟩,⟨0,some 280,.mv (.t 298),none⟩])))))
def x4l3 : XCode :=
  (.loop [7,8,9,10,26,28,29,243,244,245] (.seq (.reg [] false [⟨0,some 246,.bin .lss (.t 245) (.t 244),none⟩]) (.seq (.cond (.t 246) .skip
  (.exit 4)) (.seq (.block 5 (.seq (.reg [] false [⟨0,some 247,.mv (.t 245),none⟩,⟨0,some 248,.idx 1 (.t 243) (.t 245),none⟩,⟨0,some 249,
  (.load false 1 (.t 248)),none⟩,⟨0,some 30,.mv (.t 247),none⟩,⟨0,some 31,.mv (.t 249),none⟩]) (.seq (.seq (.reg [] false [⟨0,some 250,
  (.mv (.t 31)),none⟩,⟨0,some 251,.bin .lss (.t 250) (.c (.int .i64 0)),none⟩,⟨0,some 252,.mv (.t 251),none⟩,⟨0,some 253,.mv (.t 31),
  (some (252,false))⟩,⟨0,some 254,.fld 1 (.t 7),some (252,false)⟩,⟨0,some 255,.load false 1 (.t 254),some (252,false)⟩,⟨0,some 256,
  (.len false (.t 255)),some (252,false)⟩,⟨0,some 257,.bin .geq (.t 253) (.t 256),some (252,false)⟩,⟨0,some 258,.pick (.t 252) (.c (.bool
  true)) (.t 257),none⟩]) (.cond (.t 258) (.seq (.reg [] false [⟨0,some 6,.mv (.c (.bool false)),none⟩]) .ret) .skip)) (.seq (.reg [] false [⟨0,
  (some 259),.fld 1 (.t 7),none⟩,⟨0,some 260,.load false 1 (.t 259),none⟩,⟨0,some 261,.mv (.t 31),none⟩,⟨0,some 262,(.idx 5 (.t 260)
  (.t 261)),none⟩,⟨0,some 263,.load true 5 (.t 262),none⟩,⟨0,some 32,(.alloc [.int .i64 0,.int .i64 0,.int .i64 0,.int .i64 0,(.int
  .i64 0)]),none⟩,⟨0,none,(.store 5 (.t 32) (.t 263) []),none⟩]) (.seq (.reg [(32,true)] false [⟨0,some 264,.mv (.t 29),none⟩,⟨0,some 265,
  (.mv (.t 28)),none⟩,⟨0,some 266,.mv (.t 30),none⟩,⟨0,some 267,.bin .mul (.c (.int .i64 2)) (.t 266),none⟩,⟨0,some 268,.bin .add (.t
  267) (.c (.int .i64 1)),none⟩,⟨0,some 269,.fld 3 (.t 32),none⟩,⟨0,some 270,.load true 2 (.t 269),none⟩,⟨0,some 271,(.callf false (.t
  265) [.t 268,.t 270] []),none⟩,⟨0,some 272,.bin .add (.t 264) (.t 271),none⟩,⟨0,some 29,.mv (.t 272),none⟩]) (.seq (.reg [] false [⟨0,
  (some 33),.mv (.c (.int .i64 0)),none⟩]) (.seq (.seq (.reg [] false [⟨0,some 273,.fld 0 (.t 7),none⟩,⟨0,some 274,.load false 1 (.t 273),
  none⟩,⟨0,some 275,.fld 0 (.t 32),none⟩,⟨0,some 276,.load false 1 (.t 275),none⟩,⟨0,some 277,.idx 1 (.t 274) (.t 276),none⟩,⟨0,
  (some 278),.load false 1 (.t 277),none⟩,⟨0,some 279,.len false (.t 278),none⟩,⟨0,some 280,.mv (.c (.int .i64 0)),none⟩]) (.block 6
  x4l2)) (.seq (.reg [] true [⟨0,some 299,.mv (.t 8),none⟩,⟨1,some 300,.mv (.t 31),none⟩,⟨2,some 301,.idx 1 (.t 299) (.t 300),none⟩,
  ⟨3,some 302,.load false 1 (.t 301),none⟩,⟨4,some 303,.mv (.t 33),none⟩,⟨5,some 304,.bin .sub (.t 302) (.t 303),none⟩,⟨6,some 305,
  (.mv (.t 9)),none⟩,⟨7,some 306,.mv (.t 31),none⟩,⟨8,some 307,.idx 1 (.t 305) (.t 306),none⟩,⟨9,some 308,.load false 1 (.t 307),
  none⟩,⟨10,some 309,.mv (.t 10),none⟩,⟨11,some 310,.mv (.t 31),none⟩,⟨12,some 311,.idx 1 (.t 309) (.t 310),none⟩,⟨13,some 312,
  (.load false 1 (.t 311)),none⟩,⟨14,some 313,.bin .sub (.t 308) (.t 312),none⟩,⟨15,some 314,.mv (.t 26),none⟩,⟨16,some 315,(.bin .sub
  (.t 313) (.t 314)),none⟩,⟨17,some 316,.bin .lss (.t 304) (.t 315),none⟩]) (.cond (.t 316) (.seq (.reg [] false [⟨0,some 6,.mv (.c (.bool
  false)),none⟩]) .ret) .skip))))))))) (.reg [] false [⟨0,some 317,.bin .add (.t 245) (.c (.int .i64 1)),none⟩,⟨0,some 245,.mv (.t 317),
  none⟩])))))
def x4 : XFn := ⟨319,[(6,none)],false,false,
  (.seq (.reg [] false [⟨0,some 5,.box (.t 2),none⟩,⟨0,some 6,.mv (.c (.bool false)),none⟩]) (.seq (.seq (.reg [] false [⟨0,some 36,.mv (.t
  0),none⟩,⟨0,some 37,.len false (.t 36),none⟩,⟨0,some 38,.bin .eql (.t 37) (.c (.int .i64 0)),none⟩]) (.cond (.t 38) (.seq (.reg [] false
  [⟨0,some 39,(.callf false (.c (.fn (.func 24) [] [])) [] []),none⟩,⟨0,some 6,.mv (.t 39),none⟩]) .ret) .skip)) (.seq (.reg [] false [⟨0,(some
  40),(.build [.int .i64 0,.int .i64 0] [(0,(1,(.c (.int .i64 30)))),(1,(1,(.c (.int .i64 100))))]),none⟩,⟨0,some 41,(.build [.int .i64 0,
  (.int .i64 0)] [(0,(1,(.c (.int .i64 120)))),(1,(1,(.c (.int .i64 300))))]),none⟩,⟨0,some 42,(.build [.int .i64 0,.int .i64 0] [(0,(1,(.c
  (.int .i64 400)))),(1,(1,(.c (.int .i64 900))))]),none⟩,⟨0,some 43,(.bslice 2 3 [.int .i64 0,.int .i64 0] [(0,(2,(.t 40))),(2,(2,(.t
  41))),(4,(2,(.t 42)))]),none⟩,⟨0,some 44,(.build [.int .i64 0,.int .i64 0] [(0,(1,(.c (.int .i64 200)))),(1,(1,(.c (.int .i64 50))))]),
  none⟩,⟨0,some 45,(.bslice 2 1 [.int .i64 0,.int .i64 0] [(0,(2,(.t 44)))]),none⟩,⟨0,some 46,(.bslice 1 2 [.nilsl] [(0,(1,(.t 43))),(1,
  (1,(.t 45)))]),none⟩,⟨0,some 47,(.callf false (.c (.fn (.func 25) [] [])) [.c (.int .i64 0),.c (.int .i64 20)] []),none⟩,⟨0,some 48,
  (.build [.nilsl,.nilsl,.nilsl,.int .i64 0,.int .i64 0] [(0,(1,(.t 46))),(3,(2,(.t 47)))]),none⟩,⟨0,some 7,(.alloc [.nilsl,.nilsl,
  .nilsl,.int .i64 0,.int .i64 0]),none⟩,⟨0,none,(.store 5 (.t 7) (.t 48) []),none⟩]) (.seq (.reg [] false [⟨0,some 8,.mv (.c .nilsl),none⟩,
  ⟨0,some 9,.mv (.c .nilsl),none⟩,⟨0,some 10,.mv (.c .nilsl),none⟩]) (.seq (.seq (.reg [] false [⟨0,some 11,.mv (.c (.int .i64 0)),
  none⟩]) (.block 0 x4l1)) (.seq (.reg [(7,true)] false [⟨0,some 223,.load true 5 (.t 7),none⟩,⟨0,some 224,(.callf false (.c (.fn (.func 29) []
  [])) [.t 223] []),none⟩,⟨0,some 222,.mv (.t 224),none⟩,⟨0,some 225,.ext (.t 222) 0,none⟩,⟨0,some 226,.ext (.t 222) 1,none⟩,⟨0,
  (some 227),.ext (.t 222) 2,none⟩,⟨0,some 25,.mv (.t 225),none⟩,⟨0,some 26,.mv (.t 226),none⟩,⟨0,some 27,.mv (.t 227),none⟩])
  (.seq (.seq (.reg [] false [⟨0,some 228,.mv (.t 27),none⟩,⟨0,some 229,.bin .neq (.t 228) (.c (.int .i64 0)),none⟩,⟨0,some 230,.mv (.t
  229),none⟩,⟨0,some 231,.mv (.t 25),some (230,false)⟩,⟨0,some 232,.len false (.t 231),some (230,false)⟩,⟨0,some 233,.fld 1 (.t
  7),some (230,false)⟩,⟨0,some 234,.load false 1 (.t 233),some (230,false)⟩,⟨0,some 235,.len false (.t 234),some (230,false)⟩,⟨0,
  (some 236),.bin .neq (.t 232) (.t 235),some (230,false)⟩,⟨0,some 237,.pick (.t 230) (.c (.bool true)) (.t 236),none⟩]) (.cond (.t 237) (.seq
  (.reg [] false [⟨0,some 6,.mv (.c (.bool false)),none⟩]) .ret) .skip)) (.seq (.reg [] false [⟨0,some 238,(.mkf (.func 30) [] [.t 5]),none⟩,
  ⟨0,some 28,.mv (.t 238),none⟩]) (.seq (.reg [(7,true)] false [⟨0,some 239,.mv (.t 28),none⟩,⟨0,some 240,.fld 3 (.t 7),none⟩,⟨0,
  (some 241),.load true 2 (.t 240),none⟩,⟨0,some 242,(.callf false (.t 239) [.c (.int .i64 0),.t 241] []),none⟩,⟨0,some 29,.mv (.t 242),
  none⟩]) (.seq (.seq (.reg [] false [⟨0,some 243,.mv (.t 25),none⟩,⟨0,some 244,.len false (.t 243),none⟩,⟨0,some 245,.mv (.c (.int .i64
  0)),none⟩]) (.block 4 x4l3)) (.seq (.reg [] false [⟨0,some 318,(.callf false (.c (.fn (.func 24) [] [])) [] []),none⟩,⟨0,some 6,.mv (.t 318),
  none⟩]) .ret)))))))))))⟩
theorem is4 : FnIs prog 4 x4.fn := ⟨fun vs w => call4 vs w,_,_,func4,rfl,rfl,by kernel_rfl,by kernel_rfl⟩
theorem ok4 : okX x4.body = true := by kernel_rfl
theorem st4 : sitesP x4 x4.body := (sitesP_of rfl)

def x22l0 : XCode :=
  (.loop [1,14,15,16] (.seq (.reg [] false [⟨0,some 17,.bin .lss (.t 16) (.t 15),none⟩]) (.seq (.cond (.t 17) .skip (.exit 0)) (.seq (.block 1 (.seq
  (.reg [] false [⟨0,some 18,.idx 1 (.t 14) (.t 16),none⟩,⟨0,some 19,.load false 1 (.t 18),none⟩,⟨0,some 4,.mv (.t 19),none⟩]) (.seq
  (.reg [(4,false)] false [⟨0,some 20,.mv (.t 4),none⟩,⟨0,some 21,(.callf false (.c (.fn (.func 57) [] [])) [.t 20] []),none⟩,⟨0,some 5,
  (.mv (.t 21)),none⟩]) (.seq (.reg [] false [⟨0,some 22,.mv (.t 5),none⟩,⟨0,some 23,.bin .neq (.t 22) (.c (.int .i64 0)),none⟩]) (.cond (.t
  23) (.seq (.reg [] false [⟨0,some 24,.mv (.t 5),none⟩,⟨0,some 2,.mv (.t 24),none⟩]) .ret) .skip))))) (.reg [] false [⟨0,some 25,(.bin
  .add (.t 16) (.c (.int .i64 1))),none⟩,⟨0,some 16,.mv (.t 25),none⟩])))))
def x22l1 : XCode :=
  (.loop [1,31,32,33] (.seq (.reg [] false [⟨0,some 34,.bin .lss (.t 33) (.t 32),none⟩]) (.seq (.cond (.t 34) .skip (.exit 2)) (.seq (.block 3 (.seq
  (.reg [] false [⟨0,some 35,.idx 5 (.t 31) (.t 33),none⟩,⟨0,some 36,.load true 5 (.t 35),none⟩,⟨0,some 7,(.alloc [.int .i64 0,(.int
  .i64 0),.int .i64 0,.int .i64 0,.int .i64 0]),none⟩,⟨0,none,(.store 5 (.t 7) (.t 36) []),none⟩]) (.block 4 (.seq (.reg [(7,true)] false [⟨0,
  (some 38),.fld 0 (.t 7),none⟩,⟨0,some 39,.load false 1 (.t 38),none⟩,⟨0,some 40,.fld 0 (.t 1),none⟩,⟨0,some 41,.load false 1 (.t
  40),none⟩,⟨0,some 42,.len false (.t 41),none⟩,⟨0,some 43,.bin .sub (.t 42) (.c (.int .i64 1)),none⟩,⟨0,some 44,(.callf false (.c (.fn
  (.func 58) [] [])) [.c (.int .i64 0),.t 39,.t 43] []),none⟩,⟨0,some 45,.not (.t 44),none⟩,⟨0,some 37,.mv (.t 45),none⟩]) (.cond (.t
  37) (.seq (.reg [] false [⟨0,some 2,.mv (.c (.int .i64 18)),none⟩]) .ret) (.seq (.reg [(7,true)] false [⟨0,some 47,.fld 1 (.t 7),none⟩,⟨0,
  (some 48),.load true 2 (.t 47),none⟩,⟨0,some 49,(.callf false (.c (.fn (.func 59) [] [])) [.t 48,.c (.int .i64 0),.c (.int .i64 100000)]
  []),none⟩,⟨0,some 50,.not (.t 49),none⟩,⟨0,some 51,.mv (.t 50),none⟩,⟨0,some 52,.fld 3 (.t 7),some (51,false)⟩,⟨0,some 53,
  (.load true 2 (.t 52)),some (51,false)⟩,⟨0,some 54,(.callf false (.c (.fn (.func 59) [] [])) [.t 53,.c (.int .i64 1),.c (.int .i64 10000)]
  []),some (51,false)⟩,⟨0,some 55,.not (.t 54),some (51,false)⟩,⟨0,some 56,.pick (.t 51) (.c (.bool true)) (.t 55),none⟩,⟨0,(some
  46),.mv (.t 56),none⟩]) (.cond (.t 46) (.seq (.reg [] false [⟨0,some 2,.mv (.c (.int .i64 2)),none⟩]) .ret) .skip))))))) (.reg [] false [⟨0,
  (some 57),.bin .add (.t 33) (.c (.int .i64 1)),none⟩,⟨0,some 33,.mv (.t 57),none⟩])))))
def x22 : XFn := ⟨67,[(2,none)],false,false,
  (.seq (.reg [] false [⟨0,some 1,.box (.t 0),none⟩,⟨0,some 2,.mv (.c (.int .i64 0)),none⟩]) (.seq (.seq (.reg [] false [⟨0,some 9,(.fld 0
  (.t 1)),none⟩,⟨0,some 10,.load false 1 (.t 9),none⟩,⟨0,some 11,.len false (.t 10),none⟩,⟨0,some 12,.bin .gtr (.t 11) (.c (.int .i64
  6)),none⟩]) (.cond (.t 12) (.seq (.reg [] false [⟨0,some 2,.mv (.c (.int .i64 1)),none⟩]) .ret) .skip)) (.seq (.seq (.reg [] false [⟨0,some 13,
  (.fld 0 (.t 1)),none⟩,⟨0,some 14,.load false 1 (.t 13),none⟩,⟨0,some 15,.len false (.t 14),none⟩,⟨0,some 16,.mv (.c (.int .i64 0)),
  none⟩]) (.block 0 x22l0)) (.seq (.seq (.reg [] false [⟨0,some 26,.fld 1 (.t 1),none⟩,⟨0,some 27,.load false 1 (.t 26),none⟩,⟨0,some 28,
  (.len false (.t 27)),none⟩,⟨0,some 29,.bin .gtr (.t 28) (.c (.int .i64 10)),none⟩]) (.cond (.t 29) (.seq (.reg [] false [⟨0,some 2,.mv (.c
  (.int .i64 1)),none⟩]) .ret) .skip)) (.seq (.seq (.reg [] false [⟨0,some 30,.fld 1 (.t 1),none⟩,⟨0,some 31,.load false 1 (.t 30),none⟩,⟨0,
  (some 32),.len false (.t 31),none⟩,⟨0,some 33,.mv (.c (.int .i64 0)),none⟩]) (.block 2 x22l1)) (.seq (.seq (.reg [(1,true)] false [⟨0,(some
  58),.load true 5 (.t 1),none⟩,⟨0,some 59,(.callf false (.c (.fn (.func 60) [] [])) [.t 58] []),none⟩,⟨0,some 8,.mv (.t 59),none⟩]) (.seq
  (.reg [] false [⟨0,some 60,.mv (.t 8),none⟩,⟨0,some 61,.bin .neq (.t 60) (.c (.int .i64 0)),none⟩]) (.cond (.t 61) (.seq (.reg [] false [⟨0,
  (some 62),.mv (.t 8),none⟩,⟨0,some 2,.mv (.t 62),none⟩]) .ret) .skip))) (.seq (.seq (.reg [(1,true)] false [⟨0,some 63,.fld 3 (.t 1),
  none⟩,⟨0,some 64,.load true 2 (.t 63),none⟩,⟨0,some 65,(.callf false (.c (.fn (.func 59) [] [])) [.t 64,.c (.int .i64 0),.c (.int .i64
  100000)] []),none⟩,⟨0,some 66,.not (.t 65),none⟩]) (.cond (.t 66) (.seq (.reg [] false [⟨0,some 2,.mv (.c (.int .i64 2)),none⟩]) .ret)
  .skip)) (.seq (.reg [] false [⟨0,some 2,.mv (.c (.int .i64 0)),none⟩]) .ret))))))))⟩
theorem is22 : FnIs prog 22 x22.fn := ⟨fun vs w => call22 vs w,_,_,func22,rfl,rfl,by kernel_rfl,by kernel_rfl⟩
theorem ok22 : okX x22.body = true := by kernel_rfl
theorem st22 : sitesP x22 x22.body := (sitesP_of rfl)

def x24 : XFn := ⟨64,[(0,none)],false,false,
  (.seq (.reg [] false [⟨0,some 0,.mv (.c (.bool false)),none⟩]) (.seq (.reg [] false [⟨0,some 9,(.callf false (.c (.fn (.func 25) [] [])) [.c (.int
  .i64 0),.c (.int .i64 10)] []),none⟩,⟨0,some 10,(.build [.int .i64 0,.int .i64 0,.int .i64 0,.nilsl] [(0,(1,(.c (.int .i64 3)))),(1,
  (2,(.t 9)))]),none⟩,⟨0,some 1,(.alloc [.int .i64 0,.int .i64 0,.int .i64 0,.nilsl]),none⟩,⟨0,none,(.store 4 (.t 1) (.t 10) []),none⟩])
  (.seq (.reg [(1,true)] false [⟨0,some 12,.load true 4 (.t 1),none⟩,⟨0,some 13,(.callf false (.c (.fn (.func 27) [] [])) [.t 12] []),none⟩,
  ⟨0,some 11,.mv (.t 13),none⟩,⟨0,some 14,.ext (.t 11) 0,none⟩,⟨0,some 15,.ext (.t 11) 1,none⟩,⟨0,some 16,.ext (.t 11) 2,none⟩,
  ⟨0,some 2,.mv (.t 14),none⟩,⟨0,some 3,.mv (.t 15),none⟩,⟨0,some 4,.mv (.t 16),none⟩]) (.seq (.reg [] false [⟨0,some 17,(.build
  [.int .i64 0,.int .i64 0] [(0,(1,(.c (.int .i64 15)))),(1,(1,(.c (.int .i64 5))))]),none⟩,⟨0,some 18,(.bslice 2 1 [.int .i64 0,(.int .i64
  0)] [(0,(2,(.t 17)))]),none⟩,⟨0,some 19,(.bslice 1 1 [.nilsl] [(0,(1,(.t 18)))]),none⟩,⟨0,some 20,(.callf false (.c (.fn (.func 25) [] []))
  [.c (.int .i64 10),.c (.int .i64 10)] []),none⟩,⟨0,some 21,(.build [.int .i64 0,.int .i64 0,.int .i64 0,.int .i64 0,.int .i64 0]
  [(3,(2,(.t 20)))]),none⟩,⟨0,some 22,(.callf false (.c (.fn (.func 25) [] [])) [.c (.int .i64 10),.c (.int .i64 10)] []),none⟩,⟨0,some 23,
  (.build [.int .i64 0,.int .i64 0,.int .i64 0,.int .i64 0,.int .i64 0] [(3,(2,(.t 22)))]),none⟩,⟨0,some 24,(.bslice 5 2 [.int .i64 0,
  (.int .i64 0),.int .i64 0,.int .i64 0,.int .i64 0] [(0,(5,(.t 21))),(5,(5,(.t 23)))]),none⟩,⟨0,some 25,(.bslice 1 1 [.int .i64 0] [(0,
  (1,(.c (.int .i64 1))))]),none⟩,⟨0,some 26,(.bslice 1 1 [.int .i64 0] [(0,(1,(.c (.int .i64 0))))]),none⟩,⟨0,some 27,(.bslice 1 2 [.nilsl]
  [(0,(1,(.t 25))),(1,(1,(.t 26)))]),none⟩,⟨0,some 28,(.build [.nilsl,.nilsl,.nilsl,.int .i64 0,.int .i64 0] [(0,(1,(.t 19))),(1,(1,
  (.t 24))),(2,(1,(.t 27)))]),none⟩,⟨0,some 5,(.alloc [.nilsl,.nilsl,.nilsl,.int .i64 0,.int .i64 0]),none⟩,⟨0,none,(.store 5 (.t 5) (.t
  28) []),none⟩]) (.seq (.reg [(5,true)] false [⟨0,some 30,.load true 5 (.t 5),none⟩,⟨0,some 31,(.callf false (.c (.fn (.func 29) [] [])) [(.t
  30)] []),none⟩,⟨0,some 29,.mv (.t 31),none⟩,⟨0,some 32,.ext (.t 29) 0,none⟩,⟨0,some 33,.ext (.t 29) 1,none⟩,⟨0,some 34,(.ext
  (.t 29) 2),none⟩,⟨0,some 6,.mv (.t 32),none⟩,⟨0,some 7,.mv (.t 33),none⟩,⟨0,some 8,.mv (.t 34),none⟩]) (.seq (.reg [] false [⟨0,
  (some 35),.mv (.t 4),none⟩,⟨0,some 36,.bin .eql (.t 35) (.c (.int .i64 0)),none⟩,⟨0,some 37,.mv (.t 36),none⟩,⟨0,some 38,.mv (.t
  8),some (37,true)⟩,⟨0,some 39,.bin .eql (.t 38) (.c (.int .i64 0)),some (37,true)⟩,⟨0,some 40,.pick (.t 37) (.t 39) (.c (.bool
  false)),none⟩,⟨0,some 41,.mv (.t 40),none⟩,⟨0,some 42,.mv (.t 2),some (41,true)⟩,⟨0,some 43,.bin .eql (.t 42) (.c (.int .i64
  1)),some (41,true)⟩,⟨0,some 44,.pick (.t 41) (.t 43) (.c (.bool false)),none⟩,⟨0,some 45,.mv (.t 44),none⟩,⟨0,some 46,.mv (.t
  3),some (45,true)⟩,⟨0,some 47,.bin .eql (.t 46) (.c (.int .i64 5)),some (45,true)⟩,⟨0,some 48,.pick (.t 45) (.t 47) (.c (.bool
  false)),none⟩,⟨0,some 49,.mv (.t 48),none⟩,⟨0,some 50,.mv (.t 6),some (49,true)⟩,⟨0,some 51,.len false (.t 50),some (49,
  true)⟩,⟨0,some 52,.bin .eql (.t 51) (.c (.int .i64 2)),some (49,true)⟩,⟨0,some 53,.pick (.t 49) (.t 52) (.c (.bool false)),none⟩,⟨0,
  (some 54),.mv (.t 53),none⟩,⟨0,some 55,.mv (.t 6),some (54,true)⟩,⟨0,some 56,.idx 1 (.t 55) (.c (.int .i64 0)),some (54,true)⟩,
  ⟨0,some 57,.load false 1 (.t 56),some (54,true)⟩,⟨0,some 58,.bin .eql (.t 57) (.c (.int .i64 0)),some (54,true)⟩,⟨0,some 59,(.pick
  (.t 54) (.t 58) (.c (.bool false))),none⟩,⟨0,some 60,.mv (.t 59),none⟩,⟨0,some 61,.mv (.t 7),some (60,true)⟩,⟨0,some 62,(.bin .eql
  (.t 61) (.c (.int .i64 5))),some (60,true)⟩,⟨0,some 63,.pick (.t 60) (.t 62) (.c (.bool false)),none⟩,⟨0,some 0,.mv (.t 63),none⟩])
  .ret))))))⟩
theorem is24 : FnIs prog 24 x24.fn := ⟨fun vs w => call24 vs w,_,_,func24,rfl,rfl,by kernel_rfl,by kernel_rfl⟩
theorem ok24 : okX x24.body = true := by kernel_rfl
theorem st24 : sitesP x24 x24.body := (sitesP_of rfl)

def x25 : XFn := ⟨8,[(4,(some (true,2)))],false,false,
  (.seq (.reg [] false [⟨0,some 4,(.alloc [.int .i64 0,.int .i64 0]),none⟩]) (.seq (.reg [] false [⟨0,some 5,.mv (.t 0),none⟩,⟨0,some 6,
  (.mv (.t 1)),none⟩,⟨0,some 7,(.build [.int .i64 0,.int .i64 0] [(0,(1,(.t 5))),(1,(1,(.t 6)))]),none⟩,⟨0,none,(.store 2 (.t 4) (.t 7)
  []),none⟩]) .ret))⟩
theorem is25 : FnIs prog 25 x25.fn := ⟨fun vs w => call25 vs w,_,_,func25,rfl,rfl,by kernel_rfl,by kernel_rfl⟩
theorem ok25 : okX x25.body = true := by kernel_rfl
theorem st25 : sitesP x25 x25.body := (sitesP_of rfl)

def x26l0 : XCode :=
  (.loop [1,2,4,5,6,7] (.seq (.seq (.reg [] false [⟨0,some 22,.mv (.t 7),none⟩,⟨0,some 23,.bin .lss (.t 22) (.c (.int .i64 6)),none⟩])
  (.cond (.t 23) .skip (.exit 0))) (.seq (.block 1 (.seq (.reg [] false [⟨0,some 26,.mv (.t 5),none⟩,⟨0,some 27,.mv (.t 5),none⟩,⟨0,(some
  28),.mv (.t 7),none⟩,⟨0,some 29,.bin .sub (.t 28) (.c (.int .i64 1)),none⟩,⟨0,some 30,.idx 1 (.t 27) (.t 29),none⟩,⟨0,some 31,
  (.load false 1 (.t 30)),none⟩,⟨0,some 32,.mv (.t 6),none⟩,⟨0,some 33,.bin .add (.t 31) (.t 32),none⟩,⟨0,some 34,(.bslice 1 1 [(.int
  .i64 0)] [(0,(1,(.t 33)))]),none⟩,⟨0,some 35,.app 1 8 (.t 26) (.t 34),none⟩,⟨0,some 5,.mv (.t 35),none⟩]) (.reg [] false [⟨0,some 36,
  (.mv (.t 6)),none⟩,⟨0,some 37,.idxa 4 1 (.t 1) (.c (.int .i64 2)),none⟩,⟨0,some 38,.load false 1 (.t 37),none⟩,⟨0,some 39,(.conv .i64
  (.t 38)),none⟩,⟨0,some 40,.bin .sub (.t 36) (.t 39),none⟩,⟨0,some 6,.mv (.t 40),none⟩]))) (.reg [] false [⟨0,some 24,.mv (.t 7),
  none⟩,⟨0,some 25,.bin .add (.t 24) (.c (.int .i64 1)),none⟩,⟨0,some 7,.mv (.t 25),none⟩]))))
def x26l1 : XCode :=
  (.loop [1,2,4,5,8] (.seq (.seq (.reg [] false [⟨0,some 41,.mv (.t 8),none⟩,⟨0,some 42,.bin .lss (.t 41) (.c (.int .i64 6)),none⟩]) (.cond
  (.t 42) .skip (.exit 2))) (.seq (.block 3 (.seq (.reg [] false [⟨0,some 45,.idxa 4 1 (.t 1) (.c (.int .i64 3)),none⟩,⟨0,some 46,(.load false 1
  (.t 45)),none⟩,⟨0,some 47,.mv (.t 8),none⟩,⟨0,some 48,.bin .shr (.t 46) (.t 47),none⟩,⟨0,some 49,.bin .and (.t 48) (.c (.int .u8
  1)),none⟩,⟨0,some 50,.bin .eql (.t 49) (.c (.int .u8 1)),none⟩]) (.cond (.t 50) (.seq (.reg [] false [⟨0,some 51,.idxa 4 1 (.t 1) (.c (.int
  .i64 2)),none⟩,⟨0,some 52,.load false 1 (.t 51),none⟩,⟨0,some 53,.conv .i64 (.t 52),none⟩,⟨0,some 54,.mv (.t 8),none⟩,⟨0,(some
  55),.bin .add (.t 54) (.c (.int .i64 1)),none⟩,⟨0,some 56,.bin .quo (.t 53) (.t 55),none⟩,⟨0,some 9,.mv (.t 56),none⟩]) (.reg [] true
  [⟨0,some 57,.fld 3 (.t 4),none⟩,⟨1,some 58,.load false 1 (.t 57),none⟩,⟨2,some 59,.mv (.t 8),none⟩,⟨3,some 60,.mv (.t 5),
  none⟩,⟨4,some 61,.mv (.t 8),none⟩,⟨5,some 62,.idx 1 (.t 60) (.t 61),none⟩,⟨6,some 63,.load false 1 (.t 62),none⟩,⟨7,some 64,
  (.mv (.t 9)),none⟩,⟨8,some 65,.bin .quo (.t 64) (.c (.int .i64 2)),none⟩,⟨9,some 66,.bin .sub (.t 63) (.t 65),none⟩,⟨10,some 67,(.mm
  true (.c (.int .i64 0)) (.t 66)),none⟩,⟨11,some 68,.mv (.t 9),none⟩,⟨12,some 69,(.build [.int .i64 0,.int .i64 0,.int .i64 0] [(0,(1,
  (.t 59))),(1,(1,(.t 67))),(2,(1,(.t 68)))]),none⟩,⟨13,some 70,(.bslice 3 1 [.int .i64 0,.int .i64 0,.int .i64 0] [(0,(3,(.t 69)))]),
  none⟩,⟨14,some 71,.app 3 24 (.t 58) (.t 70),none⟩,⟨15,some 72,.fld 3 (.t 4),none⟩,⟨16,none,(.store 1 (.t 72) (.t 71) []),none⟩]))
  .skip))) (.reg [] false [⟨0,some 43,.mv (.t 8),none⟩,⟨0,some 44,.bin .add (.t 43) (.c (.int .i64 1)),none⟩,⟨0,some 8,.mv (.t 44),
  none⟩]))))
def x26 : XFn := ⟨75,[(2,(some (true,4))),(3,none)],false,false,
  (.seq (.reg [] false [⟨0,some 1,.box (.t 0),none⟩,⟨0,some 2,(.alloc [.int .i64 0,.int .i64 0,.int .i64 0,.nilsl]),none⟩,⟨0,some 3,
  (.mv (.c .nilsl)),none⟩]) (.seq (.reg [] false [⟨0,some 10,(.callf false (.c (.fn (.func 25) [] [])) [.c (.int .i64 0),.c (.int .i64 30000)] []),
  none⟩,⟨0,some 11,(.build [.int .i64 0,.int .i64 0,.int .i64 0,.nilsl] [(0,(1,(.c (.int .i64 6)))),(1,(2,(.t 10)))]),none⟩,⟨0,some 4,
  (.alloc [.int .i64 0,.int .i64 0,.int .i64 0,.nilsl]),none⟩,⟨0,none,(.store 4 (.t 4) (.t 11) []),none⟩]) (.seq (.reg [] true [⟨0,some 12,
  (.idxa 4 1 (.t 1) (.c (.int .i64 0))),none⟩,⟨1,some 13,.load false 1 (.t 12),none⟩,⟨2,some 14,.conv .i64 (.t 13),none⟩,⟨3,some 15,
  (.bin .mul (.c (.int .i64 20)) (.t 14)),none⟩,⟨4,some 16,.bin .add (.c (.int .i64 6000)) (.t 15),none⟩,⟨5,some 17,(.bslice 1 1 [.int .i64 0]
  [(0,(1,(.t 16)))]),none⟩,⟨6,some 18,.idxa 4 1 (.t 1) (.c (.int .i64 1)),none⟩,⟨7,some 19,.load false 1 (.t 18),none⟩,⟨8,some 20,
  (.conv .i64 (.t 19)),none⟩,⟨9,some 21,.bin .mul (.c (.int .i64 2)) (.t 20),none⟩,⟨10,some 5,.mv (.t 17),none⟩,⟨11,some 6,.mv (.t
  21),none⟩]) (.seq (.seq (.reg [] false [⟨0,some 7,.mv (.c (.int .i64 1)),none⟩]) (.block 0 x26l0)) (.seq (.seq (.reg [] false [⟨0,some 8,(.mv
  (.c (.int .i64 0))),none⟩]) (.block 2 x26l1)) (.seq (.reg [] false [⟨0,some 73,.load true 4 (.t 4),none⟩,⟨0,some 74,.mv (.t 5),none⟩,⟨0,
  none,(.store 4 (.t 2) (.t 73) []),none⟩,⟨0,some 3,.mv (.t 74),none⟩]) .ret))))))⟩
theorem is26 : FnIs prog 26 x26.fn := ⟨fun vs w => call26 vs w,_,_,func26,rfl,rfl,by kernel_rfl,by kernel_rfl⟩
theorem ok26 : okX x26.body = true := by kernel_rfl
theorem st26 : sitesP x26 x26.body := (sitesP_of rfl)

def x27l0 : XCode :=
  (.loop [1,2,5,6,7] (.seq (.seq (.reg [] false [⟨0,some 19,.mv (.t 7),none⟩,⟨0,some 20,.fld 0 (.t 1),none⟩,⟨0,some 21,(.load false 1
  (.t 20)),none⟩,⟨0,some 22,.bin .lss (.t 19) (.t 21),none⟩]) (.cond (.t 22) .skip (.exit 0))) (.seq (.block 1 (.seq (.reg [(5,false)] false [⟨0,
  (some 25),.mv (.t 5),none⟩,⟨0,some 26,.mv (.t 7),none⟩,⟨0,some 27,(.callf false (.c (.fn (.func 66) [] [])) [.t 25,.t 26] []),none⟩,
  ⟨0,some 8,(.alloc [.int .i64 0,.int .i64 0]),none⟩,⟨0,none,(.store 2 (.t 8) (.t 27) []),none⟩]) (.seq (.reg [(8,true),(6,true)] false [⟨0,
  (some 28),.load true 2 (.t 8),none⟩,⟨0,some 29,.load true 2 (.t 6),none⟩,⟨0,some 30,(.callf false (.c (.fn (.func 67) [] [])) [.t 28,(.t
  29)] []),none⟩,⟨0,some 31,.bin .lss (.t 30) (.c (.int .i64 0)),none⟩]) (.cond (.t 31) (.reg [] true [⟨0,some 32,.mv (.t 7),none⟩,⟨1,(some
  33),.load true 2 (.t 8),none⟩,⟨2,some 2,.mv (.t 32),none⟩,⟨3,none,(.store 2 (.t 6) (.t 33) []),none⟩]) .skip)))) (.reg [] false [⟨0,(some
  23),.mv (.t 7),none⟩,⟨0,some 24,.bin .add (.t 23) (.c (.int .i64 1)),none⟩,⟨0,some 7,.mv (.t 24),none⟩]))))
def x27 : XFn := ⟨37,[(2,none),(3,none),(4,none)],false,false,
  (.seq (.reg [] false [⟨0,some 1,.box (.t 0),none⟩,⟨0,some 2,.mv (.c (.int .i64 0)),none⟩,⟨0,some 3,.mv (.c (.int .i64 0)),none⟩,⟨0,
  (some 4),.mv (.c (.int .i64 0)),none⟩]) (.seq (.reg [(1,true)] false [⟨0,some 10,.load true 4 (.t 1),none⟩,⟨0,some 11,(.callf false (.c
  (.fn (.func 65) [] [])) [.t 10] []),none⟩,⟨0,some 9,.mv (.t 11),none⟩,⟨0,some 12,.ext (.t 9) 0,none⟩,⟨0,some 13,.ext (.t 9) 1,
  none⟩,⟨0,some 5,.mv (.t 12),none⟩,⟨0,some 4,.mv (.t 13),none⟩]) (.seq (.seq (.reg [] false [⟨0,some 14,.mv (.t 4),none⟩,⟨0,(some
  15),.bin .neq (.t 14) (.c (.int .i64 0)),none⟩]) (.cond (.t 15) (.seq (.reg [] false [⟨0,some 16,.mv (.t 4),none⟩,⟨0,some 2,.mv (.c (.int
  .i64 0)),none⟩,⟨0,some 3,.mv (.c (.int .i64 0)),none⟩,⟨0,some 4,.mv (.t 16),none⟩]) .ret) .skip)) (.seq (.reg [(5,false)] false [⟨0,
  (some 17),.mv (.t 5),none⟩,⟨0,some 18,(.callf false (.c (.fn (.func 66) [] [])) [.t 17,.c (.int .i64 0)] []),none⟩,⟨0,some 6,(.alloc
  [.int .i64 0,.int .i64 0]),none⟩,⟨0,none,(.store 2 (.t 6) (.t 18) []),none⟩]) (.seq (.seq (.reg [] false [⟨0,some 7,.mv (.c (.int .i64 1)),
  none⟩]) (.block 0 x27l0)) (.seq (.reg [(6,true)] false [⟨0,some 34,.mv (.t 2),none⟩,⟨0,some 35,.load true 2 (.t 6),none⟩,⟨0,some 36,
  (.callf false (.c (.fn (.func 68) [] [])) [.t 35] []),none⟩,⟨0,some 2,.mv (.t 34),none⟩,⟨0,some 3,.mv (.t 36),none⟩,⟨0,some 4,(.mv
  (.c (.int .i64 0))),none⟩]) .ret))))))⟩
theorem is27 : FnIs prog 27 x27.fn := ⟨fun vs w => call27 vs w,_,_,func27,rfl,rfl,by kernel_rfl,by kernel_rfl⟩
theorem ok27 : okX x27.body = true := by kernel_rfl
theorem st27 : sitesP x27 x27.body := (sitesP_of rfl)

def x28l0 : XCode :=
  (.loop [4,6,17,18] (.seq (.reg [] false [⟨0,some 19,.bin .lss (.t 18) (.t 17),none⟩]) (.seq (.cond (.t 19) .skip (.exit 0)) (.seq (.block 1 (.seq
  (.reg [] false [⟨0,some 20,.mv (.t 18),none⟩,⟨0,some 7,.mv (.t 20),none⟩]) (.reg [(4,false)] false [⟨0,some 21,.mv (.t 6),none⟩,⟨0,
  (some 22),.mv (.t 4),none⟩,⟨0,some 23,.mv (.t 7),none⟩,⟨0,some 24,(.callf false (.c (.fn (.func 69) [] [])) [.t 22,.t 23] []),none⟩,
  ⟨0,some 25,(.callf false (.c (.fn (.func 70) [] [])) [.t 24] []),none⟩,⟨0,some 26,.mv (.t 4),none⟩,⟨0,some 27,.mv (.t 7),none⟩,⟨0,
  (some 28),(.callf false (.c (.fn (.func 71) [] [])) [.t 26,.t 27] []),none⟩,⟨0,some 29,(.callf false (.c (.fn (.func 68) [] [])) [.t 28] []),
  none⟩,⟨0,some 30,(.build [.int .i64 0,.int .i64 0] [(0,(1,(.t 25))),(1,(1,(.t 29)))]),none⟩,⟨0,some 31,(.bslice 2 1 [.int .i64 0,
  (.int .i64 0)] [(0,(2,(.t 30)))]),none⟩,⟨0,some 32,.app 2 16 (.t 21) (.t 31),none⟩,⟨0,some 6,.mv (.t 32),none⟩]))) (.reg [] false [⟨0,
  (some 33),.bin .add (.t 18) (.c (.int .i64 1)),none⟩,⟨0,some 18,.mv (.t 33),none⟩])))))
def x28 : XFn := ⟨35,[(2,none),(3,none)],false,false,
  (.seq (.reg [] false [⟨0,some 1,.box (.t 0),none⟩,⟨0,some 2,.mv (.c .nilsl),none⟩,⟨0,some 3,.mv (.c (.int .i64 0)),none⟩]) (.seq (.reg
  [(1,true)] false [⟨0,some 9,.load true 4 (.t 1),none⟩,⟨0,some 10,(.callf false (.c (.fn (.func 65) [] [])) [.t 9] []),none⟩,⟨0,some 8,
  (.mv (.t 10)),none⟩,⟨0,some 11,.ext (.t 8) 0,none⟩,⟨0,some 12,.ext (.t 8) 1,none⟩,⟨0,some 4,.mv (.t 11),none⟩,⟨0,some 5,(.mv
  (.t 12)),none⟩]) (.seq (.seq (.reg [] false [⟨0,some 13,.mv (.t 5),none⟩,⟨0,some 14,.bin .neq (.t 13) (.c (.int .i64 0)),none⟩]) (.cond (.t
  14) (.seq (.reg [] false [⟨0,some 15,.mv (.t 5),none⟩,⟨0,some 2,.mv (.c .nilsl),none⟩,⟨0,some 3,.mv (.t 15),none⟩]) .ret) .skip))
  (.seq (.reg [] false [⟨0,some 6,.mv (.c .nilsl),none⟩]) (.seq (.seq (.reg [] false [⟨0,some 16,.fld 0 (.t 1),none⟩,⟨0,some 17,(.load
  false 1 (.t 16)),none⟩,⟨0,some 18,.mv (.c (.int .i64 0)),none⟩]) (.block 0 x28l0)) (.seq (.reg [] false [⟨0,some 34,.mv (.t 6),none⟩,⟨0,
  (some 2),.mv (.t 34),none⟩,⟨0,some 3,.mv (.c (.int .i64 0)),none⟩]) .ret))))))⟩
theorem is28 : FnIs prog 28 x28.fn := ⟨fun vs w => call28 vs w,_,_,func28,rfl,rfl,by kernel_rfl,by kernel_rfl⟩
theorem ok28 : okX x28.body = true := by kernel_rfl
theorem st28 : sitesP x28 x28.body := (sitesP_of rfl)

def x29 : XFn := ⟨23,[(2,(some (false,1))),(3,(some (false,1))),(4,none)],false,false,
  (.seq (.reg [] false [⟨0,some 1,.box (.t 0),none⟩,⟨0,some 2,(.alloc [.nilsl]),none⟩,⟨0,some 3,(.alloc [.int .i64 0]),none⟩,⟨0,some 4,
  (.mv (.c (.int .i64 0))),none⟩]) (.seq (.reg [(1,true)] false [⟨0,some 9,.load true 5 (.t 1),none⟩,⟨0,some 10,(.callf false (.c (.fn (.func
  52) [] [])) [.t 9] []),none⟩,⟨0,some 8,.mv (.t 10),none⟩,⟨0,some 11,.ext (.t 8) 0,none⟩,⟨0,some 12,.ext (.t 8) 1,none⟩,⟨0,(some
  5),(.alloc [.nilpt]),none⟩,⟨0,none,(.store 1 (.t 5) (.t 11) []),none⟩,⟨0,some 4,.mv (.t 12),none⟩]) (.seq (.seq (.reg [] false [⟨0,some 13,
  (.mv (.t 4)),none⟩,⟨0,some 14,.bin .neq (.t 13) (.c (.int .i64 0)),none⟩]) (.cond (.t 14) (.seq (.reg [] false [⟨0,some 15,.mv (.t 4),none⟩,
  ⟨0,none,(.store 1 (.t 2) (.c .nilsl) []),none⟩,⟨0,none,(.store 1 (.t 3) (.c (.int .i64 0)) []),none⟩,⟨0,some 4,.mv (.t 15),none⟩]) .ret)
  .skip)) (.seq (.reg [(5,true)] false [⟨0,some 16,.load false 1 (.t 5),none⟩,⟨0,some 17,(.callf false (.c (.fn (.func 72) [] [])) [.t 16,(.c
  (.int .u64 0))] []),none⟩,⟨0,none,(.store 1 (.t 3) (.t 17) []),none⟩]) (.seq (.reg [] false [⟨0,some 6,(.alloc [.int .u64 0]),none⟩]) (.seq
  (.reg [] false [⟨0,some 7,(.alloc [.nilfn]),none⟩]) (.seq (.reg [] false [⟨0,some 18,(.mkf (.func 73) [] [.t 5,.t 6,.t 3,.t 2,.t 7]),
  none⟩,⟨0,none,(.store 1 (.t 7) (.t 18) []),none⟩]) (.seq (.reg [] false [⟨0,some 19,.load false 1 (.t 7),none⟩,⟨0,some 20,(.callf false (.t
  19) [] []),none⟩]) (.seq (.reg [] true [⟨0,some 21,.load false 1 (.t 2),none⟩,⟨1,some 22,.load false 1 (.t 3),none⟩,⟨2,none,(.store 1 (.t
  2) (.t 21) [1]),none⟩,⟨3,none,(.store 1 (.t 3) (.t 22) []),none⟩,⟨4,some 4,.mv (.c (.int .i64 0)),none⟩]) .ret)))))))))⟩
theorem is29 : FnIs prog 29 x29.fn := ⟨fun vs w => call29 vs w,_,_,func29,rfl,rfl,by kernel_rfl,by kernel_rfl⟩
theorem ok29 : okX x29.body = true := by kernel_rfl
theorem st29 : sitesP x29 x29.body := (sitesP_of rfl)

def x30 : XFn := ⟨29,[(5,none)],false,false,
  (.seq (.reg [] false [⟨0,some 4,.box (.t 1),none⟩,⟨0,some 5,.mv (.c (.int .i64 0)),none⟩]) (.seq (.seq (.reg [] false [⟨0,some 6,(.load
  false 1 (.t 2)),none⟩,⟨0,some 7,.len false (.t 6),none⟩,⟨0,some 8,.bin .eql (.t 7) (.c (.int .i64 0)),none⟩]) (.cond (.t 8) (.seq (.reg []
  false [⟨0,some 9,.fld 0 (.t 4),none⟩,⟨0,some 10,.load false 1 (.t 9),none⟩,⟨0,some 5,.mv (.t 10),none⟩]) .ret) .skip)) (.seq (.reg []
  true [⟨0,some 11,.fld 0 (.t 4),none⟩,⟨1,some 12,.load false 1 (.t 11),none⟩,⟨2,some 13,.load false 1 (.t 2),none⟩,⟨3,some 14,
  (.mv (.t 0)),none⟩,⟨4,some 15,.load false 1 (.t 2),none⟩,⟨5,some 16,.len false (.t 15),none⟩,⟨6,some 17,.bin .rem (.t 14) (.t 16),
  none⟩,⟨7,some 18,.idx 1 (.t 13) (.t 17),none⟩,⟨8,some 19,.load false 1 (.t 18),none⟩,⟨9,some 20,.conv .i64 (.t 19),none⟩,⟨10,(some
  21),.fld 1 (.t 4),none⟩,⟨11,some 22,.load false 1 (.t 21),none⟩,⟨12,some 23,.fld 0 (.t 4),none⟩,⟨13,some 24,.load false 1 (.t
  23),none⟩,⟨14,some 25,.bin .sub (.t 22) (.t 24),none⟩,⟨15,some 26,.bin .add (.t 25) (.c (.int .i64 1)),none⟩,⟨16,some 27,(.bin .rem
  (.t 20) (.t 26)),none⟩,⟨17,some 28,.bin .add (.t 12) (.t 27),none⟩,⟨18,some 5,.mv (.t 28),none⟩]) .ret)))⟩
theorem is30 : FnIs prog 30 x30.fn := ⟨fun vs w => call30 vs w,_,_,func30,rfl,rfl,by kernel_rfl,by kernel_rfl⟩
theorem ok30 : okX x30.body = true := by kernel_rfl
theorem st30 : sitesP x30 x30.body := (sitesP_of rfl)

def x52l0 : XCode :=
  (.loop [5,8,21,22,23,27,28,29] (.seq (.reg [] false [⟨0,some 30,.bin .lss (.t 29) (.t 28),none⟩]) (.seq (.cond (.t 30) .skip (.exit 2)) (.seq
  (.block 3 (.seq (.reg [] false [⟨0,some 31,.idx 1 (.t 27) (.t 29),none⟩,⟨0,some 32,.load false 1 (.t 31),none⟩,⟨0,some 10,.mv (.t 32),
  none⟩]) (.seq (.reg [] false [⟨0,some 33,.mv (.t 5),none⟩,⟨0,some 34,.mv (.t 10),none⟩,⟨0,some 35,.mv (.t 8),none⟩,⟨0,some 36,
  (.nilck (.t 33)),none⟩,⟨0,some 37,.fld 5 (.t 36),none⟩,⟨0,some 38,.idxa 10 1 (.t 37) (.t 34),none⟩,⟨0,none,(.store 1 (.t 38) (.t 35)
  []),none⟩]) (.reg [] false [⟨0,some 39,.mv (.t 8),none⟩,⟨0,some 40,.mv (.t 10),none⟩,⟨0,some 41,.bin .shl (.c (.int .u64 1)) (.t 40),
  none⟩,⟨0,some 42,.bin .or (.t 39) (.t 41),none⟩,⟨0,some 8,.mv (.t 42),none⟩])))) (.reg [] false [⟨0,some 43,.bin .add (.t 29) (.c (.int
  .i64 1)),none⟩,⟨0,some 29,.mv (.t 43),none⟩])))))
def x52l1 : XCode :=
  (.loop [5,21,22,23] (.seq (.reg [] false [⟨0,some 24,.bin .lss (.t 23) (.t 22),none⟩]) (.seq (.cond (.t 24) .skip (.exit 0)) (.seq (.block 1 (.seq
  (.reg [] false [⟨0,some 25,.idx 1 (.t 21) (.t 23),none⟩,⟨0,some 26,.load false 1 (.t 25),none⟩,⟨0,some 7,.mv (.t 26),none⟩]) (.seq
  (.reg [] false [⟨0,some 8,.mv (.c (.int .u64 0)),none⟩]) (.seq (.reg [] false [⟨0,some 27,.mv (.t 7),none⟩,⟨0,some 28,.len false (.t
  27),none⟩,⟨0,some 29,.mv (.c (.int .i64 0)),none⟩]) (.block 2 x52l0))))) (.reg [] false [⟨0,some 44,.bin .add (.t 23) (.c (.int .i64 1)),
  none⟩,⟨0,some 23,.mv (.t 44),none⟩])))))
def x52 : XFn := ⟨46,[(2,none),(3,none)],false,false,
  (.seq (.reg [] false [⟨0,some 1,.box (.t 0),none⟩,⟨0,some 2,.mv (.c .nilpt),none⟩,⟨0,some 3,.mv (.c (.int .i64 0)),none⟩]) (.seq (.seq
  (.reg [(1,true)] false [⟨0,some 11,.load true 5 (.t 1),none⟩,⟨0,some 12,(.callf false (.c (.fn (.func 22) [] [])) [.t 11] []),none⟩,⟨0,
  (some 4),.mv (.t 12),none⟩]) (.seq (.reg [] false [⟨0,some 13,.mv (.t 4),none⟩,⟨0,some 14,.bin .neq (.t 13) (.c (.int .i64 0)),none⟩])
  (.cond (.t 14) (.seq (.reg [] false [⟨0,some 15,.mv (.t 4),none⟩,⟨0,some 2,.mv (.c .nilpt),none⟩,⟨0,some 3,.mv (.t 15),none⟩]) .ret)
  .skip))) (.seq (.reg [] false [⟨0,some 16,.load true 5 (.t 1),none⟩,⟨0,some 17,.mkmap,none⟩,⟨0,some 18,(.build [.nilsl,.nilsl,.nilsl,
  (.int .i64 0),.int .i64 0,.int .u64 0,.int .u64 0,.int .u64 0,.int .u64 0,.int .u64 0,.int .u64 0,.int .u64 0,.int .u64 0,(.int
  .u64 0),.int .u64 0,.nilmap] [(0,(5,(.t 16))),(15,(1,(.t 17)))]),none⟩,⟨0,some 19,.box (.t 18),none⟩,⟨0,some 5,.mv (.t 19),none⟩])
  (.seq (.seq (.reg [] false [⟨0,some 20,.fld 2 (.t 1),none⟩,⟨0,some 21,.load false 1 (.t 20),none⟩,⟨0,some 22,.len false (.t 21),
  none⟩,⟨0,some 23,.mv (.c (.int .i64 0)),none⟩]) (.block 0 x52l1)) (.seq (.reg [] false [⟨0,some 45,.mv (.t 5),none⟩,⟨0,some 2,.mv (.t
  45),none⟩,⟨0,some 3,.mv (.c (.int .i64 0)),none⟩]) .ret)))))⟩
theorem is52 : FnIs prog 52 x52.fn := ⟨fun vs w => call52 vs w,_,_,func52,rfl,rfl,by kernel_rfl,by kernel_rfl⟩
theorem ok52 : okX x52.body = true := by kernel_rfl
theorem st52 : sitesP x52 x52.body := (sitesP_of rfl)

def x54l0 : XCode :=
  (.loop [1,5,8,9,10] (.seq (.reg [] false [⟨0,some 11,.bin .lss (.t 10) (.t 9),none⟩]) (.seq (.cond (.t 11) .skip (.exit 0)) (.seq (.block 1 (.seq
  (.reg [] false [⟨0,some 12,.idx 2 (.t 8) (.t 10),none⟩,⟨0,some 13,.load true 2 (.t 12),none⟩,⟨0,some 7,(.alloc [.int .i64 0,(.int
  .i64 0)]),none⟩,⟨0,none,(.store 2 (.t 7) (.t 13) []),none⟩]) (.seq (.reg [] false [⟨0,some 14,.fld 0 (.t 7),none⟩,⟨0,some 15,(.load false 1
  (.t 14)),none⟩,⟨0,some 16,.mv (.t 1),none⟩,⟨0,some 17,.bin .leq (.t 15) (.t 16),none⟩]) (.cond (.t 17) (.reg [] false [⟨0,some 18,(.fld
  1 (.t 7)),none⟩,⟨0,some 19,.load false 1 (.t 18),none⟩,⟨0,some 5,.mv (.t 19),none⟩]) .skip)))) (.reg [] false [⟨0,some 20,(.bin .add
  (.t 10) (.c (.int .i64 1))),none⟩,⟨0,some 10,.mv (.t 20),none⟩])))))
def x54 : XFn := ⟨22,[(4,none)],false,false,
  (.seq (.reg [] false [⟨0,some 4,.mv (.c (.int .i64 0)),none⟩]) (.seq (.reg [] false [⟨0,some 5,.mv (.c (.int .i64 0)),none⟩]) (.seq (.seq (.reg
  [] false [⟨0,some 8,.mv (.t 0),none⟩,⟨0,some 9,.len false (.t 8),none⟩,⟨0,some 10,.mv (.c (.int .i64 0)),none⟩]) (.block 0 x54l0))
  (.seq (.reg [] false [⟨0,some 21,.mv (.t 5),none⟩,⟨0,some 4,.mv (.t 21),none⟩]) .ret))))⟩
theorem is54 : FnIs prog 54 x54.fn := ⟨fun vs w => call54 vs w,_,_,func54,rfl,rfl,by kernel_rfl,by kernel_rfl⟩
theorem ok54 : okX x54.body = true := by kernel_rfl
theorem st54 : sitesP x54 x54.body := (sitesP_of rfl)

def x57l0 : XCode :=
  (.loop [3,10,11,12] (.seq (.reg [] false [⟨0,some 13,.bin .lss (.t 12) (.t 11),none⟩]) (.seq (.cond (.t 13) .skip (.exit 0)) (.seq (.block 1 (.seq
  (.reg [] false [⟨0,some 14,.idx 2 (.t 10) (.t 12),none⟩,⟨0,some 15,.load true 2 (.t 14),none⟩,⟨0,some 5,(.alloc [.int .i64 0,(.int
  .i64 0)]),none⟩,⟨0,none,(.store 2 (.t 5) (.t 15) []),none⟩]) (.seq (.block 2 (.seq (.reg [(5,true)] false [⟨0,some 17,.fld 0 (.t 5),none⟩,⟨0,
  (some 18),.load false 1 (.t 17),none⟩,⟨0,some 19,(.callf false (.c (.fn (.func 58) [] [])) [.c (.int .i64 0),.t 18,.c (.int .i64 100000)]
  []),none⟩,⟨0,some 20,.not (.t 19),none⟩,⟨0,some 21,.mv (.t 20),none⟩,⟨0,some 22,.fld 1 (.t 5),some (21,false)⟩,⟨0,some 23,
  (.load false 1 (.t 22)),some (21,false)⟩,⟨0,some 24,(.callf false (.c (.fn (.func 58) [] [])) [.c (.int .i64 1),.t 23,.c (.int .i64
  1000000)] []),some (21,false)⟩,⟨0,some 25,.not (.t 24),some (21,false)⟩,⟨0,some 26,.pick (.t 21) (.c (.bool true)) (.t 25),none⟩,
  ⟨0,some 16,.mv (.t 26),none⟩]) (.cond (.t 16) (.seq (.reg [] false [⟨0,some 2,.mv (.c (.int .i64 2)),none⟩]) .ret) (.seq (.reg [] false [⟨0,
  (some 28),.fld 0 (.t 5),none⟩,⟨0,some 29,.load false 1 (.t 28),none⟩,⟨0,some 30,.fld 0 (.t 3),none⟩,⟨0,some 31,.load false 1 (.t
  30),none⟩,⟨0,some 32,.bin .leq (.t 29) (.t 31),none⟩,⟨0,some 33,.mv (.t 32),none⟩,⟨0,some 34,.fld 1 (.t 5),some (33,false)⟩,
  ⟨0,some 35,.load false 1 (.t 34),some (33,false)⟩,⟨0,some 36,.fld 1 (.t 3),some (33,false)⟩,⟨0,some 37,.load false 1 (.t 36),
  (some (33,false))⟩,⟨0,some 38,.bin .leq (.t 35) (.t 37),some (33,false)⟩,⟨0,some 39,.pick (.t 33) (.c (.bool true)) (.t 38),none⟩,⟨0,
  (some 27),.mv (.t 39),none⟩]) (.cond (.t 27) (.seq (.reg [] false [⟨0,some 2,.mv (.c (.int .i64 7)),none⟩]) .ret) .skip))))) (.reg [] false [⟨0,
  (some 40),.load true 2 (.t 5),none⟩,⟨0,none,(.store 2 (.t 3) (.t 40) []),none⟩])))) (.reg [] false [⟨0,some 41,.bin .add (.t 12) (.c (.int .i64
  1)),none⟩,⟨0,some 12,.mv (.t 41),none⟩])))))
def x57 : XFn := ⟨42,[(2,none)],false,false,
  (.seq (.reg [] false [⟨0,some 2,.mv (.c (.int .i64 0)),none⟩]) (.seq (.seq (.reg [] false [⟨0,some 6,.mv (.t 0),none⟩,⟨0,some 7,(.len false
  (.t 6)),none⟩,⟨0,some 8,.bin .gtr (.t 7) (.c (.int .i64 8)),none⟩]) (.cond (.t 8) (.seq (.reg [] false [⟨0,some 2,.mv (.c (.int .i64 1)),
  none⟩]) .ret) .skip)) (.seq (.reg [] false [⟨0,some 9,(.build [.int .i64 0,.int .i64 0] [(0,(1,(.c (.int .i64 (-1))))),(1,(1,(.c (.int .i64
  0))))]),none⟩,⟨0,some 3,(.alloc [.int .i64 0,.int .i64 0]),none⟩,⟨0,none,(.store 2 (.t 3) (.t 9) []),none⟩]) (.seq (.seq (.reg [] false [⟨0,
  (some 10),.mv (.t 0),none⟩,⟨0,some 11,.len false (.t 10),none⟩,⟨0,some 12,.mv (.c (.int .i64 0)),none⟩]) (.block 0 x57l0)) (.seq (.reg
  [] false [⟨0,some 2,.mv (.c (.int .i64 0)),none⟩]) .ret)))))⟩
theorem is57 : FnIs prog 57 x57.fn := ⟨fun vs w => call57 vs w,_,_,func57,rfl,rfl,by kernel_rfl,by kernel_rfl⟩
theorem ok57 : okX x57.body = true := by kernel_rfl
theorem st57 : sitesP x57 x57.body := (sitesP_of rfl)

def x58 : XFn := ⟨15,[(6,none)],false,false,
  (.seq (.reg [] false [⟨0,some 6,.mv (.c (.bool false)),none⟩]) (.seq (.reg [] false [⟨0,some 7,.mv (.t 0),none⟩,⟨0,some 8,.mv (.t 1),
  none⟩,⟨0,some 9,.bin .leq (.t 7) (.t 8),none⟩,⟨0,some 10,.mv (.t 9),none⟩,⟨0,some 11,.mv (.t 1),some (10,true)⟩,⟨0,some 12,
  (.mv (.t 2)),some (10,true)⟩,⟨0,some 13,.bin .leq (.t 11) (.t 12),some (10,true)⟩,⟨0,some 14,.pick (.t 10) (.t 13) (.c (.bool false)),
  none⟩,⟨0,some 6,.mv (.t 14),none⟩]) .ret))⟩
theorem is58 : FnIs prog 58 x58.fn := ⟨fun vs w => call58 vs w,_,_,func58,rfl,rfl,by kernel_rfl,by kernel_rfl⟩
theorem ok58 : okX x58.body = true := by kernel_rfl
theorem st58 : sitesP x58 x58.body := (sitesP_of rfl)

def x59 : XFn := ⟨24,[(6,none)],false,false,
  (.seq (.reg [] false [⟨0,some 3,.box (.t 0),none⟩,⟨0,some 6,.mv (.c (.bool false)),none⟩]) (.seq (.reg [] false [⟨0,some 7,.mv (.t 1),
  none⟩,⟨0,some 8,.fld 0 (.t 3),none⟩,⟨0,some 9,.load false 1 (.t 8),none⟩,⟨0,some 10,.bin .leq (.t 7) (.t 9),none⟩,⟨0,some 11,
  (.mv (.t 10)),none⟩,⟨0,some 12,.fld 0 (.t 3),some (11,true)⟩,⟨0,some 13,.load false 1 (.t 12),some (11,true)⟩,⟨0,some 14,(.fld 1
  (.t 3)),some (11,true)⟩,⟨0,some 15,.load false 1 (.t 14),some (11,true)⟩,⟨0,some 16,.bin .leq (.t 13) (.t 15),some (11,true)⟩,⟨0,
  (some 17),.pick (.t 11) (.t 16) (.c (.bool false)),none⟩,⟨0,some 18,.mv (.t 17),none⟩,⟨0,some 19,.fld 1 (.t 3),some (18,true)⟩,⟨0,
  (some 20),.load false 1 (.t 19),some (18,true)⟩,⟨0,some 21,.mv (.t 2),some (18,true)⟩,⟨0,some 22,.bin .leq (.t 20) (.t 21),(some
  (18,true))⟩,⟨0,some 23,.pick (.t 18) (.t 22) (.c (.bool false)),none⟩,⟨0,some 6,.mv (.t 23),none⟩]) .ret))⟩
theorem is59 : FnIs prog 59 x59.fn := ⟨fun vs w => call59 vs w,_,_,func59,rfl,rfl,by kernel_rfl,by kernel_rfl⟩
theorem ok59 : okX x59.body = true := by kernel_rfl
theorem st59 : sitesP x59 x59.body := (sitesP_of rfl)

def x60l0 : XCode :=
  (.loop [1,3,9,10,11,18,19,20] (.seq (.reg [] false [⟨0,some 21,.bin .lss (.t 20) (.t 19),none⟩]) (.seq (.cond (.t 21) .skip (.exit 2)) (.seq
  (.block 3 (.seq (.reg [] false [⟨0,some 22,.idx 1 (.t 18) (.t 20),none⟩,⟨0,some 23,.load false 1 (.t 22),none⟩,⟨0,some 7,.mv (.t 23),
  none⟩]) (.seq (.block 4 (.seq (.reg [] false [⟨0,some 25,.mv (.t 7),none⟩,⟨0,some 26,.fld 1 (.t 1),none⟩,⟨0,some 27,.load false 1 (.t
  26),none⟩,⟨0,some 28,.len false (.t 27),none⟩,⟨0,some 29,.bin .sub (.t 28) (.c (.int .i64 1)),none⟩,⟨0,some 30,(.callf false (.c (.fn
  (.func 58) [] [])) [.c (.int .i64 0),.t 25,.t 29] []),none⟩,⟨0,some 31,.not (.t 30),none⟩,⟨0,some 24,.mv (.t 31),none⟩]) (.cond (.t
  24) (.seq (.reg [] false [⟨0,some 2,.mv (.c (.int .i64 5)),none⟩]) .ret) (.seq (.reg [] false [⟨0,some 33,.mv (.t 3),none⟩,⟨0,some 34,
  (.mv (.t 7)),none⟩,⟨0,some 35,(.callf false (.c (.fn (.func 83) [] [])) [.t 33,.t 34] []),none⟩,⟨0,some 32,.mv (.t 35),none⟩]) (.cond
  (.t 32) (.seq (.reg [] false [⟨0,some 2,.mv (.c (.int .i64 6)),none⟩]) .ret) .skip))))) (.reg [] false [⟨0,some 36,.mv (.t 3),none⟩,⟨0,(some
  37),.mv (.t 7),none⟩,⟨0,some 38,.bin .shl (.c (.int .u64 1)) (.t 37),none⟩,⟨0,some 39,.bin .or (.t 36) (.t 38),none⟩,⟨0,some 3,(.mv
  (.t 39)),none⟩])))) (.reg [] false [⟨0,some 40,.bin .add (.t 20) (.c (.int .i64 1)),none⟩,⟨0,some 20,.mv (.t 40),none⟩])))))
def x60l1 : XCode :=
  (.loop [1,3,9,10,11] (.seq (.reg [] false [⟨0,some 12,.bin .lss (.t 11) (.t 10),none⟩]) (.seq (.cond (.t 12) .skip (.exit 0)) (.seq (.block 1 (.seq
  (.reg [] false [⟨0,some 13,.idx 1 (.t 9) (.t 11),none⟩,⟨0,some 14,.load false 1 (.t 13),none⟩,⟨0,some 5,.mv (.t 14),none⟩]) (.seq
  (.seq (.reg [] false [⟨0,some 15,.mv (.t 5),none⟩,⟨0,some 16,.len false (.t 15),none⟩,⟨0,some 17,.bin .eql (.t 16) (.c (.int .i64 0)),
  none⟩]) (.cond (.t 17) (.seq (.reg [] false [⟨0,some 2,.mv (.c (.int .i64 4)),none⟩]) .ret) .skip)) (.seq (.reg [] false [⟨0,some 18,.mv (.t
  5),none⟩,⟨0,some 19,.len false (.t 18),none⟩,⟨0,some 20,.mv (.c (.int .i64 0)),none⟩]) (.block 2 x60l0))))) (.reg [] false [⟨0,some 41,
  (.bin .add (.t 11) (.c (.int .i64 1))),none⟩,⟨0,some 11,.mv (.t 41),none⟩])))))
def x60 : XFn := ⟨48,[(2,none)],false,false,
  (.seq (.reg [] false [⟨0,some 1,.box (.t 0),none⟩,⟨0,some 2,.mv (.c (.int .i64 0)),none⟩]) (.seq (.reg [] false [⟨0,some 3,.mv (.c (.int
  .u64 0)),none⟩]) (.seq (.seq (.reg [] false [⟨0,some 8,.fld 2 (.t 1),none⟩,⟨0,some 9,.load false 1 (.t 8),none⟩,⟨0,some 10,(.len false
  (.t 9)),none⟩,⟨0,some 11,.mv (.c (.int .i64 0)),none⟩]) (.block 0 x60l1)) (.seq (.seq (.reg [] true [⟨0,some 42,.mv (.t 3),none⟩,⟨2,(some
  44),.fld 1 (.t 1),none⟩,⟨3,some 45,.load false 1 (.t 44),none⟩,⟨4,some 46,.len false (.t 45),none⟩,⟨1,some 43,(.callf false (.c
  (.fn (.func 93) [] [])) [.t 42] [3]),none⟩,⟨5,some 47,.bin .lss (.t 43) (.t 46),none⟩]) (.cond (.t 47) (.seq (.reg [] false [⟨0,some 2,(.mv
  (.c (.int .i64 3))),none⟩]) .ret) .skip)) (.seq (.reg [] false [⟨0,some 2,.mv (.c (.int .i64 0)),none⟩]) .ret)))))⟩
theorem is60 : FnIs prog 60 x60.fn := ⟨fun vs w => call60 vs w,_,_,func60,rfl,rfl,by kernel_rfl,by kernel_rfl⟩
theorem ok60 : okX x60.body = true := by kernel_rfl
theorem st60 : sitesP x60 x60.body := (sitesP_of rfl)

def x65 : XFn := ⟨22,[(2,none),(3,none)],false,false,
  (.seq (.reg [] false [⟨0,some 1,.box (.t 0),none⟩,⟨0,some 2,.mv (.c .nilpt),none⟩,⟨0,some 3,.mv (.c (.int .i64 0)),none⟩]) (.seq (.seq
  (.reg [(1,true)] false [⟨0,some 8,.load true 4 (.t 1),none⟩,⟨0,some 9,(.callf false (.c (.fn (.func 94) [] [])) [.t 8] []),none⟩,⟨0,(some
  4),.mv (.t 9),none⟩]) (.seq (.reg [] false [⟨0,some 10,.mv (.t 4),none⟩,⟨0,some 11,.bin .neq (.t 10) (.c (.int .i64 0)),none⟩]) (.cond
  (.t 11) (.seq (.reg [] false [⟨0,some 12,.mv (.t 4),none⟩,⟨0,some 2,.mv (.c .nilpt),none⟩,⟨0,some 3,.mv (.t 12),none⟩]) .ret)
  .skip))) (.seq (.reg [(1,true)] false [⟨0,some 13,.load true 4 (.t 1),none⟩,⟨0,some 14,(.callf false (.c (.fn (.func 95) [] [])) [.t 13] []),
  none⟩,⟨0,some 5,.mv (.t 14),none⟩]) (.seq (.seq (.reg [(5,false)] false [⟨0,some 16,.mv (.t 5),none⟩,⟨0,some 17,(.callf false (.c (.fn
  (.func 96) [] [])) [.t 16] []),none⟩,⟨0,some 15,.mv (.t 17),none⟩,⟨0,some 18,.ext (.t 15) 0,none⟩,⟨0,some 19,.ext (.t 15) 1,
  none⟩,⟨0,some 6,.mv (.t 18),none⟩,⟨0,some 7,.mv (.t 19),none⟩]) (.seq (.reg [] false [⟨0,some 20,.mv (.t 7),none⟩]) (.cond (.t 20)
  (.seq (.reg [] false [⟨0,some 2,.mv (.c .nilpt),none⟩,⟨0,some 3,.mv (.c (.int .i64 12)),none⟩]) .ret) .skip))) (.seq (.reg [] false [⟨0,
  (some 21),.mv (.t 5),none⟩,⟨0,some 2,.mv (.t 21),none⟩,⟨0,some 3,.mv (.c (.int .i64 0)),none⟩]) .ret)))))⟩
theorem is65 : FnIs prog 65 x65.fn := ⟨fun vs w => call65 vs w,_,_,func65,rfl,rfl,by kernel_rfl,by kernel_rfl⟩
theorem ok65 : okX x65.body = true := by kernel_rfl
theorem st65 : sitesP x65 x65.body := (sitesP_of rfl)

def x66l0 : XCode :=
  (.loop [0,1,4,5,12,13] (.seq (.reg [] false [⟨0,some 14,.bin .lss (.t 13) (.t 12),none⟩]) (.seq (.cond (.t 14) .skip (.exit 0)) (.seq (.block 1
  (.seq (.reg [] false [⟨0,some 15,.mv (.t 13),none⟩,⟨0,some 6,.mv (.t 15),none⟩]) (.seq (.reg [(0,false)] false [⟨0,some 16,.mv (.t 6),
  none⟩,⟨0,some 17,.mv (.t 0),none⟩,⟨0,some 18,.mv (.t 6),none⟩,⟨0,some 19,(.callf false (.c (.fn (.func 71) [] [])) [.t 17,.t 18]
  []),none⟩,⟨0,some 20,(.build [.int .i64 0,.int .i64 0,.int .i64 0] [(0,(1,(.t 16))),(1,(2,(.t 19)))]),none⟩,⟨0,some 7,(.alloc
  [.int .i64 0,.int .i64 0,.int .i64 0]),none⟩,⟨0,none,(.store 3 (.t 7) (.t 20) []),none⟩]) (.reg [(0,false),(1,false),(7,true),(5,true)]
  true [⟨0,some 21,.load true 2 (.t 5),none⟩,⟨1,some 22,.fld 1 (.t 7),none⟩,⟨2,some 23,.load true 2 (.t 22),none⟩,⟨3,some 24,(.mv
  (.t 0)),none⟩,⟨4,some 25,.mv (.t 1),none⟩,⟨5,some 26,.load true 3 (.t 7),none⟩,⟨6,some 27,(.callf false (.c (.fn (.func 100) [] []))
  [.t 24,.t 25,.t 26] [0,2]),none⟩,⟨7,some 28,(.callf false (.c (.fn (.func 99) [] [])) [.t 23,.t 27] [0]),none⟩,⟨8,some 29,(.bslice
  2 1 [.int .i64 0,.int .i64 0] [(0,(2,(.t 28)))]),none⟩,⟨9,some 30,(.callf false (.c (.fn (.func 98) [] [])) [.c (.fn (.func 67) [] []),(.t
  21),.t 29] []),none⟩,⟨10,none,(.store 2 (.t 5) (.t 30) []),none⟩])))) (.reg [] false [⟨0,some 31,.bin .add (.t 13) (.c (.int .i64 1)),none⟩,
  ⟨0,some 13,.mv (.t 31),none⟩])))))
def x66 : XFn := ⟨33,[(4,(some (true,2)))],false,false,
  (.seq (.reg [] false [⟨0,some 4,(.alloc [.int .i64 0,.int .i64 0]),none⟩]) (.seq (.reg [] false [⟨0,some 8,(.callf false (.c (.fn (.func 97) []
  [])) [.c (.int .i64 0)] []),none⟩,⟨0,some 5,(.alloc [.int .i64 0,.int .i64 0]),none⟩,⟨0,none,(.store 2 (.t 5) (.t 8) []),none⟩]) (.seq
  (.seq (.reg [] false [⟨0,some 9,.mv (.t 0),none⟩,⟨0,some 10,.nilck (.t 9),none⟩,⟨0,some 11,.fld 0 (.t 10),none⟩,⟨0,some 12,
  (.load false 1 (.t 11)),none⟩,⟨0,some 13,.mv (.c (.int .i64 0)),none⟩]) (.block 0 x66l0)) (.seq (.reg [] false [⟨0,some 32,.load true 2 (.t
  5),none⟩,⟨0,none,(.store 2 (.t 4) (.t 32) []),none⟩]) .ret))))⟩
theorem is66 : FnIs prog 66 x66.fn := ⟨fun vs w => call66 vs w,_,_,func66,rfl,rfl,by kernel_rfl,by kernel_rfl⟩
theorem ok66 : okX x66.body = true := by kernel_rfl
theorem st66 : sitesP x66 x66.body := (sitesP_of rfl)

def x67 : XFn := ⟨25,[(4,none)],false,false,
  (.seq (.reg [] false [⟨0,some 2,.box (.t 0),none⟩,⟨0,some 3,.box (.t 1),none⟩,⟨0,some 4,.mv (.c (.int .i64 0)),none⟩]) (.seq (.seq
  (.reg [] true [⟨0,some 7,.fld 0 (.t 2),none⟩,⟨1,some 8,.load false 1 (.t 7),none⟩,⟨2,some 9,.fld 1 (.t 3),none⟩,⟨3,some 10,
  (.load false 1 (.t 9)),none⟩,⟨4,some 11,.bin .mul (.t 8) (.t 10),none⟩,⟨5,some 12,.fld 0 (.t 3),none⟩,⟨6,some 13,.load false 1 (.t
  12),none⟩,⟨7,some 14,.fld 1 (.t 2),none⟩,⟨8,some 15,.load false 1 (.t 14),none⟩,⟨9,some 16,.bin .mul (.t 13) (.t 15),none⟩,⟨10,
  (some 5),.mv (.t 11),none⟩,⟨11,some 6,.mv (.t 16),none⟩]) (.block 0 (.seq (.reg [] false [⟨0,some 18,.mv (.t 5),none⟩,⟨0,some 19,
  (.mv (.t 6)),none⟩,⟨0,some 20,.bin .lss (.t 18) (.t 19),none⟩,⟨0,some 17,.mv (.t 20),none⟩]) (.cond (.t 17) (.seq (.reg [] false [⟨0,(some
  4),.mv (.c (.int .i64 (-1))),none⟩]) .ret) (.seq (.reg [] false [⟨0,some 22,.mv (.t 5),none⟩,⟨0,some 23,.mv (.t 6),none⟩,⟨0,some 24,
  (.bin .gtr (.t 22) (.t 23)),none⟩,⟨0,some 21,.mv (.t 24),none⟩]) (.cond (.t 21) (.seq (.reg [] false [⟨0,some 4,.mv (.c (.int .i64 1)),
  none⟩]) .ret) .skip)))))) (.seq (.reg [] false [⟨0,some 4,.mv (.c (.int .i64 0)),none⟩]) .ret)))⟩
theorem is67 : FnIs prog 67 x67.fn := ⟨fun vs w => call67 vs w,_,_,func67,rfl,rfl,by kernel_rfl,by kernel_rfl⟩
theorem ok67 : okX x67.body = true := by kernel_rfl
theorem st67 : sitesP x67 x67.body := (sitesP_of rfl)

def x68 : XFn := ⟨11,[(2,none)],false,false,
  (.seq (.reg [] false [⟨0,some 1,.box (.t 0),none⟩,⟨0,some 2,.mv (.c (.int .i64 0)),none⟩]) (.seq (.reg [] false [⟨0,some 3,.fld 0 (.t 1),
  none⟩,⟨0,some 4,.load false 1 (.t 3),none⟩,⟨0,some 5,.neg (.t 4),none⟩,⟨0,some 6,.fld 1 (.t 1),none⟩,⟨0,some 7,(.load false 1
  (.t 6)),none⟩,⟨0,some 8,(.build [.int .i64 0,.int .i64 0] [(0,(1,(.t 5))),(1,(1,(.t 7)))]),none⟩,⟨0,some 9,(.callf false (.c (.fn
  (.func 70) [] [])) [.t 8] []),none⟩,⟨0,some 10,.neg (.t 9),none⟩,⟨0,some 2,.mv (.t 10),none⟩]) .ret))⟩
theorem is68 : FnIs prog 68 x68.fn := ⟨fun vs w => call68 vs w,_,_,func68,rfl,rfl,by kernel_rfl,by kernel_rfl⟩
theorem ok68 : okX x68.body = true := by kernel_rfl
theorem st68 : sitesP x68 x68.body := (sitesP_of rfl)

def x69 : XFn := ⟨23,[(4,(some (true,2)))],false,false,
  (.seq (.reg [] false [⟨0,some 4,(.alloc [.int .i64 0,.int .i64 0]),none⟩]) (.seq (.reg [] false [⟨0,some 7,.mv (.t 0),none⟩,⟨0,some 8,
  (.mv (.t 1)),none⟩,⟨0,some 9,.nilck (.t 7),none⟩,⟨0,some 10,.fld 1 (.t 9),none⟩,⟨0,some 11,.idxa 30 1 (.t 10) (.t 8),none⟩,⟨0,
  (some 12),.load false 1 (.t 11),none⟩,⟨0,some 13,(.callf false (.c (.fn (.func 97) [] [])) [.t 12] []),none⟩,⟨0,some 5,(.alloc [(.int .i64
  0),.int .i64 0]),none⟩,⟨0,none,(.store 2 (.t 5) (.t 13) []),none⟩]) (.seq (.seq (.reg [(0,false)] false [⟨0,some 14,.mv (.t 0),none⟩,⟨0,
  (some 15),.mv (.t 1),none⟩,⟨0,some 16,(.callf false (.c (.fn (.func 101) [] [])) [.t 14,.t 15] []),none⟩]) (.block 0 (.rng 0 [5] (.t 16) [17]
  (.reg [] false [⟨0,some 6,(.alloc [.int .i64 0,.int .i64 0]),none⟩,⟨0,none,(.store 2 (.t 6) (.t 17) []),none⟩]) (.block 1 (.reg [(6,true),
  (5,true)] false [⟨0,some 18,.load true 2 (.t 5),none⟩,⟨0,some 19,.load true 2 (.t 6),none⟩,⟨0,some 20,(.bslice 2 1 [.int .i64 0,
  (.int .i64 0)] [(0,(2,(.t 19)))]),none⟩,⟨0,some 21,(.callf false (.c (.fn (.func 98) [] [])) [.c (.fn (.func 67) [] []),.t 18,.t 20] []),
  none⟩,⟨0,none,(.store 2 (.t 5) (.t 21) []),none⟩]))))) (.seq (.reg [] false [⟨0,some 22,.load true 2 (.t 5),none⟩,⟨0,none,(.store 2 (.t 4) (.t
  22) []),none⟩]) .ret))))⟩
theorem is69 : FnIs prog 69 x69.fn := ⟨fun vs w => call69 vs w,_,_,func69,rfl,rfl,by kernel_rfl,by kernel_rfl⟩
theorem ok69 : okX x69.body = true := by kernel_rfl
theorem st69 : sitesP x69 x69.body := ⟨sitesP_of rfl,⟨sitesP_of rfl,⟨⟨sitesP_of rfl,⟨by kernel_rfl,sitesP_of rfl,sitesP_of rfl⟩⟩,sitesP_of rfl⟩⟩⟩

def x70 : XFn := ⟨18,[(2,none)],false,false,
  (.seq (.reg [] false [⟨0,some 1,.box (.t 0),none⟩,⟨0,some 2,.mv (.c (.int .i64 0)),none⟩]) (.seq (.reg [] false [⟨0,some 4,.fld 0 (.t 1),
  none⟩,⟨0,some 5,.load false 1 (.t 4),none⟩,⟨0,some 6,.fld 1 (.t 1),none⟩,⟨0,some 7,.load false 1 (.t 6),none⟩,⟨0,some 8,(.bin
  .quo (.t 5) (.t 7)),none⟩,⟨0,some 3,.mv (.t 8),none⟩]) (.seq (.seq (.reg [] false [⟨0,some 9,.fld 0 (.t 1),none⟩,⟨0,some 10,(.load
  false 1 (.t 9)),none⟩,⟨0,some 11,.fld 1 (.t 1),none⟩,⟨0,some 12,.load false 1 (.t 11),none⟩,⟨0,some 13,.bin .rem (.t 10) (.t 12),
  none⟩,⟨0,some 14,.bin .lss (.t 13) (.c (.int .i64 0)),none⟩]) (.cond (.t 14) (.reg [] false [⟨0,some 15,.mv (.t 3),none⟩,⟨0,some 16,
  (.bin .sub (.t 15) (.c (.int .i64 1))),none⟩,⟨0,some 3,.mv (.t 16),none⟩]) .skip)) (.seq (.reg [] false [⟨0,some 17,.mv (.t 3),none⟩,⟨0,
  (some 2),.mv (.t 17),none⟩]) .ret))))⟩
theorem is70 : FnIs prog 70 x70.fn := ⟨fun vs w => call70 vs w,_,_,func70,rfl,rfl,by kernel_rfl,by kernel_rfl⟩
theorem ok70 : okX x70.body = true := by kernel_rfl
theorem st70 : sitesP x70 x70.body := (sitesP_of rfl)

def x71l0 : XCode :=
  (.loop [3,4,5,6,7,8,20,21] (.seq (.seq (.reg [] false [⟨0,some 28,.mv (.t 8),none⟩,⟨0,some 29,.mv (.t 7),none⟩,⟨0,some 30,(.load
  false 1 (.t 3)),none⟩,⟨0,some 31,.mm true (.t 29) (.t 30),none⟩,⟨0,some 32,.bin .lss (.t 28) (.t 31),none⟩]) (.cond (.t 32) .skip (.exit
  2))) (.seq (.block 3 (.reg [] false [⟨0,some 35,.mv (.t 6),none⟩,⟨0,some 36,.mv (.t 7),none⟩,⟨0,some 37,.mv (.t 8),none⟩,⟨0,(some
  38),(.callf false (.t 35) [.t 36,.t 37] []),none⟩])) (.reg [] false [⟨0,some 33,.mv (.t 8),none⟩,⟨0,some 34,.bin .add (.t 33) (.c (.int
  .i64 1)),none⟩,⟨0,some 8,.mv (.t 34),none⟩]))))
def x71l1 : XCode :=
  (.loop [3,4,5,6,20,21] (.seq (.reg [] false [⟨0,some 22,.bin .lss (.t 21) (.t 20),none⟩]) (.seq (.cond (.t 22) .skip (.exit 0)) (.seq (.block 1
  (.seq (.reg [] false [⟨0,some 23,.mv (.t 21),none⟩,⟨0,some 7,.mv (.t 23),none⟩]) (.seq (.reg [] false [⟨0,some 24,.mv (.t 7),none⟩,
  ⟨0,some 25,.load false 1 (.t 3),none⟩,⟨0,some 26,.mm false (.t 24) (.t 25),none⟩,⟨0,some 27,.bin .add (.t 26) (.c (.int .i64 1)),
  none⟩,⟨0,some 8,.mv (.t 27),none⟩]) (.block 2 x71l0)))) (.reg [] false [⟨0,some 39,.bin .add (.t 21) (.c (.int .i64 1)),none⟩,⟨0,some 21,
  (.mv (.t 39)),none⟩])))))
def x71 : XFn := ⟨41,[(4,(some (true,2)))],false,false,
  (.seq (.reg [] false [⟨0,some 2,.box (.t 0),none⟩,⟨0,some 3,.box (.t 1),none⟩,⟨0,some 4,(.alloc [.int .i64 0,.int .i64 0]),none⟩])
  (.seq (.reg [] true [⟨0,some 9,.load false 1 (.t 2),none⟩,⟨1,some 10,.load false 1 (.t 3),none⟩,⟨2,some 11,.nilck (.t 9),none⟩,⟨3,
  (some 12),.fld 31 (.t 11),none⟩,⟨4,some 13,.idxa 30 1 (.t 12) (.t 10),none⟩,⟨5,some 14,.load false 1 (.t 13),none⟩,⟨6,some 15,
  (.callf false (.c (.fn (.func 97) [] [])) [.t 14] []),none⟩,⟨7,some 5,(.alloc [.int .i64 0,.int .i64 0]),none⟩,⟨8,none,(.store 2 (.t 5) (.t
  15) []),none⟩]) (.seq (.reg [] false [⟨0,some 16,(.mkf (.func 102) [] [.t 2,.t 3,.t 5]),none⟩,⟨0,some 6,.mv (.t 16),none⟩]) (.seq
  (.seq (.reg [] false [⟨0,some 17,.load false 1 (.t 2),none⟩,⟨0,some 18,.nilck (.t 17),none⟩,⟨0,some 19,.fld 0 (.t 18),none⟩,⟨0,
  (some 20),.load false 1 (.t 19),none⟩,⟨0,some 21,.mv (.c (.int .i64 0)),none⟩]) (.block 0 x71l1)) (.seq (.reg [] false [⟨0,some 40,(.load
  true 2 (.t 5)),none⟩,⟨0,none,(.store 2 (.t 4) (.t 40) []),none⟩]) .ret)))))⟩
theorem is71 : FnIs prog 71 x71.fn := ⟨fun vs w => call71 vs w,_,_,func71,rfl,rfl,by kernel_rfl,by kernel_rfl⟩
theorem ok71 : okX x71.body = true := by kernel_rfl
theorem st71 : sitesP x71 x71.body := (sitesP_of rfl)

def x72 : XFn := ⟨46,[(4,none)],false,false,
  (.seq (.reg [] false [⟨0,some 2,.box (.t 0),none⟩,⟨0,some 3,.box (.t 1),none⟩,⟨0,some 4,.mv (.c (.int .i64 0)),none⟩]) (.seq (.seq
  (.reg [(3,true)] true [⟨0,some 9,.load false 1 (.t 3),none⟩,⟨2,some 11,.load false 1 (.t 2),none⟩,⟨3,some 12,.nilck (.t 11),none⟩,
  ⟨4,some 13,.fld 0 (.t 12),none⟩,⟨5,some 14,.fld 1 (.t 13),none⟩,⟨6,some 15,.load false 1 (.t 14),none⟩,⟨7,some 16,(.len false
  (.t 15)),none⟩,⟨1,some 10,(.callf false (.c (.fn (.func 93) [] [])) [.t 9] [2,6]),none⟩,⟨8,some 17,.bin .eql (.t 10) (.t 16),none⟩])
  (.cond (.t 17) (.seq (.reg [] false [⟨0,some 4,.mv (.c (.int .i64 0)),none⟩]) .ret) .skip)) (.seq (.seq (.reg [] true [⟨0,some 19,(.load false 1
  (.t 2)),none⟩,⟨1,some 20,.nilck (.t 19),none⟩,⟨2,some 21,.fld 15 (.t 20),none⟩,⟨3,some 22,.load false 1 (.t 21),none⟩,⟨4,(some
  23),.load false 1 (.t 3),none⟩,⟨5,some 24,.lookup false true (.int .i64 0) (.t 22) (.t 23),none⟩,⟨6,some 18,.mv (.t 24),none⟩,⟨7,(some
  25),.ext (.t 18) 0,none⟩,⟨8,some 26,.ext (.t 18) 1,none⟩,⟨9,some 5,.mv (.t 25),none⟩,⟨10,some 6,.mv (.t 26),none⟩]) (.seq (.reg
  [] false [⟨0,some 27,.mv (.t 6),none⟩]) (.cond (.t 27) (.seq (.reg [] false [⟨0,some 28,.mv (.t 5),none⟩,⟨0,some 4,.mv (.t 28),none⟩])
  .ret) .skip))) (.seq (.reg [] false [⟨0,some 7,(.alloc [.int .i64 0]),none⟩,⟨0,none,(.store 1 (.t 7) (.c (.int .i64 1000000)) []),none⟩]) (.seq
  (.seq (.reg [(2,true),(3,true)] false [⟨0,some 29,.load false 1 (.t 2),none⟩,⟨0,some 30,.load false 1 (.t 3),none⟩,⟨0,some 31,(.callf
  false (.c (.fn (.func 74) [] [])) [.t 29,.t 30] []),none⟩]) (.block 0 (.rng 0 [2,3,7] (.t 31) [32] (.reg [] false [⟨0,some 8,.mv (.t 32),
  none⟩]) (.block 1 (.reg [(2,true),(3,true),(8,false)] true [⟨0,some 33,.load false 1 (.t 7),none⟩,⟨1,some 34,.load false 1 (.t 2),none⟩,
  ⟨2,some 35,.load false 1 (.t 3),none⟩,⟨3,some 36,.mv (.t 8),none⟩,⟨4,some 37,(.callf false (.c (.fn (.func 75) [] [])) [.t 34,(.t
  35),.t 36] [0]),none⟩,⟨5,some 38,.mm false (.t 33) (.t 37),none⟩,⟨6,none,(.store 1 (.t 7) (.t 38) []),none⟩]))))) (.seq (.reg [] true [⟨0,
  (some 39),.load false 1 (.t 2),none⟩,⟨1,some 40,.nilck (.t 39),none⟩,⟨2,some 41,.fld 15 (.t 40),none⟩,⟨3,some 42,.load false 1 (.t
  41),none⟩,⟨4,some 43,.load false 1 (.t 3),none⟩,⟨5,some 44,.load false 1 (.t 7),none⟩,⟨6,none,.mapup false (.t 42) (.t 43) (.t 44),
  none⟩]) (.seq (.reg [] false [⟨0,some 45,.load false 1 (.t 7),none⟩,⟨0,some 4,.mv (.t 45),none⟩]) .ret)))))))⟩
theorem is72 : FnIs prog 72 x72.fn := ⟨fun vs w => call72 vs w,_,_,func72,rfl,rfl,by kernel_rfl,by kernel_rfl⟩
theorem ok72 : okX x72.body = true := by kernel_rfl
theorem st72 : sitesP x72 x72.body := ⟨sitesP_of rfl,⟨sitesP_of rfl,⟨sitesP_of rfl,⟨sitesP_of rfl,⟨⟨sitesP_of rfl,⟨by kernel_rfl,sitesP_of rfl,sitesP_of rfl⟩⟩,sitesP_of rfl⟩⟩⟩⟩⟩

def x73 : XFn := ⟨26,[],false,false,
  (.seq (.reg [(0,true),(1,true)] false [⟨0,some 6,.load false 1 (.t 0),none⟩,⟨0,some 7,.load false 1 (.t 1),none⟩,⟨0,some 8,(.callf
  false (.c (.fn (.func 74) [] [])) [.t 6,.t 7] []),none⟩]) (.block 0 (.rng 0 [0,1,2,3,4] (.t 8) [9] (.reg [] false [⟨0,some 5,.mv (.t 9),
  none⟩]) (.block 1 (.seq (.reg [(0,true),(1,true)] true [⟨0,some 10,.load false 1 (.t 0),none⟩,⟨1,some 11,.load false 1 (.t 1),none⟩,⟨2,
  (some 12),.mv (.t 5),none⟩,⟨4,some 14,.load false 1 (.t 2),none⟩,⟨3,some 13,(.callf false (.c (.fn (.func 75) [] [])) [.t 10,.t 11,
  (.t 12)] [4]),none⟩,⟨5,some 15,.bin .leq (.t 13) (.t 14),none⟩]) (.cond (.t 15) (.seq (.reg [] false [⟨0,some 16,.load false 1 (.t 3),none⟩,
  ⟨0,some 17,.mv (.t 5),none⟩,⟨0,some 18,(.bslice 1 1 [.int .i64 0] [(0,(1,(.t 17)))]),none⟩,⟨0,some 19,.app 1 8 (.t 16) (.t 18),
  none⟩,⟨0,none,(.store 1 (.t 3) (.t 19) []),none⟩]) (.seq (.reg [] true [⟨0,some 20,.load false 1 (.t 1),none⟩,⟨1,some 21,.mv (.t 5),
  none⟩,⟨2,some 22,.bin .shl (.c (.int .u64 1)) (.t 21),none⟩,⟨3,some 23,.bin .or (.t 20) (.t 22),none⟩,⟨4,none,(.store 1 (.t 1) (.t 23)
  []),none⟩]) (.seq (.reg [] false [⟨0,some 24,.load false 1 (.t 4),none⟩,⟨0,some 25,(.callf false (.t 24) [] []),none⟩]) .ret))) .skip))))))⟩
theorem is73 : FnIs prog 73 x73.fn := ⟨fun vs w => call73 vs w,_,_,func73,rfl,rfl,by kernel_rfl,by kernel_rfl⟩
theorem ok73 : okX x73.body = true := by kernel_rfl
theorem st73 : sitesP x73 x73.body := ⟨sitesP_of rfl,⟨by kernel_rfl,sitesP_of rfl,sitesP_of rfl⟩⟩

def x74 : XFn := ⟨6,[(4,none)],false,false,
  (.seq (.reg [] false [⟨0,some 2,.box (.t 0),none⟩,⟨0,some 3,.box (.t 1),none⟩,⟨0,some 4,.mv (.c .nilfn),none⟩]) (.seq (.reg [] false
  [⟨0,some 5,(.mkf (.func 105) [] [.t 2,.t 3]),none⟩,⟨0,some 4,.mv (.t 5),none⟩]) .ret))⟩
theorem is74 : FnIs prog 74 x74.fn := ⟨fun vs w => call74 vs w,_,_,func74,rfl,rfl,by kernel_rfl,by kernel_rfl⟩
theorem ok74 : okX x74.body = true := by kernel_rfl
theorem st74 : sitesP x74 x74.body := (sitesP_of rfl)

def x75 : XFn := ⟨20,[(6,none)],false,false,
  (.seq (.reg [] false [⟨0,some 6,.mv (.c (.int .i64 0)),none⟩]) (.seq (.reg [] false [⟨0,some 8,.mv (.t 1),none⟩,⟨0,some 9,.mv (.t 2),
  none⟩,⟨0,some 10,.bin .shl (.c (.int .u64 1)) (.t 9),none⟩,⟨0,some 11,.bin .or (.t 8) (.t 10),none⟩,⟨0,some 7,.mv (.t 11),none⟩])
  (.seq (.reg [(0,false)] false [⟨0,some 12,.mv (.t 0),none⟩,⟨0,some 13,.mv (.t 7),none⟩,⟨0,some 14,.mv (.t 2),none⟩,⟨0,some 15,
  (.callf false (.c (.fn (.func 86) [] [])) [.t 12,.t 13,.t 14] []),none⟩,⟨0,some 16,.mv (.t 0),none⟩,⟨0,some 17,.mv (.t 7),none⟩,
  ⟨0,some 18,(.callf false (.c (.fn (.func 72) [] [])) [.t 16,.t 17] []),none⟩,⟨0,some 19,.mm true (.t 15) (.t 18),none⟩,⟨0,some 6,(.mv
  (.t 19)),none⟩]) .ret)))⟩
theorem is75 : FnIs prog 75 x75.fn := ⟨fun vs w => call75 vs w,_,_,func75,rfl,rfl,by kernel_rfl,by kernel_rfl⟩
theorem ok75 : okX x75.body = true := by kernel_rfl
theorem st75 : sitesP x75 x75.body := (sitesP_of rfl)

end Go.Proofs.YtpbeclkpohehgaaDoor
end
section
set_option maxRecDepth 100000
namespace Go.Proofs.YtpbeclkpohehgaaDoor
open Go Go.DL Go.Proofs.Tryd

def x81 : XFn := ⟨4,[(2,none)],false,false,
  (.seq (.reg [] false [⟨0,some 1,.box (.t 0),none⟩,⟨0,some 2,.mv (.c .nilfn),none⟩]) (.seq (.reg [] false [⟨0,some 3,(.mkf (.func 106) []
  [.t 1]),none⟩,⟨0,some 2,.mv (.t 3),none⟩]) .ret))⟩
theorem is81 : FnIs prog 81 x81.fn := ⟨fun vs w => call81 vs w,_,_,func81,rfl,rfl,by kernel_rfl,by kernel_rfl⟩
theorem ok81 : okX x81.body = true := by kernel_rfl
theorem st81 : sitesP x81 x81.body := (sitesP_of rfl)

def x83 : XFn := ⟨10,[(4,none)],false,false,
  (.seq (.reg [] false [⟨0,some 4,.mv (.c (.bool false)),none⟩]) (.seq (.reg [] false [⟨0,some 5,.mv (.t 0),none⟩,⟨0,some 6,.mv (.t 1),
  none⟩,⟨0,some 7,.bin .shr (.t 5) (.t 6),none⟩,⟨0,some 8,.bin .and (.t 7) (.c (.int .u64 1)),none⟩,⟨0,some 9,.bin .eql (.t 8) (.c (.int
  .u64 1)),none⟩,⟨0,some 4,.mv (.t 9),none⟩]) .ret))⟩
theorem is83 : FnIs prog 83 x83.fn := ⟨fun vs w => call83 vs w,_,_,func83,rfl,rfl,by kernel_rfl,by kernel_rfl⟩
theorem ok83 : okX x83.body = true := by kernel_rfl
theorem st83 : sitesP x83 x83.body := (sitesP_of rfl)

def x86 : XFn := ⟨38,[(6,none)],false,false,
  (.seq (.reg [] false [⟨0,some 6,.mv (.c (.int .i64 0)),none⟩]) (.seq (.reg [(0,false),(1,false)] true [⟨0,some 7,.mv (.t 0),none⟩,⟨1,(some
  8),.nilck (.t 7),none⟩,⟨2,some 9,.fld 0 (.t 8),none⟩,⟨3,some 10,.fld 0 (.t 9),none⟩,⟨4,some 11,.load false 1 (.t 10),none⟩,⟨5,
  (some 12),.mv (.t 0),none⟩,⟨6,some 13,.nilck (.t 12),none⟩,⟨7,some 14,.fld 0 (.t 13),none⟩,⟨8,some 15,.fld 1 (.t 14),none⟩,⟨9,
  (some 16),.load false 1 (.t 15),none⟩,⟨10,some 17,.mv (.t 2),none⟩,⟨11,some 18,.idx 5 (.t 16) (.t 17),none⟩,⟨12,some 19,.fld 0 (.t
  18),none⟩,⟨13,some 20,.load false 1 (.t 19),none⟩,⟨14,some 21,.idx 1 (.t 11) (.t 20),none⟩,⟨15,some 22,.load false 1 (.t 21),
  none⟩,⟨16,some 23,.mv (.t 0),none⟩,⟨17,some 24,.nilck (.t 23),none⟩,⟨18,some 25,.fld 0 (.t 24),none⟩,⟨19,some 26,.fld 1 (.t
  25),none⟩,⟨20,some 27,.load false 1 (.t 26),none⟩,⟨21,some 28,.mv (.t 2),none⟩,⟨22,some 29,.idx 5 (.t 27) (.t 28),none⟩,⟨23,
  (some 30),.fld 1 (.t 29),none⟩,⟨24,some 31,.fld 1 (.t 30),none⟩,⟨25,some 32,.load false 1 (.t 31),none⟩,⟨26,some 33,.mv (.t 0),
  none⟩,⟨27,some 34,.mv (.t 1),none⟩,⟨28,some 35,(.callf false (.c (.fn (.func 110) [] [])) [.t 33,.t 34] [4,9,13,15,20,25]),none⟩,
  ⟨29,some 36,.bin .add (.t 32) (.t 35),none⟩,⟨30,some 37,(.callf false (.c (.fn (.func 54) [] [])) [.t 22,.t 36] []),none⟩,⟨31,some 6,
  (.mv (.t 37)),none⟩]) .ret))⟩
theorem is86 : FnIs prog 86 x86.fn := ⟨fun vs w => call86 vs w,_,_,func86,rfl,rfl,by kernel_rfl,by kernel_rfl⟩
theorem ok86 : okX x86.body = true := by kernel_rfl
theorem st86 : sitesP x86 x86.body := (sitesP_of rfl)

def x93 : XFn := ⟨5,[(2,none)],false,false,
  (.seq (.reg [] false [⟨0,some 2,.mv (.c (.int .i64 0)),none⟩]) (.seq (.reg [(0,false)] false [⟨0,some 3,.mv (.t 0),none⟩,⟨0,some 4,(.callf
  false (.c (.fn (.func 112) [] [])) [.t 3] []),none⟩,⟨0,some 2,.mv (.t 4),none⟩]) .ret))⟩
theorem is93 : FnIs prog 93 x93.fn := ⟨fun vs w => call93 vs w,_,_,func93,rfl,rfl,by kernel_rfl,by kernel_rfl⟩
theorem ok93 : okX x93.body = true := by kernel_rfl
theorem st93 : sitesP x93 x93.body := (sitesP_of rfl)

def x94l0 : XCode :=
  (.loop [1,32,33,34] (.seq (.reg [] false [⟨0,some 35,.bin .lss (.t 34) (.t 33),none⟩]) (.seq (.cond (.t 35) .skip (.exit 1)) (.seq (.block 2 (.seq
  (.reg [] false [⟨0,some 36,.idx 3 (.t 32) (.t 34),none⟩,⟨0,some 37,.load true 3 (.t 36),none⟩,⟨0,some 4,(.alloc [.int .i64 0,(.int
  .i64 0),.int .i64 0]),none⟩,⟨0,none,(.store 3 (.t 4) (.t 37) []),none⟩]) (.block 3 (.seq (.reg [(4,true)] false [⟨0,some 39,.fld 0 (.t 4),
  none⟩,⟨0,some 40,.load false 1 (.t 39),none⟩,⟨0,some 41,.fld 0 (.t 1),none⟩,⟨0,some 42,.load false 1 (.t 41),none⟩,⟨0,some 43,
  (.bin .sub (.t 42) (.c (.int .i64 1))),none⟩,⟨0,some 44,(.callf false (.c (.fn (.func 113) [] [])) [.c (.int .i64 0),.t 40,.t 43] []),none⟩,
  ⟨0,some 45,.not (.t 44),none⟩,⟨0,some 38,.mv (.t 45),none⟩]) (.cond (.t 38) (.seq (.reg [] false [⟨0,some 2,.mv (.c (.int .i64 5)),
  none⟩]) .ret) (.seq (.reg [(4,true)] false [⟨0,some 47,.fld 1 (.t 4),none⟩,⟨0,some 48,.load false 1 (.t 47),none⟩,⟨0,some 49,(.callf
  false (.c (.fn (.func 113) [] [])) [.c (.int .i64 0),.t 48,.c (.int .i64 30000)] []),none⟩,⟨0,some 50,.not (.t 49),none⟩,⟨0,some 51,
  (.mv (.t 50)),none⟩,⟨0,some 52,.fld 2 (.t 4),some (51,false)⟩,⟨0,some 53,.load false 1 (.t 52),some (51,false)⟩,⟨0,some 54,
  (.callf false (.c (.fn (.func 113) [] [])) [.c (.int .i64 0),.t 53,.c (.int .i64 30000)] []),some (51,false)⟩,⟨0,some 55,.not (.t 54),
  (some (51,false))⟩,⟨0,some 56,.pick (.t 51) (.c (.bool true)) (.t 55),none⟩,⟨0,some 46,.mv (.t 56),none⟩]) (.cond (.t 46) (.seq (.reg []
  false [⟨0,some 2,.mv (.c (.int .i64 2)),none⟩]) .ret) .skip))))))) (.reg [] false [⟨0,some 57,.bin .add (.t 34) (.c (.int .i64 1)),none⟩,⟨0,
  (some 34),.mv (.t 57),none⟩])))))
def x94 : XFn := ⟨58,[(2,none)],false,false,
  (.seq (.reg [] false [⟨0,some 1,.box (.t 0),none⟩,⟨0,some 2,.mv (.c (.int .i64 0)),none⟩]) (.seq (.block 0 (.seq (.reg [(1,true)] false [⟨0,
  (some 6),.fld 0 (.t 1),none⟩,⟨0,some 7,.load false 1 (.t 6),none⟩,⟨0,some 8,(.callf false (.c (.fn (.func 113) [] [])) [.c (.int .i64 1),
  (.t 7),.c (.int .i64 30)] []),none⟩,⟨0,some 9,.not (.t 8),none⟩,⟨0,some 10,.mv (.t 9),none⟩,⟨0,some 11,.fld 1 (.t 1),some (10,
  false)⟩,⟨0,some 12,.fld 0 (.t 11),some (10,false)⟩,⟨0,some 13,.load false 1 (.t 12),some (10,false)⟩,⟨0,some 14,.fld 1 (.t 1),
  (some (10,false))⟩,⟨0,some 15,.fld 1 (.t 14),some (10,false)⟩,⟨0,some 16,.load false 1 (.t 15),some (10,false)⟩,⟨0,some 17,
  (.callf false (.c (.fn (.func 113) [] [])) [.c (.int .i64 0),.t 13,.t 16] []),some (10,false)⟩,⟨0,some 18,.not (.t 17),some (10,
  false)⟩,⟨0,some 19,.pick (.t 10) (.c (.bool true)) (.t 18),none⟩,⟨0,some 20,.mv (.t 19),none⟩,⟨0,some 21,.fld 1 (.t 1),some (20,
  false)⟩,⟨0,some 22,.fld 1 (.t 21),some (20,false)⟩,⟨0,some 23,.load false 1 (.t 22),some (20,false)⟩,⟨0,some 24,.bin .gtr (.t
  23) (.c (.int .i64 30000)),some (20,false)⟩,⟨0,some 25,.pick (.t 20) (.c (.bool true)) (.t 24),none⟩,⟨0,some 5,.mv (.t 25),none⟩])
  (.cond (.t 5) (.seq (.reg [] false [⟨0,some 2,.mv (.c (.int .i64 2)),none⟩]) .ret) (.seq (.reg [] false [⟨0,some 27,.fld 3 (.t 1),none⟩,⟨0,
  (some 28),.load false 1 (.t 27),none⟩,⟨0,some 29,.len false (.t 28),none⟩,⟨0,some 30,.bin .gtr (.t 29) (.c (.int .i64 100)),none⟩,⟨0,
  (some 26),.mv (.t 30),none⟩]) (.cond (.t 26) (.seq (.reg [] false [⟨0,some 2,.mv (.c (.int .i64 1)),none⟩]) .ret) .skip))))) (.seq (.seq (.reg []
  false [⟨0,some 31,.fld 3 (.t 1),none⟩,⟨0,some 32,.load false 1 (.t 31),none⟩,⟨0,some 33,.len false (.t 32),none⟩,⟨0,some 34,(.mv
  (.c (.int .i64 0))),none⟩]) (.block 1 x94l0)) (.seq (.reg [] false [⟨0,some 2,.mv (.c (.int .i64 0)),none⟩]) .ret))))⟩
theorem is94 : FnIs prog 94 x94.fn := ⟨fun vs w => call94 vs w,_,_,func94,rfl,rfl,by kernel_rfl,by kernel_rfl⟩
theorem ok94 : okX x94.body = true := by kernel_rfl
theorem st94 : sitesP x94 x94.body := (sitesP_of rfl)

def x95l0 : XCode :=
  (.loop [1,3,12,13] (.seq (.reg [] false [⟨0,some 14,.bin .lss (.t 13) (.t 12),none⟩]) (.seq (.cond (.t 14) .skip (.exit 0)) (.seq (.block 1 (.seq
  (.reg [] false [⟨0,some 15,.mv (.t 13),none⟩,⟨0,some 4,.mv (.t 15),none⟩]) (.reg [] true [⟨0,some 16,.mv (.t 3),none⟩,⟨1,some 17,
  (.mv (.t 4)),none⟩,⟨2,some 18,.mv (.t 3),none⟩,⟨3,some 19,.mv (.t 4),none⟩,⟨4,some 20,.fld 1 (.t 1),none⟩,⟨5,some 21,(.fld 0
  (.t 20)),none⟩,⟨6,some 22,.load false 1 (.t 21),none⟩,⟨7,some 23,.fld 1 (.t 1),none⟩,⟨8,some 24,.fld 1 (.t 23),none⟩,⟨9,(some
  25),.load false 1 (.t 24),none⟩,⟨10,some 26,.nilck (.t 16),none⟩,⟨11,some 27,.fld 1 (.t 26),none⟩,⟨12,some 28,(.idxa 30 1 (.t 27)
  (.t 17)),none⟩,⟨13,none,(.store 1 (.t 28) (.t 22) [9]),none⟩,⟨14,some 29,.nilck (.t 18),none⟩,⟨15,some 30,.fld 31 (.t 29),none⟩,⟨16,
  (some 31),.idxa 30 1 (.t 30) (.t 19),none⟩,⟨17,none,(.store 1 (.t 31) (.t 25) []),none⟩]))) (.reg [] false [⟨0,some 32,.bin .add (.t 13) (.c
  (.int .i64 1)),none⟩,⟨0,some 13,.mv (.t 32),none⟩])))))
def x95l1 : XCode :=
  (.loop [3,34,35,36] (.seq (.reg [] false [⟨0,some 37,.bin .lss (.t 36) (.t 35),none⟩]) (.seq (.cond (.t 37) .skip (.exit 2)) (.seq (.block 3 (.seq
  (.reg [] false [⟨0,some 38,.idx 3 (.t 34) (.t 36),none⟩,⟨0,some 39,.load true 3 (.t 38),none⟩,⟨0,some 6,(.alloc [.int .i64 0,(.int
  .i64 0),.int .i64 0]),none⟩,⟨0,none,(.store 3 (.t 6) (.t 39) []),none⟩]) (.seq (.reg [] true [⟨0,some 40,.mv (.t 3),none⟩,⟨1,some 41,
  (.fld 0 (.t 6)),none⟩,⟨2,some 42,.load false 1 (.t 41),none⟩,⟨3,some 43,.mv (.t 3),none⟩,⟨4,some 44,.fld 0 (.t 6),none⟩,⟨5,(some
  45),.load false 1 (.t 44),none⟩,⟨6,some 46,.nilck (.t 43),none⟩,⟨7,some 47,.fld 1 (.t 46),none⟩,⟨8,some 48,.idxa 30 1 (.t 47) (.t
  45),none⟩,⟨9,some 49,.load false 1 (.t 48),none⟩,⟨10,some 50,.fld 1 (.t 6),none⟩,⟨11,some 51,.load false 1 (.t 50),none⟩,⟨12,
  (some 52),.fld 2 (.t 6),none⟩,⟨13,some 53,.load false 1 (.t 52),none⟩,⟨14,some 54,.bin .sub (.t 51) (.t 53),none⟩,⟨15,some 55,(.mm
  true (.t 49) (.t 54)),none⟩,⟨16,some 56,.nilck (.t 40),none⟩,⟨17,some 57,.fld 1 (.t 56),none⟩,⟨18,some 58,.idxa 30 1 (.t 57) (.t
  42),none⟩,⟨19,none,(.store 1 (.t 58) (.t 55) []),none⟩]) (.reg [] true [⟨0,some 59,.mv (.t 3),none⟩,⟨1,some 60,.fld 0 (.t 6),none⟩,⟨2,
  (some 61),.load false 1 (.t 60),none⟩,⟨3,some 62,.mv (.t 3),none⟩,⟨4,some 63,.fld 0 (.t 6),none⟩,⟨5,some 64,.load false 1 (.t
  63),none⟩,⟨6,some 65,.nilck (.t 62),none⟩,⟨7,some 66,.fld 31 (.t 65),none⟩,⟨8,some 67,.idxa 30 1 (.t 66) (.t 64),none⟩,⟨9,(some
  68),.load false 1 (.t 67),none⟩,⟨10,some 69,.fld 1 (.t 6),none⟩,⟨11,some 70,.load false 1 (.t 69),none⟩,⟨12,some 71,.fld 2 (.t
  6),none⟩,⟨13,some 72,.load false 1 (.t 71),none⟩,⟨14,some 73,.bin .add (.t 70) (.t 72),none⟩,⟨15,some 74,.mm false (.t 68) (.t 73),
  none⟩,⟨16,some 75,.nilck (.t 59),none⟩,⟨17,some 76,.fld 31 (.t 75),none⟩,⟨18,some 77,.idxa 30 1 (.t 76) (.t 61),none⟩,⟨19,none,
  (.store 1 (.t 77) (.t 74) []),none⟩])))) (.reg [] false [⟨0,some 78,.bin .add (.t 36) (.c (.int .i64 1)),none⟩,⟨0,some 36,.mv (.t 78),
  none⟩])))))
def x95 : XFn := ⟨80,[(2,none)],false,false,
  (.seq (.reg [] false [⟨0,some 1,.box (.t 0),none⟩,⟨0,some 2,.mv (.c .nilpt),none⟩]) (.seq (.reg [] false [⟨0,some 7,.fld 0 (.t 1),none⟩,
  ⟨0,some 8,.load false 1 (.t 7),none⟩,⟨0,some 9,(.build [.int .i64 0,.int .i64 0,.int .i64 0,.int .i64 0,.int .i64 0,(.int .i64
  0),.int .i64 0,.int .i64 0,.int .i64 0,.int .i64 0,.int .i64 0,.int .i64 0,.int .i64 0,.int .i64 0,.int .i64 0,.int .i64 0,
  (.int .i64 0),.int .i64 0,.int .i64 0,.int .i64 0,.int .i64 0,.int .i64 0,.int .i64 0,.int .i64 0,.int .i64 0,.int .i64 0,(.int
  .i64 0),.int .i64 0,.int .i64 0,.int .i64 0,.int .i64 0,.int .i64 0,.int .i64 0,.int .i64 0,.int .i64 0,.int .i64 0,(.int .i64
  0),.int .i64 0,.int .i64 0,.int .i64 0,.int .i64 0,.int .i64 0,.int .i64 0,.int .i64 0,.int .i64 0,.int .i64 0,.int .i64 0,
  (.int .i64 0),.int .i64 0,.int .i64 0,.int .i64 0,.int .i64 0,.int .i64 0,.int .i64 0,.int .i64 0,.int .i64 0,.int .i64 0,(.int
  .i64 0),.int .i64 0,.int .i64 0,.int .i64 0] [(0,(1,(.t 8)))]),none⟩,⟨0,some 10,.box (.t 9),none⟩,⟨0,some 3,.mv (.t 10),none⟩])
  (.seq (.seq (.reg [] false [⟨0,some 11,.fld 0 (.t 1),none⟩,⟨0,some 12,.load false 1 (.t 11),none⟩,⟨0,some 13,.mv (.c (.int .i64 0)),
  none⟩]) (.block 0 x95l0)) (.seq (.seq (.reg [] false [⟨0,some 33,.fld 3 (.t 1),none⟩,⟨0,some 34,.load false 1 (.t 33),none⟩,⟨0,some 35,
  (.len false (.t 34)),none⟩,⟨0,some 36,.mv (.c (.int .i64 0)),none⟩]) (.block 2 x95l1)) (.seq (.reg [] false [⟨0,some 79,.mv (.t 3),none⟩,
  ⟨0,some 2,.mv (.t 79),none⟩]) .ret)))))⟩
theorem is95 : FnIs prog 95 x95.fn := ⟨fun vs w => call95 vs w,_,_,func95,rfl,rfl,by kernel_rfl,by kernel_rfl⟩
theorem ok95 : okX x95.body = true := by kernel_rfl
theorem st95 : sitesP x95 x95.body := (sitesP_of rfl)

def x96l0 : XCode :=
  (.loop [0,4,5,6,10,11,23,24] (.seq (.seq (.reg [] false [⟨0,some 29,.mv (.t 6),none⟩,⟨0,some 30,.mv (.t 0),none⟩,⟨0,some 31,(.nilck
  (.t 30)),none⟩,⟨0,some 32,.fld 0 (.t 31),none⟩,⟨0,some 33,.load false 1 (.t 32),none⟩,⟨0,some 34,.bin .lss (.t 29) (.t 33),none⟩])
  (.cond (.t 34) .skip (.exit 4))) (.seq (.block 5 (.seq (.reg [(0,false)] false [⟨0,some 37,.mv (.t 0),none⟩,⟨0,some 38,.mv (.t 5),none⟩,⟨0,
  (some 39),.mv (.t 4),none⟩,⟨0,some 40,.mv (.t 6),none⟩,⟨0,some 41,(.callf false (.c (.fn (.func 114) [] [])) [.t 37,.t 38,.t 39,
  (.t 40)] []),none⟩]) (.cond (.t 41) (.seq (.reg [] false [⟨0,some 42,.mv (.t 5),none⟩,⟨0,some 43,.mv (.t 4),none⟩,⟨0,some 44,.mv (.t
  6),none⟩,⟨0,some 45,(.bslice 1 3 [.int .i64 0] [(0,(1,(.t 42))),(1,(1,(.t 43))),(2,(1,(.t 44)))]),none⟩,⟨0,some 2,.mv (.t 45),
  none⟩,⟨0,some 3,.mv (.c (.bool true)),none⟩]) .ret) .skip))) (.reg [] false [⟨0,some 35,.mv (.t 6),none⟩,⟨0,some 36,(.bin .add (.t 35)
  (.c (.int .i64 1))),none⟩,⟨0,some 6,.mv (.t 36),none⟩]))))
def x96l1 : XCode :=
  (.loop [0,4,10,11,23,24] (.seq (.reg [] false [⟨0,some 25,.bin .lss (.t 24) (.t 23),none⟩]) (.seq (.cond (.t 25) .skip (.exit 2)) (.seq (.block 3
  (.seq (.reg [] false [⟨0,some 26,.mv (.t 24),none⟩,⟨0,some 5,.mv (.t 26),none⟩]) (.seq (.reg [] false [⟨0,some 27,.mv (.t 4),none⟩,
  ⟨0,some 28,.bin .add (.t 27) (.c (.int .i64 1)),none⟩,⟨0,some 6,.mv (.t 28),none⟩]) (.block 4 x96l0)))) (.reg [] false [⟨0,some 46,(.bin
  .add (.t 24) (.c (.int .i64 1))),none⟩,⟨0,some 24,.mv (.t 46),none⟩])))))
def x96l2 : XCode :=
  (.loop [0,10,11] (.seq (.reg [] false [⟨0,some 12,.bin .lss (.t 11) (.t 10),none⟩]) (.seq (.cond (.t 12) .skip (.exit 0)) (.seq (.block 1 (.seq (.reg
  [] false [⟨0,some 13,.mv (.t 11),none⟩,⟨0,some 4,.mv (.t 13),none⟩]) (.seq (.seq (.reg [(0,false)] false [⟨0,some 14,.mv (.t 0),
  none⟩,⟨0,some 15,.mv (.t 4),none⟩,⟨0,some 16,.mv (.t 4),none⟩,⟨0,some 17,.mv (.t 4),none⟩,⟨0,some 18,(.callf false (.c (.fn
  (.func 114) [] [])) [.t 14,.t 15,.t 16,.t 17] []),none⟩]) (.cond (.t 18) (.seq (.reg [] false [⟨0,some 19,.mv (.t 4),none⟩,⟨0,(some
  20),.mv (.t 4),none⟩,⟨0,some 21,.mv (.t 4),none⟩,⟨0,some 22,(.bslice 1 3 [.int .i64 0] [(0,(1,(.t 19))),(1,(1,(.t 20))),(2,(1,(.t
  21)))]),none⟩,⟨0,some 2,.mv (.t 22),none⟩,⟨0,some 3,.mv (.c (.bool true)),none⟩]) .ret) .skip)) (.seq (.reg [] false [⟨0,some 23,(.mv
  (.t 4)),none⟩,⟨0,some 24,.mv (.c (.int .i64 0)),none⟩]) (.block 2 x96l1))))) (.reg [] false [⟨0,some 47,.bin .add (.t 11) (.c (.int .i64 1)),
  none⟩,⟨0,some 11,.mv (.t 47),none⟩])))))
def x96 : XFn := ⟨48,[(2,none),(3,none)],false,false,
  (.seq (.reg [] false [⟨0,some 2,.mv (.c .nilsl),none⟩,⟨0,some 3,.mv (.c (.bool false)),none⟩]) (.seq (.seq (.reg [] false [⟨0,some 7,(.mv
  (.t 0)),none⟩,⟨0,some 8,.nilck (.t 7),none⟩,⟨0,some 9,.fld 0 (.t 8),none⟩,⟨0,some 10,.load false 1 (.t 9),none⟩,⟨0,some 11,
  (.mv (.c (.int .i64 0))),none⟩]) (.block 0 x96l2)) (.seq (.reg [] false [⟨0,some 2,.mv (.c .nilsl),none⟩,⟨0,some 3,.mv (.c (.bool false)),
  none⟩]) .ret)))⟩
theorem is96 : FnIs prog 96 x96.fn := ⟨fun vs w => call96 vs w,_,_,func96,rfl,rfl,by kernel_rfl,by kernel_rfl⟩
theorem ok96 : okX x96.body = true := by kernel_rfl
theorem st96 : sitesP x96 x96.body := (sitesP_of rfl)

def x97 : XFn := ⟨5,[(2,(some (true,2)))],false,false,
  (.seq (.reg [] false [⟨0,some 2,(.alloc [.int .i64 0,.int .i64 0]),none⟩]) (.seq (.reg [] false [⟨0,some 3,.mv (.t 0),none⟩,⟨0,some 4,
  (.build [.int .i64 0,.int .i64 0] [(0,(1,(.t 3))),(1,(1,(.c (.int .i64 1))))]),none⟩,⟨0,none,(.store 2 (.t 2) (.t 4) []),none⟩]) .ret))⟩
theorem is97 : FnIs prog 97 x97.fn := ⟨fun vs w => call97 vs w,_,_,func97,rfl,rfl,by kernel_rfl,by kernel_rfl⟩
theorem ok97 : okX x97.body = true := by kernel_rfl
theorem st97 : sitesP x97 x97.body := (sitesP_of rfl)

def x98l0 : XCode :=
  (.loop [0,4,6,9,10,11] (.seq (.reg [] false [⟨0,some 12,.bin .lss (.t 11) (.t 10),none⟩]) (.seq (.cond (.t 12) .skip (.exit 0)) (.seq (.block 1
  (.seq (.reg [] false [⟨0,some 13,.idx 2 (.t 9) (.t 11),none⟩,⟨0,some 14,.load true 2 (.t 13),none⟩,⟨0,some 8,(.alloc [.int .i64 0,
  (.int .i64 0)]),none⟩,⟨0,none,(.store 2 (.t 8) (.t 14) []),none⟩]) (.seq (.reg [(8,true),(4,true)] false [⟨0,some 15,.mv (.t 0),none⟩,⟨0,
  (some 16),.load true 2 (.t 8),none⟩,⟨0,some 17,.load true 2 (.t 4),none⟩,⟨0,some 18,(.callf false (.t 15) [.t 16,.t 17] []),none⟩,
  ⟨0,some 19,.bin .gtr (.t 18) (.c (.int .i64 0)),none⟩]) (.cond (.t 19) (.reg [] false [⟨0,some 20,.load true 2 (.t 8),none⟩,⟨0,none,(.store
  2 (.t 4) (.t 20) []),none⟩]) .skip)))) (.reg [] false [⟨0,some 21,.bin .add (.t 11) (.c (.int .i64 1)),none⟩,⟨0,some 11,.mv (.t 21),
  none⟩])))))
def x98 : XFn := ⟨23,[(6,(some (true,2)))],false,false,
  (.seq (.reg [] false [⟨0,some 4,.box (.t 1),none⟩,⟨0,some 6,(.alloc [.int .i64 0,.int .i64 0]),none⟩]) (.seq (.seq (.reg [] false [⟨0,(some
  9),.mv (.t 2),none⟩,⟨0,some 10,.len false (.t 9),none⟩,⟨0,some 11,.mv (.c (.int .i64 0)),none⟩]) (.block 0 x98l0)) (.seq (.reg [] false
  [⟨0,some 22,.load true 2 (.t 4),none⟩,⟨0,none,(.store 2 (.t 6) (.t 22) []),none⟩]) .ret)))⟩
theorem is98 : FnIs prog 98 x98.fn := ⟨fun vs w => call98 vs w,_,_,func98,rfl,rfl,by kernel_rfl,by kernel_rfl⟩
theorem ok98 : okX x98.body = true := by kernel_rfl
theorem st98 : sitesP x98 x98.body := (sitesP_of rfl)

def x99 : XFn := ⟨22,[(4,(some (true,2)))],false,false,
  (.seq (.reg [] false [⟨0,some 2,.box (.t 0),none⟩,⟨0,some 3,.box (.t 1),none⟩,⟨0,some 4,(.alloc [.int .i64 0,.int .i64 0]),none⟩])
  (.seq (.reg [] false [⟨0,some 5,.fld 0 (.t 2),none⟩,⟨0,some 6,.load false 1 (.t 5),none⟩,⟨0,some 7,.fld 1 (.t 3),none⟩,⟨0,some 8,
  (.load false 1 (.t 7)),none⟩,⟨0,some 9,.bin .mul (.t 6) (.t 8),none⟩,⟨0,some 10,.fld 0 (.t 3),none⟩,⟨0,some 11,.load false 1 (.t
  10),none⟩,⟨0,some 12,.fld 1 (.t 2),none⟩,⟨0,some 13,.load false 1 (.t 12),none⟩,⟨0,some 14,.bin .mul (.t 11) (.t 13),none⟩,⟨0,
  (some 15),.bin .sub (.t 9) (.t 14),none⟩,⟨0,some 16,.fld 1 (.t 2),none⟩,⟨0,some 17,.load false 1 (.t 16),none⟩,⟨0,some 18,(.fld 1
  (.t 3)),none⟩,⟨0,some 19,.load false 1 (.t 18),none⟩,⟨0,some 20,.bin .mul (.t 17) (.t 19),none⟩,⟨0,some 21,(.build [.int .i64 0,
  (.int .i64 0)] [(0,(1,(.t 15))),(1,(1,(.t 20)))]),none⟩,⟨0,none,(.store 2 (.t 4) (.t 21) []),none⟩]) .ret))⟩
theorem is99 : FnIs prog 99 x99.fn := ⟨fun vs w => call99 vs w,_,_,func99,rfl,rfl,by kernel_rfl,by kernel_rfl⟩
theorem ok99 : okX x99.body = true := by kernel_rfl
theorem st99 : sitesP x99 x99.body := (sitesP_of rfl)

def x100l0 : XCode :=
  (.loop [0,1,5,6,7,9,10] (.seq (.seq (.reg [] false [⟨0,some 32,.mv (.t 10),none⟩,⟨0,some 33,.mv (.t 9),none⟩,⟨0,some 34,(.bin .leq
  (.t 32) (.t 33)),none⟩]) (.cond (.t 34) .skip (.exit 0))) (.seq (.block 1 (.reg [(0,false),(5,true),(7,true)] true [⟨0,some 37,.load true 2 (.t
  7),none⟩,⟨1,some 38,.load true 3 (.t 5),none⟩,⟨2,some 39,.mv (.t 0),none⟩,⟨3,some 40,.mv (.t 10),none⟩,⟨5,some 42,.mv (.t
  1),none⟩,⟨4,some 41,(.callf false (.c (.fn (.func 103) [] [])) [.t 39,.t 40] [0,1]),none⟩,⟨6,some 43,(.callf false (.c (.fn (.func 104)
  [] [])) [.t 38,.t 41,.t 42] [0]),none⟩,⟨7,some 44,(.bslice 2 1 [.int .i64 0,.int .i64 0] [(0,(2,(.t 43)))]),none⟩,⟨8,some 45,
  (.callf false (.c (.fn (.func 98) [] [])) [.c (.fn (.func 67) [] []),.t 37,.t 44] []),none⟩,⟨9,none,(.store 2 (.t 7) (.t 45) []),none⟩])) (.reg
  [] false [⟨0,some 35,.mv (.t 10),none⟩,⟨0,some 36,.bin .add (.t 35) (.c (.int .i64 1)),none⟩,⟨0,some 10,.mv (.t 36),none⟩]))))
def x100 : XFn := ⟨47,[(6,(some (true,2)))],false,false,
  (.seq (.reg [] false [⟨0,some 5,.box (.t 2),none⟩,⟨0,some 6,(.alloc [.int .i64 0,.int .i64 0]),none⟩]) (.seq (.seq (.reg [] false [⟨0,(some
  11),.mv (.t 1),none⟩,⟨0,some 12,.fld 0 (.t 5),none⟩,⟨0,some 13,.load false 1 (.t 12),none⟩,⟨0,some 14,.bin .eql (.t 11) (.t 13),
  none⟩]) (.cond (.t 14) (.seq (.reg [] false [⟨0,some 15,.fld 1 (.t 5),none⟩,⟨0,some 16,.load true 2 (.t 15),none⟩,⟨0,none,(.store 2 (.t 6)
  (.t 16) []),none⟩]) .ret) .skip)) (.seq (.reg [(0,false)] false [⟨0,some 17,.mv (.t 0),none⟩,⟨0,some 18,.mv (.t 1),none⟩,⟨0,some 19,
  (.callf false (.c (.fn (.func 69) [] [])) [.t 17,.t 18] []),none⟩,⟨0,some 7,(.alloc [.int .i64 0,.int .i64 0]),none⟩,⟨0,none,(.store 2
  (.t 7) (.t 19) []),none⟩]) (.seq (.reg [] false [⟨0,some 20,.mv (.t 1),none⟩,⟨0,some 8,.mv (.c (.int .i64 0)),none⟩,⟨0,some 9,.mv (.t
  20),none⟩]) (.seq (.seq (.reg [] false [⟨0,some 21,.mv (.t 1),none⟩,⟨0,some 22,.fld 0 (.t 5),none⟩,⟨0,some 23,.load false 1 (.t 22),
  none⟩,⟨0,some 24,.bin .gtr (.t 21) (.t 23),none⟩]) (.cond (.t 24) (.reg [] true [⟨0,some 25,.mv (.t 1),none⟩,⟨1,some 26,.mv (.t 0),
  none⟩,⟨2,some 27,.nilck (.t 26),none⟩,⟨3,some 28,.fld 0 (.t 27),none⟩,⟨4,some 29,.load false 1 (.t 28),none⟩,⟨5,some 30,(.bin
  .sub (.t 29) (.c (.int .i64 1))),none⟩,⟨6,some 8,.mv (.t 25),none⟩,⟨7,some 9,.mv (.t 30),none⟩]) .skip)) (.seq (.seq (.reg [] false [⟨0,
  (some 31),.mv (.t 8),none⟩,⟨0,some 10,.mv (.t 31),none⟩]) (.block 0 x100l0)) (.seq (.reg [] false [⟨0,some 46,.load true 2 (.t 7),none⟩,
  ⟨0,none,(.store 2 (.t 6) (.t 46) []),none⟩]) .ret)))))))⟩
theorem is100 : FnIs prog 100 x100.fn := ⟨fun vs w => call100 vs w,_,_,func100,rfl,rfl,by kernel_rfl,by kernel_rfl⟩
theorem ok100 : okX x100.body = true := by kernel_rfl
theorem st100 : sitesP x100 x100.body := (sitesP_of rfl)

def x101 : XFn := ⟨6,[(4,none)],false,false,
  (.seq (.reg [] false [⟨0,some 2,.box (.t 0),none⟩,⟨0,some 3,.box (.t 1),none⟩,⟨0,some 4,.mv (.c .nilfn),none⟩]) (.seq (.reg [] false
  [⟨0,some 5,(.mkf (.func 115) [] [.t 3,.t 2]),none⟩,⟨0,some 4,.mv (.t 5),none⟩]) .ret))⟩
theorem is101 : FnIs prog 101 x101.fn := ⟨fun vs w => call101 vs w,_,_,func101,rfl,rfl,by kernel_rfl,by kernel_rfl⟩
theorem ok101 : okX x101.body = true := by kernel_rfl
theorem st101 : sitesP x101 x101.body := (sitesP_of rfl)

def x102 : XFn := ⟨27,[],false,false,
  (.seq (.reg [(2,true),(0,false),(3,true)] true [⟨0,some 8,.load false 1 (.t 2),none⟩,⟨1,some 9,.mv (.t 0),none⟩,⟨3,some 11,.mv (.t
  1),none⟩,⟨4,some 12,.load false 1 (.t 2),none⟩,⟨5,some 13,.mv (.t 1),none⟩,⟨6,some 14,.nilck (.t 12),none⟩,⟨7,some 15,(.fld
  31 (.t 14)),none⟩,⟨8,some 16,.idxa 30 1 (.t 15) (.t 13),none⟩,⟨9,some 17,.load false 1 (.t 16),none⟩,⟨12,some 20,.load false 1 (.t
  3),none⟩,⟨2,some 10,(.callf false (.c (.fn (.func 103) [] [])) [.t 8,.t 9] [4,9,12]),none⟩,⟨10,some 18,(.callf false (.c (.fn (.func 97)
  [] [])) [.t 17] [12]),none⟩,⟨11,some 19,(.build [.int .i64 0,.int .i64 0,.int .i64 0] [(0,(1,(.t 11))),(1,(2,(.t 18)))]),none⟩,⟨13,
  (some 21),(.callf false (.c (.fn (.func 104) [] [])) [.t 10,.t 19,.t 20] []),none⟩,⟨14,some 7,(.alloc [.int .i64 0,.int .i64 0]),none⟩,
  ⟨15,none,(.store 2 (.t 7) (.t 21) []),none⟩]) (.seq (.reg [(7,true),(4,true)] false [⟨0,some 22,.load true 2 (.t 7),none⟩,⟨0,some 23,
  (.load true 2 (.t 4)),none⟩,⟨0,some 24,(.callf false (.c (.fn (.func 67) [] [])) [.t 22,.t 23] []),none⟩,⟨0,some 25,.bin .lss (.t 24) (.c
  (.int .i64 0)),none⟩]) (.cond (.t 25) (.reg [] false [⟨0,some 26,.load true 2 (.t 7),none⟩,⟨0,none,(.store 2 (.t 4) (.t 26) []),none⟩])
  .skip)))⟩
theorem is102 : FnIs prog 102 x102.fn := ⟨fun vs w => call102 vs w,_,_,func102,rfl,rfl,by kernel_rfl,by kernel_rfl⟩
theorem ok102 : okX x102.body = true := by kernel_rfl
theorem st102 : sitesP x102 x102.body := (sitesP_of rfl)

def x103 : XFn := ⟨14,[(4,(some (true,3)))],false,false,
  (.seq (.reg [] false [⟨0,some 4,(.alloc [.int .i64 0,.int .i64 0,.int .i64 0]),none⟩]) (.seq (.reg [] false [⟨0,some 5,.mv (.t 1),none⟩,
  ⟨0,some 6,.mv (.t 0),none⟩,⟨0,some 7,.mv (.t 1),none⟩,⟨0,some 8,.nilck (.t 6),none⟩,⟨0,some 9,.fld 1 (.t 8),none⟩,⟨0,(some
  10),.idxa 30 1 (.t 9) (.t 7),none⟩,⟨0,some 11,.load false 1 (.t 10),none⟩,⟨0,some 12,(.callf false (.c (.fn (.func 97) [] [])) [.t 11]
  []),none⟩,⟨0,some 13,(.build [.int .i64 0,.int .i64 0,.int .i64 0] [(0,(1,(.t 5))),(1,(2,(.t 12)))]),none⟩,⟨0,none,(.store 3 (.t 4)
  (.t 13) []),none⟩]) .ret))⟩
theorem is103 : FnIs prog 103 x103.fn := ⟨fun vs w => call103 vs w,_,_,func103,rfl,rfl,by kernel_rfl,by kernel_rfl⟩
theorem ok103 : okX x103.body = true := by kernel_rfl
theorem st103 : sitesP x103 x103.body := (sitesP_of rfl)

def x104 : XFn := ⟨60,[(6,(some (true,2)))],false,false,
  (.seq (.reg [] false [⟨0,some 3,.box (.t 0),none⟩,⟨0,some 4,.box (.t 1),none⟩,⟨0,some 6,(.alloc [.int .i64 0,.int .i64 0]),none⟩])
  (.seq (.reg [(4,true),(3,true)] false [⟨0,some 10,.fld 1 (.t 4),none⟩,⟨0,some 11,.load true 2 (.t 10),none⟩,⟨0,some 12,.fld 1 (.t
  3),none⟩,⟨0,some 13,.load true 2 (.t 12),none⟩,⟨0,some 14,(.callf false (.c (.fn (.func 99) [] [])) [.t 11,.t 13] []),none⟩,⟨0,(some
  7),(.alloc [.int .i64 0,.int .i64 0]),none⟩,⟨0,none,(.store 2 (.t 7) (.t 14) []),none⟩]) (.seq (.reg [] false [⟨0,some 15,.fld 0 (.t 4),
  none⟩,⟨0,some 16,.load false 1 (.t 15),none⟩,⟨0,some 17,.fld 0 (.t 3),none⟩,⟨0,some 18,.load false 1 (.t 17),none⟩,⟨0,some 19,
  (.bin .sub (.t 16) (.t 18)),none⟩,⟨0,some 8,.mv (.t 19),none⟩]) (.seq (.reg [] false [⟨0,some 20,.fld 1 (.t 3),none⟩,⟨0,some 21,(.fld 0
  (.t 20)),none⟩,⟨0,some 22,.load false 1 (.t 21),none⟩,⟨0,some 23,.fld 1 (.t 7),none⟩,⟨0,some 24,.load false 1 (.t 23),none⟩,⟨0,
  (some 25),.bin .mul (.t 22) (.t 24),none⟩,⟨0,some 26,.mv (.t 8),none⟩,⟨0,some 27,.bin .mul (.t 25) (.t 26),none⟩,⟨0,some 28,(.fld 0
  (.t 7)),none⟩,⟨0,some 29,.load false 1 (.t 28),none⟩,⟨0,some 30,.fld 1 (.t 3),none⟩,⟨0,some 31,.fld 1 (.t 30),none⟩,⟨0,some 32,
  (.load false 1 (.t 31)),none⟩,⟨0,some 33,.bin .mul (.t 29) (.t 32),none⟩,⟨0,some 34,.mv (.t 2),none⟩,⟨0,some 35,.fld 0 (.t 3),
  none⟩,⟨0,some 36,.load false 1 (.t 35),none⟩,⟨0,some 37,.bin .sub (.t 34) (.t 36),none⟩,⟨0,some 38,.bin .mul (.t 33) (.t 37),none⟩,
  ⟨0,some 39,.bin .add (.t 27) (.t 38),none⟩,⟨0,some 40,.fld 1 (.t 3),none⟩,⟨0,some 41,.fld 1 (.t 40),none⟩,⟨0,some 42,(.load
  false 1 (.t 41)),none⟩,⟨0,some 43,.fld 1 (.t 7),none⟩,⟨0,some 44,.load false 1 (.t 43),none⟩,⟨0,some 45,.bin .mul (.t 42) (.t 44),
  none⟩,⟨0,some 46,.mv (.t 8),none⟩,⟨0,some 47,.bin .mul (.t 45) (.t 46),none⟩,⟨0,some 48,(.build [.int .i64 0,.int .i64 0] [(0,(1,
  (.t 39))),(1,(1,(.t 47)))]),none⟩,⟨0,some 9,(.alloc [.int .i64 0,.int .i64 0]),none⟩,⟨0,none,(.store 2 (.t 9) (.t 48) []),none⟩]) (.seq
  (.seq (.reg [] false [⟨0,some 49,.fld 1 (.t 9),none⟩,⟨0,some 50,.load false 1 (.t 49),none⟩,⟨0,some 51,.bin .lss (.t 50) (.c (.int .i64
  0)),none⟩]) (.cond (.t 51) (.seq (.reg [] false [⟨0,some 52,.fld 0 (.t 9),none⟩,⟨0,some 53,.load false 1 (.t 52),none⟩,⟨0,some 54,
  (.neg (.t 53)),none⟩,⟨0,some 55,.fld 1 (.t 9),none⟩,⟨0,some 56,.load false 1 (.t 55),none⟩,⟨0,some 57,.neg (.t 56),none⟩,⟨0,(some
  58),(.build [.int .i64 0,.int .i64 0] [(0,(1,(.t 54))),(1,(1,(.t 57)))]),none⟩,⟨0,none,(.store 2 (.t 6) (.t 58) []),none⟩]) .ret) .skip))
  (.seq (.reg [] false [⟨0,some 59,.load true 2 (.t 9),none⟩,⟨0,none,(.store 2 (.t 6) (.t 59) []),none⟩]) .ret))))))⟩
theorem is104 : FnIs prog 104 x104.fn := ⟨fun vs w => call104 vs w,_,_,func104,rfl,rfl,by kernel_rfl,by kernel_rfl⟩
theorem ok104 : okX x104.body = true := by kernel_rfl
theorem st104 : sitesP x104 x104.body := (sitesP_of rfl)

def x105l0 : XCode :=
  (.loop [0,1,2,10,11] (.seq (.reg [] false [⟨0,some 12,.bin .lss (.t 11) (.t 10),none⟩]) (.seq (.cond (.t 12) .skip (.exit 0)) (.seq (.block 1 (.seq
  (.reg [] false [⟨0,some 13,.mv (.t 11),none⟩,⟨0,some 4,.mv (.t 13),none⟩]) (.seq (.reg [(2,true)] true [⟨0,some 14,.load false 1 (.t
  2),none⟩,⟨1,some 15,.mv (.t 4),none⟩,⟨2,some 16,(.callf false (.c (.fn (.func 83) [] [])) [.t 14,.t 15] []),none⟩,⟨3,some 17,(.not
  (.t 16)),none⟩,⟨4,some 18,.mv (.t 17),none⟩,⟨5,some 19,.load false 1 (.t 1),some (18,true)⟩,⟨6,some 20,.mv (.t 4),some (18,
  true)⟩,⟨7,some 21,.nilck (.t 19),some (18,true)⟩,⟨8,some 22,.fld 5 (.t 21),some (18,true)⟩,⟨9,some 23,.idxa 10 1 (.t 22) (.t
  20),some (18,true)⟩,⟨10,some 24,.load false 1 (.t 23),some (18,true)⟩,⟨11,some 25,.load false 1 (.t 2),some (18,true)⟩,⟨12,
  (some 26),.bin .andNot (.t 24) (.t 25),some (18,true)⟩,⟨13,some 27,.bin .eql (.t 26) (.c (.int .u64 0)),some (18,true)⟩,⟨14,some 28,
  (.pick (.t 18) (.t 27) (.c (.bool false))),none⟩,⟨15,some 29,.mv (.t 28),none⟩,⟨16,some 30,.mv (.t 0),some (29,true)⟩,⟨17,some 31,
  (.mv (.t 4)),some (29,true)⟩,⟨18,some 32,(.callf false (.t 30) [.t 31] []),some (29,true)⟩,⟨19,some 33,.not (.t 32),some (29,
  true)⟩,⟨20,some 34,.pick (.t 29) (.t 33) (.c (.bool false)),none⟩]) (.cond (.t 34) .ret .skip)))) (.reg [] false [⟨0,some 35,(.bin .add (.t 11)
  (.c (.int .i64 1))),none⟩,⟨0,some 11,.mv (.t 35),none⟩])))))
def x105 : XFn := ⟨36,[],false,false,
  (.seq (.reg [] false [⟨0,some 5,.load false 1 (.t 1),none⟩,⟨0,some 6,.nilck (.t 5),none⟩,⟨0,some 7,.fld 0 (.t 6),none⟩,⟨0,some 8,
  (.fld 1 (.t 7)),none⟩,⟨0,some 9,.load false 1 (.t 8),none⟩,⟨0,some 10,.len false (.t 9),none⟩,⟨0,some 11,.mv (.c (.int .i64 0)),
  none⟩]) (.block 0 x105l0))⟩
theorem is105 : FnIs prog 105 x105.fn := ⟨fun vs w => call105 vs w,_,_,func105,rfl,rfl,by kernel_rfl,by kernel_rfl⟩
theorem ok105 : okX x105.body = true := by kernel_rfl
theorem st105 : sitesP x105 x105.body := (sitesP_of rfl)

def x106l0 : XCode :=
  (.loop [0,1] (.seq (.seq (.reg [] false [⟨0,some 3,.load false 1 (.t 1),none⟩,⟨0,some 4,.bin .neq (.t 3) (.c (.int .u64 0)),none⟩]) (.cond (.t
  4) .skip (.exit 0))) (.seq (.block 1 (.seq (.reg [(1,true)] false [⟨0,some 9,.mv (.t 0),none⟩,⟨0,some 10,.load false 1 (.t 1),none⟩,⟨0,
  (some 11),(.callf false (.c (.fn (.func 107) [] [])) [.t 10] []),none⟩,⟨0,some 12,(.callf false (.t 9) [.t 11] []),none⟩,⟨0,some 13,(.not
  (.t 12)),none⟩]) (.cond (.t 13) .ret .skip))) (.reg [] false [⟨0,some 5,.load false 1 (.t 1),none⟩,⟨0,some 6,.load false 1 (.t 1),none⟩,⟨0,
  (some 7),.bin .sub (.t 6) (.c (.int .u64 1)),none⟩,⟨0,some 8,.bin .and (.t 5) (.t 7),none⟩,⟨0,none,(.store 1 (.t 1) (.t 8) []),none⟩]))))
def x106 : XFn := ⟨14,[],false,false,
  (.block 0 x106l0)⟩
theorem is106 : FnIs prog 106 x106.fn := ⟨fun vs w => call106 vs w,_,_,func106,rfl,rfl,by kernel_rfl,by kernel_rfl⟩
theorem ok106 : okX x106.body = true := by kernel_rfl
theorem st106 : sitesP x106 x106.body := (sitesP_of rfl)

def x107 : XFn := ⟨8,[(2,none)],false,false,
  (.seq (.reg [] false [⟨0,some 2,.mv (.c (.int .i64 0)),none⟩]) (.seq (.cond (.c (.bool false)) (.seq (.reg [] false [⟨0,some 3,.mv (.t 0),none⟩,
  ⟨0,some 4,.conv .u32 (.t 3),none⟩,⟨0,some 5,(.callf false (.c (.fn (.func 116) [] [])) [.t 4] []),none⟩,⟨0,some 2,.mv (.t 5),none⟩])
  .ret) .skip) (.seq (.reg [] false [⟨0,some 6,.mv (.t 0),none⟩,⟨0,some 7,(.callf false (.c (.fn (.func 117) [] [])) [.t 6] []),none⟩,⟨0,
  (some 2),.mv (.t 7),none⟩]) .ret)))⟩
theorem is107 : FnIs prog 107 x107.fn := ⟨fun vs w => call107 vs w,_,_,func107,rfl,rfl,by kernel_rfl,by kernel_rfl⟩
theorem ok107 : okX x107.body = true := by kernel_rfl
theorem st107 : sitesP x107 x107.body := (sitesP_of rfl)

def x110 : XFn := ⟨29,[(4,none)],false,false,
  (.seq (.reg [] false [⟨0,some 2,.box (.t 0),none⟩,⟨0,some 4,.mv (.c (.int .i64 0)),none⟩]) (.seq (.reg [] false [⟨0,some 7,(.load false 1
  (.t 2)),none⟩,⟨0,some 8,.nilck (.t 7),none⟩,⟨0,some 9,.fld 0 (.t 8),none⟩,⟨0,some 10,.fld 3 (.t 9),none⟩,⟨0,some 11,(.fld 1
  (.t 10)),none⟩,⟨0,some 12,.load false 1 (.t 11),none⟩,⟨0,some 5,(.alloc [.int .i64 0]),none⟩,⟨0,none,(.store 1 (.t 5) (.t 12) []),
  none⟩]) (.seq (.seq (.reg [(1,false)] false [⟨0,some 13,.mv (.t 1),none⟩,⟨0,some 14,(.callf false (.c (.fn (.func 81) [] [])) [.t 13] []),
  none⟩]) (.block 0 (.rng 0 [2,5] (.t 14) [15] (.reg [] false [⟨0,some 6,.mv (.t 15),none⟩]) (.block 1 (.reg [] true [⟨0,some 16,(.load false 1
  (.t 5)),none⟩,⟨1,some 17,.load false 1 (.t 2),none⟩,⟨2,some 18,.nilck (.t 17),none⟩,⟨3,some 19,.fld 0 (.t 18),none⟩,⟨4,some 20,
  (.fld 1 (.t 19)),none⟩,⟨5,some 21,.load false 1 (.t 20),none⟩,⟨6,some 22,.mv (.t 6),none⟩,⟨7,some 23,.idx 5 (.t 21) (.t 22),none⟩,
  ⟨8,some 24,.fld 3 (.t 23),none⟩,⟨9,some 25,.fld 1 (.t 24),none⟩,⟨10,some 26,.load false 1 (.t 25),none⟩,⟨11,some 27,(.bin .add
  (.t 16) (.t 26)),none⟩,⟨12,none,(.store 1 (.t 5) (.t 27) []),none⟩]))))) (.seq (.reg [] false [⟨0,some 28,.load false 1 (.t 5),none⟩,⟨0,(some
  4),.mv (.t 28),none⟩]) .ret))))⟩
theorem is110 : FnIs prog 110 x110.fn := ⟨fun vs w => call110 vs w,_,_,func110,rfl,rfl,by kernel_rfl,by kernel_rfl⟩
theorem ok110 : okX x110.body = true := by kernel_rfl
theorem st110 : sitesP x110 x110.body := ⟨sitesP_of rfl,⟨sitesP_of rfl,⟨⟨sitesP_of rfl,⟨by kernel_rfl,sitesP_of rfl,sitesP_of rfl⟩⟩,sitesP_of rfl⟩⟩⟩

def x112 : XFn := ⟨8,[(2,none)],false,false,
  (.seq (.reg [] false [⟨0,some 2,.mv (.c (.int .i64 0)),none⟩]) (.seq (.cond (.c (.bool false)) (.seq (.reg [] false [⟨0,some 3,.mv (.t 0),none⟩,
  ⟨0,some 4,.conv .u32 (.t 3),none⟩,⟨0,some 5,(.callf false (.c (.fn (.func 118) [] [])) [.t 4] []),none⟩,⟨0,some 2,.mv (.t 5),none⟩])
  .ret) .skip) (.seq (.reg [] false [⟨0,some 6,.mv (.t 0),none⟩,⟨0,some 7,(.callf false (.c (.fn (.func 119) [] [])) [.t 6] []),none⟩,⟨0,
  (some 2),.mv (.t 7),none⟩]) .ret)))⟩
theorem is112 : FnIs prog 112 x112.fn := ⟨fun vs w => call112 vs w,_,_,func112,rfl,rfl,by kernel_rfl,by kernel_rfl⟩
theorem ok112 : okX x112.body = true := by kernel_rfl
theorem st112 : sitesP x112 x112.body := (sitesP_of rfl)

def x113 : XFn := ⟨15,[(6,none)],false,false,
  (.seq (.reg [] false [⟨0,some 6,.mv (.c (.bool false)),none⟩]) (.seq (.reg [] false [⟨0,some 7,.mv (.t 0),none⟩,⟨0,some 8,.mv (.t 1),
  none⟩,⟨0,some 9,.bin .leq (.t 7) (.t 8),none⟩,⟨0,some 10,.mv (.t 9),none⟩,⟨0,some 11,.mv (.t 1),some (10,true)⟩,⟨0,some 12,
  (.mv (.t 2)),some (10,true)⟩,⟨0,some 13,.bin .leq (.t 11) (.t 12),some (10,true)⟩,⟨0,some 14,.pick (.t 10) (.t 13) (.c (.bool false)),
  none⟩,⟨0,some 6,.mv (.t 14),none⟩]) .ret))⟩
theorem is113 : FnIs prog 113 x113.fn := ⟨fun vs w => call113 vs w,_,_,func113,rfl,rfl,by kernel_rfl,by kernel_rfl⟩
theorem ok113 : okX x113.body = true := by kernel_rfl
theorem st113 : sitesP x113 x113.body := (sitesP_of rfl)

def x114 : XFn := ⟨72,[(8,none)],false,false,
  (.seq (.reg [] false [⟨0,some 8,.mv (.c (.bool false)),none⟩]) (.seq (.block 0 (.seq (.reg [] false [⟨0,some 10,.mv (.t 1),none⟩,⟨0,some 11,
  (.mv (.t 2)),none⟩,⟨0,some 12,.bin .eql (.t 10) (.t 11),none⟩,⟨0,some 13,.mv (.t 12),none⟩,⟨0,some 14,.mv (.t 2),some (13,
  true)⟩,⟨0,some 15,.mv (.t 3),some (13,true)⟩,⟨0,some 16,.bin .eql (.t 14) (.t 15),some (13,true)⟩,⟨0,some 17,.pick (.t 13) (.t
  16) (.c (.bool false)),none⟩,⟨0,some 9,.mv (.t 17),none⟩]) (.cond (.t 9) (.seq (.reg [] true [⟨0,some 18,.mv (.t 0),none⟩,⟨1,some 19,
  (.mv (.t 1)),none⟩,⟨2,some 20,.nilck (.t 18),none⟩,⟨3,some 21,.fld 1 (.t 20),none⟩,⟨4,some 22,.idxa 30 1 (.t 21) (.t 19),none⟩,⟨5,
  (some 23),.load false 1 (.t 22),none⟩,⟨6,some 24,.mv (.t 0),none⟩,⟨7,some 25,.mv (.t 1),none⟩,⟨8,some 26,.nilck (.t 24),none⟩,
  ⟨9,some 27,.fld 31 (.t 26),none⟩,⟨10,some 28,.idxa 30 1 (.t 27) (.t 25),none⟩,⟨11,some 29,.load false 1 (.t 28),none⟩,⟨12,(some
  30),.bin .gtr (.t 23) (.t 29),none⟩,⟨13,some 8,.mv (.t 30),none⟩]) .ret) (.seq (.reg [] false [⟨0,some 32,.mv (.t 1),none⟩,⟨0,(some
  33),.mv (.t 2),none⟩,⟨0,some 34,.bin .lss (.t 32) (.t 33),none⟩,⟨0,some 35,.mv (.t 34),none⟩,⟨0,some 36,.mv (.t 2),some (35,
  true)⟩,⟨0,some 37,.mv (.t 3),some (35,true)⟩,⟨0,some 38,.bin .lss (.t 36) (.t 37),some (35,true)⟩,⟨0,some 39,.pick (.t 35) (.t
  38) (.c (.bool false)),none⟩,⟨0,some 31,.mv (.t 39),none⟩]) (.cond (.t 31) (.seq (.reg [] true [⟨0,some 40,.mv (.t 0),none⟩,⟨1,some 41,
  (.mv (.t 1)),none⟩,⟨2,some 42,.nilck (.t 40),none⟩,⟨3,some 43,.fld 1 (.t 42),none⟩,⟨4,some 44,.idxa 30 1 (.t 43) (.t 41),none⟩,⟨5,
  (some 45),.load false 1 (.t 44),none⟩,⟨6,some 46,.mv (.t 3),none⟩,⟨7,some 47,.mv (.t 2),none⟩,⟨8,some 48,.bin .sub (.t 46) (.t
  47),none⟩,⟨9,some 49,.bin .mul (.t 45) (.t 48),none⟩,⟨10,some 50,.mv (.t 0),none⟩,⟨11,some 51,.mv (.t 3),none⟩,⟨12,some 52,
  (.nilck (.t 50)),none⟩,⟨13,some 53,.fld 1 (.t 52),none⟩,⟨14,some 54,.idxa 30 1 (.t 53) (.t 51),none⟩,⟨15,some 55,.load false 1 (.t
  54),none⟩,⟨16,some 56,.mv (.t 2),none⟩,⟨17,some 57,.mv (.t 1),none⟩,⟨18,some 58,.bin .sub (.t 56) (.t 57),none⟩,⟨19,some 59,
  (.bin .mul (.t 55) (.t 58)),none⟩,⟨20,some 60,.bin .add (.t 49) (.t 59),none⟩,⟨21,some 61,.mv (.t 0),none⟩,⟨22,some 62,.mv (.t 2),
  none⟩,⟨23,some 63,.nilck (.t 61),none⟩,⟨24,some 64,.fld 31 (.t 63),none⟩,⟨25,some 65,.idxa 30 1 (.t 64) (.t 62),none⟩,⟨26,(some
  66),.load false 1 (.t 65),none⟩,⟨27,some 67,.mv (.t 3),none⟩,⟨28,some 68,.mv (.t 1),none⟩,⟨29,some 69,.bin .sub (.t 67) (.t 68),
  none⟩,⟨30,some 70,.bin .mul (.t 66) (.t 69),none⟩,⟨31,some 71,.bin .gtr (.t 60) (.t 70),none⟩,⟨32,some 8,.mv (.t 71),none⟩]) .ret)
  .skip))))) (.seq (.reg [] false [⟨0,some 8,.mv (.c (.bool false)),none⟩]) .ret)))⟩
theorem is114 : FnIs prog 114 x114.fn := ⟨fun vs w => call114 vs w,_,_,func114,rfl,rfl,by kernel_rfl,by kernel_rfl⟩
theorem ok114 : okX x114.body = true := by kernel_rfl
theorem st114 : sitesP x114 x114.body := (sitesP_of rfl)

def x115l0 : XCode :=
  (.loop [0,1,2,4,5,6,7] (.seq (.seq (.reg [] false [⟨0,some 12,.mv (.t 5),none⟩,⟨0,some 13,.load false 1 (.t 2),none⟩,⟨0,some 14,
  (.nilck (.t 13)),none⟩,⟨0,some 15,.fld 0 (.t 14),none⟩,⟨0,some 16,.load false 1 (.t 15),none⟩,⟨0,some 17,.bin .lss (.t 12) (.t 16),
  none⟩]) (.cond (.t 17) .skip (.exit 2))) (.seq (.block 3 (.seq (.reg [(2,true),(1,true)] true [⟨0,some 20,.mv (.t 0),none⟩,⟨1,some 21,(.load
  false 1 (.t 2)),none⟩,⟨2,some 22,.mv (.t 4),none⟩,⟨4,some 24,.load false 1 (.t 2),none⟩,⟨5,some 25,.mv (.t 5),none⟩,⟨7,some 27,
  (.load false 1 (.t 1)),none⟩,⟨3,some 23,(.callf false (.c (.fn (.func 103) [] [])) [.t 21,.t 22] [4,7]),none⟩,⟨6,some 26,(.callf false (.c
  (.fn (.func 103) [] [])) [.t 24,.t 25] [7]),none⟩,⟨8,some 28,(.callf false (.c (.fn (.func 104) [] [])) [.t 23,.t 26,.t 27] []),none⟩,
  ⟨9,some 29,(.callf false (.t 20) [.t 28] []),none⟩,⟨10,some 30,.not (.t 29),none⟩]) (.cond (.t 30) .ret .skip))) (.reg [] false [⟨0,(some
  18),.mv (.t 5),none⟩,⟨0,some 19,.bin .add (.t 18) (.c (.int .i64 1)),none⟩,⟨0,some 5,.mv (.t 19),none⟩]))))
def x115l1 : XCode :=
  (.loop [0,1,2,6,7] (.seq (.reg [] false [⟨0,some 8,.bin .lss (.t 7) (.t 6),none⟩]) (.seq (.cond (.t 8) .skip (.exit 0)) (.seq (.block 1 (.seq (.reg
  [] false [⟨0,some 9,.mv (.t 7),none⟩,⟨0,some 4,.mv (.t 9),none⟩]) (.seq (.reg [] false [⟨0,some 10,.load false 1 (.t 1),none⟩,⟨0,
  (some 11),.bin .add (.t 10) (.c (.int .i64 1)),none⟩,⟨0,some 5,.mv (.t 11),none⟩]) (.block 2 x115l0)))) (.reg [] false [⟨0,some 31,(.bin
  .add (.t 7) (.c (.int .i64 1))),none⟩,⟨0,some 7,.mv (.t 31),none⟩])))))
def x115 : XFn := ⟨32,[],false,false,
  (.seq (.reg [] false [⟨0,some 6,.load false 1 (.t 1),none⟩,⟨0,some 7,.mv (.c (.int .i64 0)),none⟩]) (.block 0 x115l1))⟩
theorem is115 : FnIs prog 115 x115.fn := ⟨fun vs w => call115 vs w,_,_,func115,rfl,rfl,by kernel_rfl,by kernel_rfl⟩
theorem ok115 : okX x115.body = true := by kernel_rfl
theorem st115 : sitesP x115 x115.body := (sitesP_of rfl)

def x116 : XFn := ⟨14,[(2,none)],false,false,
  (.seq (.reg [] false [⟨0,some 2,.mv (.c (.int .i64 0)),none⟩]) (.seq (.seq (.reg [] false [⟨0,some 3,.mv (.t 0),none⟩,⟨0,some 4,(.bin .eql
  (.t 3) (.c (.int .u32 0))),none⟩]) (.cond (.t 4) (.seq (.reg [] false [⟨0,some 2,.mv (.c (.int .i64 32)),none⟩]) .ret) .skip)) (.seq (.reg [] false
  [⟨0,some 5,.mv (.t 0),none⟩,⟨0,some 6,.mv (.t 0),none⟩,⟨0,some 7,.neg (.t 6),none⟩,⟨0,some 8,.bin .and (.t 5) (.t 7),none⟩,
  ⟨0,some 9,.bin .mul (.t 8) (.c (.int .u32 125613361)),none⟩,⟨0,some 10,.bin .shr (.t 9) (.c (.int .u64 27)),none⟩,⟨0,some 11,(.idxa 32 1
  (.c (.fp [[.int .u8 0,.int .u8 1,.int .u8 28,.int .u8 2,.int .u8 29,.int .u8 14,.int .u8 24,.int .u8 3,.int .u8 30,.int .u8 22,
  (.int .u8 20),.int .u8 15,.int .u8 25,.int .u8 17,.int .u8 4,.int .u8 8,.int .u8 31,.int .u8 27,.int .u8 13,.int .u8 23,(.int
  .u8 21),.int .u8 19,.int .u8 16,.int .u8 7,.int .u8 26,.int .u8 12,.int .u8 18,.int .u8 6,.int .u8 11,.int .u8 5,.int .u8 10,
  (.int .u8 9)]] 0 0)) (.t 10)),none⟩,⟨0,some 12,.load false 1 (.t 11),none⟩,⟨0,some 13,.conv .i64 (.t 12),none⟩,⟨0,some 2,.mv (.t
  13),none⟩]) .ret)))⟩
theorem is116 : FnIs prog 116 x116.fn := ⟨fun vs w => call116 vs w,_,_,func116,rfl,rfl,by kernel_rfl,by kernel_rfl⟩
theorem ok116 : okX x116.body = true := by kernel_rfl
theorem st116 : sitesP x116 x116.body := (sitesP_of rfl)

def x117 : XFn := ⟨14,[(2,none)],false,false,
  (.seq (.reg [] false [⟨0,some 2,.mv (.c (.int .i64 0)),none⟩]) (.seq (.seq (.reg [] false [⟨0,some 3,.mv (.t 0),none⟩,⟨0,some 4,(.bin .eql
  (.t 3) (.c (.int .u64 0))),none⟩]) (.cond (.t 4) (.seq (.reg [] false [⟨0,some 2,.mv (.c (.int .i64 64)),none⟩]) .ret) .skip)) (.seq (.reg [] false
  [⟨0,some 5,.mv (.t 0),none⟩,⟨0,some 6,.mv (.t 0),none⟩,⟨0,some 7,.neg (.t 6),none⟩,⟨0,some 8,.bin .and (.t 5) (.t 7),none⟩,
  ⟨0,some 9,.bin .mul (.t 8) (.c (.int .u64 285870213051353865)),none⟩,⟨0,some 10,.bin .shr (.t 9) (.c (.int .u64 58)),none⟩,⟨0,some 11,
  (.idxa 64 1 (.c (.fp [[.int .u8 0,.int .u8 1,.int .u8 56,.int .u8 2,.int .u8 57,.int .u8 49,.int .u8 28,.int .u8 3,.int .u8 61,
  (.int .u8 58),.int .u8 42,.int .u8 50,.int .u8 38,.int .u8 29,.int .u8 17,.int .u8 4,.int .u8 62,.int .u8 47,.int .u8 59,(.int
  .u8 36),.int .u8 45,.int .u8 43,.int .u8 51,.int .u8 22,.int .u8 53,.int .u8 39,.int .u8 33,.int .u8 30,.int .u8 24,(.int .u8
  18),.int .u8 12,.int .u8 5,.int .u8 63,.int .u8 55,.int .u8 48,.int .u8 27,.int .u8 60,.int .u8 41,.int .u8 37,.int .u8 16,
  (.int .u8 46),.int .u8 35,.int .u8 44,.int .u8 21,.int .u8 52,.int .u8 32,.int .u8 23,.int .u8 11,.int .u8 54,.int .u8 26,(.int
  .u8 40),.int .u8 15,.int .u8 34,.int .u8 20,.int .u8 31,.int .u8 10,.int .u8 25,.int .u8 14,.int .u8 19,.int .u8 9,(.int .u8
  13),.int .u8 8,.int .u8 7,.int .u8 6]] 0 0)) (.t 10)),none⟩,⟨0,some 12,.load false 1 (.t 11),none⟩,⟨0,some 13,.conv .i64 (.t 12),
  none⟩,⟨0,some 2,.mv (.t 13),none⟩]) .ret)))⟩
theorem is117 : FnIs prog 117 x117.fn := ⟨fun vs w => call117 vs w,_,_,func117,rfl,rfl,by kernel_rfl,by kernel_rfl⟩
theorem ok117 : okX x117.body = true := by kernel_rfl
theorem st117 : sitesP x117 x117.body := (sitesP_of rfl)

def x118 : XFn := ⟨21,[(2,none)],false,false,
  (.seq (.reg [] false [⟨0,some 2,.mv (.c (.int .i64 0)),none⟩]) (.seq (.reg [] true [⟨0,some 3,.mv (.t 0),none⟩,⟨1,some 4,(.bin .shr (.t 3)
  (.c (.int .u64 24))),none⟩,⟨2,some 5,.idxs (.c (.str ⟨#[0,1,1,2,1,2,2,3,1,2,2,3,2,3,3,4,1,2,2,3,2,3,3,4,2,3,3,4,3,4,4,
  5,1,2,2,3,2,3,3,4,2,3,3,4,3,4,4,5,2,3,3,4,3,4,4,5,3,4,4,5,4,5,5,6,1,2,2,3,2,3,3,4,2,3,3,4,3,4,4,5,2,3,3,
  4,3,4,4,5,3,4,4,5,4,5,5,6,2,3,3,4,3,4,4,5,3,4,4,5,4,5,5,6,3,4,4,5,4,5,5,6,4,5,5,6,5,6,6,7,1,2,2,3,2,3,3,
  4,2,3,3,4,3,4,4,5,2,3,3,4,3,4,4,5,3,4,4,5,4,5,5,6,2,3,3,4,3,4,4,5,3,4,4,5,4,5,5,6,3,4,4,5,4,5,5,6,4,5,5,
  6,5,6,6,7,2,3,3,4,3,4,4,5,3,4,4,5,4,5,5,6,3,4,4,5,4,5,5,6,4,5,5,6,5,6,6,7,3,4,4,5,4,5,5,6,4,5,5,6,5,6,6,
  7,4,5,5,6,5,6,6,7,5,6,6,7,6,7,7,8]⟩)) (.t 4),none⟩,⟨3,some 6,.mv (.t 0),none⟩,⟨4,some 7,.bin .shr (.t 6) (.c (.int .u64
  16)),none⟩,⟨5,some 8,.bin .and (.t 7) (.c (.int .u32 255)),none⟩,⟨6,some 9,.idxs (.c (.str ⟨#[0,1,1,2,1,2,2,3,1,2,2,3,2,3,3,
  4,1,2,2,3,2,3,3,4,2,3,3,4,3,4,4,5,1,2,2,3,2,3,3,4,2,3,3,4,3,4,4,5,2,3,3,4,3,4,4,5,3,4,4,5,4,5,5,6,1,2,2,
  3,2,3,3,4,2,3,3,4,3,4,4,5,2,3,3,4,3,4,4,5,3,4,4,5,4,5,5,6,2,3,3,4,3,4,4,5,3,4,4,5,4,5,5,6,3,4,4,5,4,5,5,
  6,4,5,5,6,5,6,6,7,1,2,2,3,2,3,3,4,2,3,3,4,3,4,4,5,2,3,3,4,3,4,4,5,3,4,4,5,4,5,5,6,2,3,3,4,3,4,4,5,3,4,4,
  5,4,5,5,6,3,4,4,5,4,5,5,6,4,5,5,6,5,6,6,7,2,3,3,4,3,4,4,5,3,4,4,5,4,5,5,6,3,4,4,5,4,5,5,6,4,5,5,6,5,6,6,
  7,3,4,4,5,4,5,5,6,4,5,5,6,5,6,6,7,4,5,5,6,5,6,6,7,5,6,6,7,6,7,7,8]⟩)) (.t 8),none⟩,⟨7,some 10,.bin .add (.t 5) (.t
  9),none⟩,⟨8,some 11,.mv (.t 0),none⟩,⟨9,some 12,.bin .shr (.t 11) (.c (.int .u64 8)),none⟩,⟨10,some 13,.bin .and (.t 12) (.c (.int
  .u32 255)),none⟩,⟨11,some 14,.idxs (.c (.str ⟨#[0,1,1,2,1,2,2,3,1,2,2,3,2,3,3,4,1,2,2,3,2,3,3,4,2,3,3,4,3,4,4,5,1,
  2,2,3,2,3,3,4,2,3,3,4,3,4,4,5,2,3,3,4,3,4,4,5,3,4,4,5,4,5,5,6,1,2,2,3,2,3,3,4,2,3,3,4,3,4,4,5,2,3,3,4,3,
  4,4,5,3,4,4,5,4,5,5,6,2,3,3,4,3,4,4,5,3,4,4,5,4,5,5,6,3,4,4,5,4,5,5,6,4,5,5,6,5,6,6,7,1,2,2,3,2,3,3,4,2,
  3,3,4,3,4,4,5,2,3,3,4,3,4,4,5,3,4,4,5,4,5,5,6,2,3,3,4,3,4,4,5,3,4,4,5,4,5,5,6,3,4,4,5,4,5,5,6,4,5,5,6,5,
  6,6,7,2,3,3,4,3,4,4,5,3,4,4,5,4,5,5,6,3,4,4,5,4,5,5,6,4,5,5,6,5,6,6,7,3,4,4,5,4,5,5,6,4,5,5,6,5,6,6,7,4,
  5,5,6,5,6,6,7,5,6,6,7,6,7,7,8]⟩)) (.t 13),none⟩,⟨12,some 15,.bin .add (.t 10) (.t 14),none⟩,⟨13,some 16,.mv (.t 0),none⟩,
  ⟨14,some 17,.bin .and (.t 16) (.c (.int .u32 255)),none⟩,⟨15,some 18,.idxs (.c (.str ⟨#[0,1,1,2,1,2,2,3,1,2,2,3,2,3,3,4,1,2,
  2,3,2,3,3,4,2,3,3,4,3,4,4,5,1,2,2,3,2,3,3,4,2,3,3,4,3,4,4,5,2,3,3,4,3,4,4,5,3,4,4,5,4,5,5,6,1,2,2,3,2,3,
  3,4,2,3,3,4,3,4,4,5,2,3,3,4,3,4,4,5,3,4,4,5,4,5,5,6,2,3,3,4,3,4,4,5,3,4,4,5,4,5,5,6,3,4,4,5,4,5,5,6,4,5,
  5,6,5,6,6,7,1,2,2,3,2,3,3,4,2,3,3,4,3,4,4,5,2,3,3,4,3,4,4,5,3,4,4,5,4,5,5,6,2,3,3,4,3,4,4,5,3,4,4,5,4,5,
  5,6,3,4,4,5,4,5,5,6,4,5,5,6,5,6,6,7,2,3,3,4,3,4,4,5,3,4,4,5,4,5,5,6,3,4,4,5,4,5,5,6,4,5,5,6,5,6,6,7,3,4,
  4,5,4,5,5,6,4,5,5,6,5,6,6,7,4,5,5,6,5,6,6,7,5,6,6,7,6,7,7,8]⟩)) (.t 17),none⟩,⟨16,some 19,.bin .add (.t 15) (.t 18),
  none⟩,⟨17,some 20,.conv .i64 (.t 19),none⟩,⟨18,some 2,.mv (.t 20),none⟩]) .ret))⟩
theorem is118 : FnIs prog 118 x118.fn := ⟨fun vs w => call118 vs w,_,_,func118,rfl,rfl,by kernel_rfl,by kernel_rfl⟩
theorem ok118 : okX x118.body = true := by kernel_rfl
theorem st118 : sitesP x118 x118.body := (sitesP_of rfl)

def x119 : XFn := ⟨35,[(2,none)],false,false,
  (.seq (.reg [] false [⟨0,some 2,.mv (.c (.int .i64 0)),none⟩]) (.seq (.reg [] false [⟨0,some 3,.mv (.t 0),none⟩,⟨0,some 4,(.bin .shr (.t 3)
  (.c (.int .u64 1))),none⟩,⟨0,some 5,.bin .and (.t 4) (.c (.int .u64 6148914691236517205)),none⟩,⟨0,some 6,.mv (.t 0),none⟩,⟨0,some 7,
  (.bin .and (.t 6) (.c (.int .u64 6148914691236517205))),none⟩,⟨0,some 8,.bin .add (.t 5) (.t 7),none⟩,⟨0,some 0,.mv (.t 8),none⟩]) (.seq
  (.reg [] false [⟨0,some 9,.mv (.t 0),none⟩,⟨0,some 10,.bin .shr (.t 9) (.c (.int .u64 2)),none⟩,⟨0,some 11,.bin .and (.t 10) (.c (.int
  .u64 3689348814741910323)),none⟩,⟨0,some 12,.mv (.t 0),none⟩,⟨0,some 13,.bin .and (.t 12) (.c (.int .u64 3689348814741910323)),none⟩,⟨0,
  (some 14),.bin .add (.t 11) (.t 13),none⟩,⟨0,some 0,.mv (.t 14),none⟩]) (.seq (.reg [] false [⟨0,some 15,.mv (.t 0),none⟩,⟨0,some 16,
  (.bin .shr (.t 15) (.c (.int .u64 4))),none⟩,⟨0,some 17,.mv (.t 0),none⟩,⟨0,some 18,.bin .add (.t 16) (.t 17),none⟩,⟨0,some 19,(.bin
  .and (.t 18) (.c (.int .u64 1085102592571150095))),none⟩,⟨0,some 0,.mv (.t 19),none⟩]) (.seq (.reg [] false [⟨0,some 20,.mv (.t 0),none⟩,
  ⟨0,some 21,.mv (.t 0),none⟩,⟨0,some 22,.bin .shr (.t 21) (.c (.int .u64 8)),none⟩,⟨0,some 23,.bin .add (.t 20) (.t 22),none⟩,⟨0,
  (some 0),.mv (.t 23),none⟩]) (.seq (.reg [] false [⟨0,some 24,.mv (.t 0),none⟩,⟨0,some 25,.mv (.t 0),none⟩,⟨0,some 26,.bin .shr (.t
  25) (.c (.int .u64 16)),none⟩,⟨0,some 27,.bin .add (.t 24) (.t 26),none⟩,⟨0,some 0,.mv (.t 27),none⟩]) (.seq (.reg [] false [⟨0,(some
  28),.mv (.t 0),none⟩,⟨0,some 29,.mv (.t 0),none⟩,⟨0,some 30,.bin .shr (.t 29) (.c (.int .u64 32)),none⟩,⟨0,some 31,.bin .add (.t
  28) (.t 30),none⟩,⟨0,some 0,.mv (.t 31),none⟩]) (.seq (.reg [] false [⟨0,some 32,.mv (.t 0),none⟩,⟨0,some 33,.conv .i64 (.t 32),
  none⟩,⟨0,some 34,.bin .and (.t 33) (.c (.int .i64 127)),none⟩,⟨0,some 2,.mv (.t 34),none⟩]) .ret))))))))⟩
theorem is119 : FnIs prog 119 x119.fn := ⟨fun vs w => call119 vs w,_,_,func119,rfl,rfl,by kernel_rfl,by kernel_rfl⟩
theorem ok119 : okX x119.body = true := by kernel_rfl
theorem st119 : sitesP x119 x119.body := (sitesP_of rfl)

end Go.Proofs.YtpbeclkpohehgaaDoor
end
