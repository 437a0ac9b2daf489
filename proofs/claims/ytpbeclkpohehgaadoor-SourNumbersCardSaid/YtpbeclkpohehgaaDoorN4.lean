/- Parts of a proof, joined: G0 G1. No statement of the seed is proved here. -/
import Derived.KernelRfl
import Derived.Test.YtpbeclkpohehgaaDoorProg
import Derived.Test.YtpbeclkpohehgaaDoorN3
set_option linter.unusedSimpArgs false
set_option linter.unusedVariables false
set_option linter.unusedSectionVars false
section
set_option maxRecDepth 100000
namespace Go.Proofs.YtpbeclkpohehgaaDoor
open Go Go.DL Go.Proofs.Tryd

def x13l0 : XCode :=
  (.loop [1,7,8,9,10,55,56,57] (.seq (.reg [] false [⟨0,some 58,.bin .lss (.t 57) (.t 56),none⟩]) (.seq (.cond (.t 58) .skip (.exit 0)) (.seq
  (.block 1 (.seq (.reg [] false [⟨0,some 59,.mv (.t 57),none⟩,⟨0,some 60,.idx 5 (.t 55) (.t 57),none⟩,⟨0,some 61,.load true 5 (.t 60),
  none⟩,⟨0,some 12,(.alloc [.int .i64 0,.int .i64 0,.int .i64 0,.int .i64 0,.int .i64 0]),none⟩,⟨0,some 11,.mv (.t 59),none⟩,⟨0,
  none,(.store 5 (.t 12) (.t 61) []),none⟩]) (.reg [] true [⟨0,some 62,.fld 1 (.t 10),none⟩,⟨1,some 63,.load false 1 (.t 62),none⟩,⟨2,(some
  64),.mv (.t 9),none⟩,⟨3,some 65,.mv (.t 11),none⟩,⟨5,some 67,.load true 5 (.t 12),none⟩,⟨4,some 66,(.callf false (.t 64) [.t 65]
  [1,5]),none⟩,⟨6,some 68,.idx 5 (.t 63) (.t 66),none⟩,⟨7,none,(.store 5 (.t 68) (.t 67) []),none⟩]))) (.reg [] false [⟨0,some 69,(.bin .add
  (.t 57) (.c (.int .i64 1))),none⟩,⟨0,some 57,.mv (.t 69),none⟩])))))
def x13l1 : XCode :=
  (.loop [1,7,8,9,10,15,71,72,73,77,78,79] (.seq (.reg [] false [⟨0,some 80,.bin .lss (.t 79) (.t 78),none⟩]) (.seq (.cond (.t 80) .skip
  (.exit 4)) (.seq (.block 5 (.seq (.reg [] false [⟨0,some 81,.idx 1 (.t 77) (.t 79),none⟩,⟨0,some 82,.load false 1 (.t 81),none⟩,⟨0,(some
  17),.mv (.t 82),none⟩]) (.reg [(17,false)] false [⟨0,some 83,.mv (.t 15),none⟩,⟨0,some 84,.mv (.t 9),none⟩,⟨0,some 85,.mv (.t
  17),none⟩,⟨0,some 86,(.callf false (.t 84) [.t 85] []),none⟩,⟨0,some 87,(.bslice 1 1 [.int .i64 0] [(0,(1,(.t 86)))]),none⟩,⟨0,(some
  88),.app 1 8 (.t 83) (.t 87),none⟩,⟨0,some 15,.mv (.t 88),none⟩]))) (.reg [] false [⟨0,some 89,.bin .add (.t 79) (.c (.int .i64 1)),
  none⟩,⟨0,some 79,.mv (.t 89),none⟩])))))
def x13l2 : XCode :=
  (.loop [1,7,8,9,10,71,72,73] (.seq (.reg [] false [⟨0,some 74,.bin .lss (.t 73) (.t 72),none⟩]) (.seq (.cond (.t 74) .skip (.exit 2)) (.seq
  (.block 3 (.seq (.reg [] false [⟨0,some 75,.idx 1 (.t 71) (.t 73),none⟩,⟨0,some 76,.load false 1 (.t 75),none⟩,⟨0,some 14,.mv (.t 76),
  none⟩]) (.seq (.reg [] false [⟨0,some 15,.mv (.c .nilsl),none⟩]) (.seq (.seq (.reg [] false [⟨0,some 77,.mv (.t 14),none⟩,⟨0,some 78,
  (.len false (.t 77)),none⟩,⟨0,some 79,.mv (.c (.int .i64 0)),none⟩]) (.block 4 x13l1)) (.reg [(15,false)] false [⟨0,some 90,.mv (.t 15),
  none⟩,⟨0,some 91,(.bslice 1 1 [.nilsl] [(0,(1,(.t 90)))]),none⟩,⟨0,some 92,.fld 2 (.t 10),none⟩,⟨0,some 93,.load false 1 (.t 92),
  none⟩,⟨0,some 94,.app 1 24 (.t 91) (.t 93),none⟩,⟨0,some 95,.fld 2 (.t 10),none⟩,⟨0,none,(.store 1 (.t 95) (.t 94) []),none⟩]))))) (.reg
  [] false [⟨0,some 96,.bin .add (.t 73) (.c (.int .i64 1)),none⟩,⟨0,some 73,.mv (.t 96),none⟩])))))
def x13l3 : XCode :=
  (.loop [7,8,9,10,18,19,100,101,102] (.seq (.reg [] false [⟨0,some 103,.bin .lss (.t 102) (.t 101),none⟩]) (.seq (.cond (.t 103) .skip (.exit
  6)) (.seq (.block 7 (.seq (.reg [] false [⟨0,some 104,.idx 1 (.t 100) (.t 102),none⟩,⟨0,some 105,.load false 1 (.t 104),none⟩,⟨0,some 21,
  (.mv (.t 105)),none⟩]) (.reg [(21,false)] false [⟨0,some 106,.mv (.t 19),none⟩,⟨0,some 107,.mv (.t 9),none⟩,⟨0,some 108,.mv (.t 21),
  none⟩,⟨0,some 109,(.callf false (.t 107) [.t 108] []),none⟩,⟨0,some 110,(.bslice 1 1 [.int .i64 0] [(0,(1,(.t 109)))]),none⟩,⟨0,(some
  111),.app 1 8 (.t 106) (.t 110),none⟩,⟨0,some 19,.mv (.t 111),none⟩]))) (.reg [] false [⟨0,some 112,.bin .add (.t 102) (.c (.int .i64 1)),
  none⟩,⟨0,some 102,.mv (.t 112),none⟩])))))
def x13l4 : XCode :=
  (.loop [7,9,19,22,23,25,26,183,184] (.seq (.reg [] false [⟨0,some 185,.bin .lss (.t 184) (.t 183),none⟩]) (.seq (.cond (.t 185) .skip (.exit
  8)) (.seq (.block 9 (.seq (.reg [] false [⟨0,some 186,.mv (.t 184),none⟩,⟨0,some 34,.mv (.t 186),none⟩]) (.seq (.reg [] true [⟨0,some 187,
  (.mv (.t 22)),none⟩,⟨1,some 188,.mv (.t 34),none⟩,⟨2,some 189,.idx 2 (.t 187) (.t 188),none⟩,⟨3,some 190,.load true 2 (.t 189),
  none⟩,⟨4,some 191,.mv (.t 25),none⟩,⟨5,some 192,.mv (.t 9),none⟩,⟨6,some 193,.mv (.t 34),none⟩,⟨7,some 194,(.callf false (.t
  192) [.t 193] [3]),none⟩,⟨8,some 195,.idx 2 (.t 191) (.t 194),none⟩,⟨9,some 196,.load true 2 (.t 195),none⟩,⟨10,some 197,(.eqag true
  [0,0] (.t 190) (.t 196)),none⟩,⟨11,some 198,.mv (.t 197),none⟩,⟨12,some 199,.mv (.t 23),some (198,false)⟩,⟨13,some 200,.mv (.t
  34),some (198,false)⟩,⟨14,some 201,.idx 2 (.t 199) (.t 200),some (198,false)⟩,⟨15,some 202,.load true 2 (.t 201),some (198,
  false)⟩,⟨16,some 203,.mv (.t 26),some (198,false)⟩,⟨17,some 204,.mv (.t 9),some (198,false)⟩,⟨18,some 205,.mv (.t 34),(some
  (198,false))⟩,⟨19,some 206,(.callf false (.t 204) [.t 205] [15]),some (198,false)⟩,⟨20,some 207,.idx 2 (.t 203) (.t 206),some (198,
  false)⟩,⟨21,some 208,.load true 2 (.t 207),some (198,false)⟩,⟨22,some 209,(.eqag true [0,0] (.t 202) (.t 208)),some (198,false)⟩,⟨23,
  (some 210),.pick (.t 198) (.c (.bool true)) (.t 209),none⟩]) (.cond (.t 210) (.seq (.reg [] false [⟨0,some 6,.mv (.c (.bool false)),none⟩]) .ret)
  .skip)))) (.reg [] false [⟨0,some 211,.bin .add (.t 184) (.c (.int .i64 1)),none⟩,⟨0,some 184,.mv (.t 211),none⟩])))))
def x13 : XFn := ⟨232,[(6,none)],false,false,
  (.seq (.reg [] false [⟨0,some 3,.box (.t 0),none⟩,⟨0,some 5,.box (.t 2),none⟩,⟨0,some 6,.mv (.c (.bool false)),none⟩]) (.seq (.reg [(3,
  true)] false [⟨0,some 38,.load true 5 (.t 3),none⟩,⟨0,some 39,(.callf false (.c (.fn (.func 39) [] [])) [.t 38] []),none⟩,⟨0,some 7,
  (.alloc [.nilsl,.nilsl,.nilsl,.int .i64 0,.int .i64 0]),none⟩,⟨0,none,(.store 5 (.t 7) (.t 39) []),none⟩]) (.seq (.reg [] false [⟨0,some 40,
  (.fld 1 (.t 7)),none⟩,⟨0,some 41,.load false 1 (.t 40),none⟩,⟨0,some 42,.len false (.t 41),none⟩,⟨0,some 8,(.alloc [.int .i64 0]),
  none⟩,⟨0,none,(.store 1 (.t 8) (.t 42) []),none⟩]) (.seq (.seq (.reg [] false [⟨0,some 43,.load false 1 (.t 8),none⟩,⟨0,some 44,(.bin .eql
  (.t 43) (.c (.int .i64 0))),none⟩]) (.cond (.t 44) (.seq (.reg [] false [⟨0,some 45,(.callf false (.c (.fn (.func 15) [] [])) [] []),none⟩,⟨0,(some
  6),.mv (.t 45),none⟩]) .ret) .skip)) (.seq (.reg [] false [⟨0,some 46,(.mkf (.func 47) [] [.t 5,.t 8]),none⟩,⟨0,some 9,.mv (.t 46),
  none⟩]) (.seq (.reg [] true [⟨0,some 47,.fld 0 (.t 7),none⟩,⟨1,some 48,.load false 1 (.t 47),none⟩,⟨2,some 49,.fld 3 (.t 7),none⟩,
  ⟨3,some 50,.load true 2 (.t 49),none⟩,⟨4,some 51,.load false 1 (.t 8),none⟩,⟨5,some 52,(.mksl 5 40 [.int .i64 0,.int .i64 0,(.int
  .i64 0),.int .i64 0,.int .i64 0] (.t 51) (.t 51)),none⟩,⟨6,some 53,(.build [.nilsl,.nilsl,.nilsl,.int .i64 0,.int .i64 0] [(0,(1,(.t
  48))),(3,(2,(.t 50))),(1,(1,(.t 52)))]),none⟩,⟨7,some 10,(.alloc [.nilsl,.nilsl,.nilsl,.int .i64 0,.int .i64 0]),none⟩,⟨8,none,
  (.store 5 (.t 10) (.t 53) []),none⟩]) (.seq (.seq (.reg [] false [⟨0,some 54,.fld 1 (.t 7),none⟩,⟨0,some 55,.load false 1 (.t 54),none⟩,⟨0,
  (some 56),.len false (.t 55),none⟩,⟨0,some 57,.mv (.c (.int .i64 0)),none⟩]) (.block 0 x13l0)) (.seq (.seq (.reg [] false [⟨0,some 70,(.fld
  2 (.t 7)),none⟩,⟨0,some 71,.load false 1 (.t 70),none⟩,⟨0,some 72,.len false (.t 71),none⟩,⟨0,some 73,.mv (.c (.int .i64 0)),
  none⟩]) (.block 2 x13l2)) (.seq (.reg [(7,true),(1,false)] false [⟨0,some 97,.load true 5 (.t 7),none⟩,⟨0,some 98,.mv (.t 1),none⟩,⟨0,
  (some 99),(.callf false (.c (.fn (.func 40) [] [])) [.t 97,.t 98] []),none⟩,⟨0,some 18,.mv (.t 99),none⟩]) (.seq (.reg [] false [⟨0,(some
  19),.mv (.c .nilsl),none⟩]) (.seq (.seq (.reg [] false [⟨0,some 100,.mv (.t 18),none⟩,⟨0,some 101,.len false (.t 100),none⟩,⟨0,(some
  102),.mv (.c (.int .i64 0)),none⟩]) (.block 6 x13l3)) (.seq (.reg [(7,true),(18,false)] false [⟨0,some 114,.load true 5 (.t 7),none⟩,⟨0,
  (some 115),.mv (.t 18),none⟩,⟨0,some 116,(.callf false (.c (.fn (.func 17) [] [])) [.t 114,.t 115] []),none⟩,⟨0,some 113,.mv (.t 116),
  none⟩,⟨0,some 117,.ext (.t 113) 0,none⟩,⟨0,some 118,.ext (.t 113) 1,none⟩,⟨0,some 119,.ext (.t 113) 2,none⟩,⟨0,some 22,.mv (.t
  117),none⟩,⟨0,some 23,.mv (.t 118),none⟩,⟨0,some 24,.mv (.t 119),none⟩]) (.seq (.reg [(10,true),(19,false)] false [⟨0,some 121,
  (.load true 5 (.t 10)),none⟩,⟨0,some 122,.mv (.t 19),none⟩,⟨0,some 123,(.callf false (.c (.fn (.func 17) [] [])) [.t 121,.t 122] []),
  none⟩,⟨0,some 120,.mv (.t 123),none⟩,⟨0,some 124,.ext (.t 120) 0,none⟩,⟨0,some 125,.ext (.t 120) 1,none⟩,⟨0,some 126,.ext (.t
  120) 2,none⟩,⟨0,some 25,.mv (.t 124),none⟩,⟨0,some 26,.mv (.t 125),none⟩,⟨0,some 27,.mv (.t 126),none⟩]) (.seq (.reg [(7,true)]
  false [⟨0,some 128,.load true 5 (.t 7),none⟩,⟨0,some 129,(.callf false (.c (.fn (.func 29) [] [])) [.t 128] []),none⟩,⟨0,some 127,(.mv
  (.t 129)),none⟩,⟨0,some 130,.ext (.t 127) 0,none⟩,⟨0,some 131,.ext (.t 127) 1,none⟩,⟨0,some 132,.ext (.t 127) 2,none⟩,⟨0,(some
  28),.mv (.t 130),none⟩,⟨0,some 29,.mv (.t 131),none⟩,⟨0,some 30,.mv (.t 132),none⟩]) (.seq (.reg [(10,true)] false [⟨0,some 134,
  (.load true 5 (.t 10)),none⟩,⟨0,some 135,(.callf false (.c (.fn (.func 29) [] [])) [.t 134] []),none⟩,⟨0,some 133,.mv (.t 135),none⟩,⟨0,
  (some 136),.ext (.t 133) 0,none⟩,⟨0,some 137,.ext (.t 133) 1,none⟩,⟨0,some 138,.ext (.t 133) 2,none⟩,⟨0,some 31,.mv (.t 136),
  none⟩,⟨0,some 32,.mv (.t 137),none⟩,⟨0,some 33,.mv (.t 138),none⟩]) (.seq (.seq (.reg [] false [⟨0,some 139,.mv (.t 24),none⟩,⟨0,
  (some 140),.bin .neq (.t 139) (.c (.int .i64 0)),none⟩,⟨0,some 141,.mv (.t 140),none⟩,⟨0,some 142,.mv (.t 27),some (141,false)⟩,⟨0,
  (some 143),.bin .neq (.t 142) (.c (.int .i64 0)),some (141,false)⟩,⟨0,some 144,.pick (.t 141) (.c (.bool true)) (.t 143),none⟩,⟨0,(some
  145),.mv (.t 144),none⟩,⟨0,some 146,.mv (.t 30),some (145,false)⟩,⟨0,some 147,.bin .neq (.t 146) (.c (.int .i64 0)),some (145,
  false)⟩,⟨0,some 148,.pick (.t 145) (.c (.bool true)) (.t 147),none⟩,⟨0,some 149,.mv (.t 148),none⟩,⟨0,some 150,.mv (.t 33),(some
  (149,false))⟩,⟨0,some 151,.bin .neq (.t 150) (.c (.int .i64 0)),some (149,false)⟩,⟨0,some 152,.pick (.t 149) (.c (.bool true)) (.t 151),
  none⟩,⟨0,some 153,.mv (.t 152),none⟩,⟨0,some 154,.mv (.t 29),some (153,false)⟩,⟨0,some 155,.mv (.t 32),some (153,false)⟩,⟨0,
  (some 156),.bin .neq (.t 154) (.t 155),some (153,false)⟩,⟨0,some 157,.pick (.t 153) (.c (.bool true)) (.t 156),none⟩,⟨0,some 158,(.mv
  (.t 157)),none⟩,⟨0,some 159,.mv (.t 22),some (158,false)⟩,⟨0,some 160,.len false (.t 159),some (158,false)⟩,⟨0,some 161,(.load
  false 1 (.t 8)),some (158,false)⟩,⟨0,some 162,.bin .neq (.t 160) (.t 161),some (158,false)⟩,⟨0,some 163,.pick (.t 158) (.c (.bool
  true)) (.t 162),none⟩,⟨0,some 164,.mv (.t 163),none⟩,⟨0,some 165,.mv (.t 23),some (164,false)⟩,⟨0,some 166,.len false (.t 165),
  (some (164,false))⟩,⟨0,some 167,.load false 1 (.t 8),some (164,false)⟩,⟨0,some 168,.bin .neq (.t 166) (.t 167),some (164,false)⟩,⟨0,
  (some 169),.pick (.t 164) (.c (.bool true)) (.t 168),none⟩,⟨0,some 170,.mv (.t 169),none⟩,⟨0,some 171,.mv (.t 25),some (170,false)⟩,
  ⟨0,some 172,.len false (.t 171),some (170,false)⟩,⟨0,some 173,.load false 1 (.t 8),some (170,false)⟩,⟨0,some 174,.bin .neq (.t
  172) (.t 173),some (170,false)⟩,⟨0,some 175,.pick (.t 170) (.c (.bool true)) (.t 174),none⟩,⟨0,some 176,.mv (.t 175),none⟩,⟨0,(some
  177),.mv (.t 26),some (176,false)⟩,⟨0,some 178,.len false (.t 177),some (176,false)⟩,⟨0,some 179,.load false 1 (.t 8),some (176,
  false)⟩,⟨0,some 180,.bin .neq (.t 178) (.t 179),some (176,false)⟩,⟨0,some 181,.pick (.t 176) (.c (.bool true)) (.t 180),none⟩]) (.cond
  (.t 181) (.seq (.reg [] false [⟨0,some 6,.mv (.c (.bool false)),none⟩]) .ret) .skip)) (.seq (.seq (.reg [] false [⟨0,some 182,.mv (.t 22),
  none⟩,⟨0,some 183,.len false (.t 182),none⟩,⟨0,some 184,.mv (.c (.int .i64 0)),none⟩]) (.block 8 x13l4)) (.seq (.reg [] false [⟨0,(some
  212),.load true 5 (.t 7),none⟩,⟨0,some 35,(.alloc [.nilsl,.nilsl,.nilsl,.int .i64 0,.int .i64 0]),none⟩,⟨0,none,(.store 5 (.t 35) (.t
  212) []),none⟩]) (.seq (.reg [(19,false)] false [⟨0,some 213,.mv (.t 19),none⟩,⟨0,some 214,(.bslice 1 1 [.nilsl] [(0,(1,(.t 213)))]),none⟩,
  ⟨0,some 215,.fld 2 (.t 35),none⟩,⟨0,none,(.store 1 (.t 215) (.t 214) []),none⟩]) (.seq (.reg [(35,true)] false [⟨0,some 217,(.load true 5
  (.t 35)),none⟩,⟨0,some 218,(.callf false (.c (.fn (.func 29) [] [])) [.t 217] []),none⟩,⟨0,some 216,.mv (.t 218),none⟩,⟨0,some 219,
  (.ext (.t 216) 0),none⟩,⟨0,some 220,.ext (.t 216) 1,none⟩,⟨0,some 221,.ext (.t 216) 2,none⟩,⟨0,some 36,.mv (.t 219),none⟩,⟨0,
  (some 37),.mv (.t 220),none⟩,⟨0,some 24,.mv (.t 221),none⟩]) (.seq (.reg [(36,false),(19,false)] false [⟨0,some 222,.mv (.t 24),none⟩,
  ⟨0,some 223,.bin .eql (.t 222) (.c (.int .i64 0)),none⟩,⟨0,some 224,.mv (.t 223),none⟩,⟨0,some 225,.mv (.t 36),some (224,true)⟩,
  ⟨0,some 226,.mv (.t 19),some (224,true)⟩,⟨0,some 227,(.callf false (.c (.fn (.func 34) [] [])) [.t 225,.t 226] []),some (224,true)⟩,
  ⟨0,some 228,.pick (.t 224) (.t 227) (.c (.bool false)),none⟩,⟨0,some 229,.mv (.t 228),none⟩,⟨0,some 230,(.callf false (.c (.fn (.func
  15) [] [])) [] []),some (229,true)⟩,⟨0,some 231,.pick (.t 229) (.t 230) (.c (.bool false)),none⟩,⟨0,some 6,.mv (.t 231),none⟩])
  .ret)))))))))))))))))))))⟩
theorem is13 : FnIs prog 13 x13.fn := ⟨fun vs w => call13 vs w,_,_,func13,rfl,rfl,by kernel_rfl,by kernel_rfl⟩
theorem ok13 : okX x13.body = true := by kernel_rfl
theorem st13 : sitesP x13 x13.body := (sitesP_of rfl)

def x15 : XFn := ⟨170,[(0,none)],false,false,
  (.seq (.reg [] false [⟨0,some 0,.mv (.c (.bool false)),none⟩]) (.seq (.reg [] false [⟨0,some 18,(.callf false (.c (.fn (.func 49) [] [])) [] []),
  none⟩,⟨0,some 19,(.callf false (.c (.fn (.func 48) [] [])) [.t 18] []),none⟩,⟨0,some 20,(.bslice 1 3 [.int .i64 0] [(0,(1,(.c (.int .i64
  0)))),(1,(1,(.c (.int .i64 2)))),(2,(1,(.c (.int .i64 1))))]),none⟩,⟨0,some 21,(.callf false (.c (.fn (.func 17) [] [])) [.t 19,.t 20] []),
  none⟩,⟨0,some 17,.mv (.t 21),none⟩,⟨0,some 22,.ext (.t 17) 0,none⟩,⟨0,some 23,.ext (.t 17) 1,none⟩,⟨0,some 24,.ext (.t 17) 2,
  none⟩,⟨0,some 1,.mv (.t 22),none⟩,⟨0,some 2,.mv (.t 23),none⟩,⟨0,some 3,.mv (.t 24),none⟩]) (.seq (.reg [] false [⟨0,some 26,
  (.callf false (.c (.fn (.func 49) [] [])) [] []),none⟩,⟨0,some 27,(.callf false (.c (.fn (.func 48) [] [])) [.t 26] []),none⟩,⟨0,some 28,
  (.bslice 1 3 [.int .i64 0] [(0,(1,(.c (.int .i64 0)))),(1,(1,(.c (.int .i64 1)))),(2,(1,(.c (.int .i64 2))))]),none⟩,⟨0,some 29,(.callf
  false (.c (.fn (.func 19) [] [])) [.t 27,.t 28] []),none⟩,⟨0,some 25,.mv (.t 29),none⟩,⟨0,some 30,.ext (.t 25) 0,none⟩,⟨0,some 31,
  (.ext (.t 25) 1),none⟩,⟨0,some 4,.mv (.t 30),none⟩,⟨0,some 5,.mv (.t 31),none⟩]) (.seq (.reg [] false [⟨0,some 33,(.callf false (.c
  (.fn (.func 49) [] [])) [] []),none⟩,⟨0,some 34,(.callf false (.c (.fn (.func 48) [] [])) [.t 33] []),none⟩,⟨0,some 35,(.bslice 1 3 [(.int
  .i64 0)] [(0,(1,(.c (.int .i64 2)))),(1,(1,(.c (.int .i64 0)))),(2,(1,(.c (.int .i64 1))))]),none⟩,⟨0,some 36,(.callf false (.c (.fn (.func
  19) [] [])) [.t 34,.t 35] []),none⟩,⟨0,some 32,.mv (.t 36),none⟩,⟨0,some 37,.ext (.t 32) 0,none⟩,⟨0,some 38,.ext (.t 32) 1,
  none⟩,⟨0,some 6,.mv (.t 37),none⟩,⟨0,some 7,.mv (.t 38),none⟩]) (.seq (.seq (.reg [(1,false),(2,false)] false [⟨0,some 39,.mv (.t
  3),none⟩,⟨0,some 40,.bin .neq (.t 39) (.c (.int .i64 0)),none⟩,⟨0,some 41,.mv (.t 40),none⟩,⟨0,some 42,.mv (.t 5),some (41,
  false)⟩,⟨0,some 43,.bin .neq (.t 42) (.c (.int .i64 0)),some (41,false)⟩,⟨0,some 44,.pick (.t 41) (.c (.bool true)) (.t 43),none⟩,⟨0,
  (some 45),.mv (.t 44),none⟩,⟨0,some 46,.mv (.t 7),some (45,false)⟩,⟨0,some 47,.bin .neq (.t 46) (.c (.int .i64 21)),some (45,
  false)⟩,⟨0,some 48,.pick (.t 45) (.c (.bool true)) (.t 47),none⟩,⟨0,some 49,.mv (.t 48),none⟩,⟨0,some 50,.mv (.t 4),some (49,
  false)⟩,⟨0,some 51,.bin .neq (.t 50) (.c (.int .i64 90)),some (49,false)⟩,⟨0,some 52,.pick (.t 49) (.c (.bool true)) (.t 51),none⟩,⟨0,
  (some 53),.mv (.t 52),none⟩,⟨0,some 54,.mv (.t 1),some (53,false)⟩,⟨0,some 55,(.callf false (.c (.fn (.func 44) [] [])) [.c (.int .i64
  100),.c (.int .i64 230)] []),some (53,false)⟩,⟨0,some 56,(.callf false (.c (.fn (.func 44) [] [])) [.c (.int .i64 400),.c (.int .i64 530)]
  []),some (53,false)⟩,⟨0,some 57,(.callf false (.c (.fn (.func 44) [] [])) [.c (.int .i64 200),.c (.int .i64 330)] []),some (53,false)⟩,
  ⟨0,some 58,(.bslice 2 3 [.int .i64 0,.int .i64 0] [(0,(2,(.t 55))),(2,(2,(.t 56))),(4,(2,(.t 57)))]),some (53,false)⟩,⟨0,some 59,
  (.callf false (.c (.fn (.func 21) [] [])) [.t 54,.t 58] []),some (53,false)⟩,⟨0,some 60,.not (.t 59),some (53,false)⟩,⟨0,some 61,
  (.pick (.t 53) (.c (.bool true)) (.t 60)),none⟩,⟨0,some 62,.mv (.t 61),none⟩,⟨0,some 63,.mv (.t 2),some (62,false)⟩,⟨0,some 64,
  (.callf false (.c (.fn (.func 50) [] [])) [.c (.int .i64 10)] []),some (62,false)⟩,⟨0,some 65,(.callf false (.c (.fn (.func 50) [] [])) [(.c
  (.int .i64 10))] []),some (62,false)⟩,⟨0,some 66,(.callf false (.c (.fn (.func 44) [] [])) [.c (.int .i64 20),.c (.int .i64 50)] []),(some
  (62,false))⟩,⟨0,some 67,(.bslice 2 3 [.int .i64 0,.int .i64 0] [(0,(2,(.t 64))),(2,(2,(.t 65))),(4,(2,(.t 66)))]),some (62,false)⟩,
  ⟨0,some 68,(.callf false (.c (.fn (.func 21) [] [])) [.t 63,.t 67] []),some (62,false)⟩,⟨0,some 69,.not (.t 68),some (62,false)⟩,
  ⟨0,some 70,.pick (.t 62) (.c (.bool true)) (.t 69),none⟩]) (.cond (.t 70) (.seq (.reg [] false [⟨0,some 0,.mv (.c (.bool false)),none⟩]) .ret)
  .skip)) (.seq (.reg [] false [⟨0,some 72,(.callf false (.c (.fn (.func 49) [] [])) [] []),none⟩,⟨0,some 73,(.callf false (.c (.fn (.func 48) []
  [])) [.t 72] []),none⟩,⟨0,some 74,(.callf false (.c (.fn (.func 29) [] [])) [.t 73] []),none⟩,⟨0,some 71,.mv (.t 74),none⟩,⟨0,(some
  75),.ext (.t 71) 0,none⟩,⟨0,some 76,.ext (.t 71) 1,none⟩,⟨0,some 77,.ext (.t 71) 2,none⟩,⟨0,some 8,.mv (.t 75),none⟩,⟨0,(some
  9),.mv (.t 76),none⟩,⟨0,some 3,.mv (.t 77),none⟩]) (.seq (.reg [] false [⟨0,some 79,(.callf false (.c (.fn (.func 51) [] [])) [] []),none⟩,
  ⟨0,some 80,(.callf false (.c (.fn (.func 48) [] [])) [.t 79] []),none⟩,⟨0,some 81,(.callf false (.c (.fn (.func 29) [] [])) [.t 80] []),
  none⟩,⟨0,some 78,.mv (.t 81),none⟩,⟨0,some 82,.ext (.t 78) 0,none⟩,⟨0,some 83,.ext (.t 78) 1,none⟩,⟨0,some 84,.ext (.t 78) 2,
  none⟩,⟨0,some 10,.mv (.t 82),none⟩,⟨0,some 11,.mv (.t 83),none⟩,⟨0,some 5,.mv (.t 84),none⟩]) (.seq (.reg [] false [⟨0,some 86,
  (.callf false (.c (.fn (.func 49) [] [])) [] []),none⟩,⟨0,some 87,(.callf false (.c (.fn (.func 48) [] [])) [.t 86] []),none⟩,⟨0,some 88,
  (.callf false (.c (.fn (.func 32) [] [])) [.t 87] []),none⟩,⟨0,some 85,.mv (.t 88),none⟩,⟨0,some 89,.ext (.t 85) 0,none⟩,⟨0,some 90,
  (.ext (.t 85) 1),none⟩,⟨0,some 12,.mv (.t 89),none⟩,⟨0,some 7,.mv (.t 90),none⟩]) (.seq (.reg [] false [⟨0,some 92,(.callf false (.c
  (.fn (.func 49) [] [])) [] []),none⟩,⟨0,some 93,(.callf false (.c (.fn (.func 48) [] [])) [.t 92] []),none⟩,⟨0,some 94,(.bslice 1 3 [(.int
  .i64 0)] [(0,(1,(.c (.int .i64 0)))),(1,(1,(.c (.int .i64 2)))),(2,(1,(.c (.int .i64 1))))]),none⟩,⟨0,some 95,(.callf false (.c (.fn (.func
  37) [] [])) [.t 93,.t 94,.c (.int .i64 50)] []),none⟩,⟨0,some 91,.mv (.t 95),none⟩,⟨0,some 96,.ext (.t 91) 0,none⟩,⟨0,some 97,
  (.ext (.t 91) 1),none⟩,⟨0,some 13,.mv (.t 96),none⟩,⟨0,some 14,.mv (.t 97),none⟩]) (.seq (.reg [] false [⟨0,some 99,(.callf false (.c
  (.fn (.func 49) [] [])) [] []),none⟩,⟨0,some 100,(.callf false (.c (.fn (.func 48) [] [])) [.t 99] []),none⟩,⟨0,some 101,(.bslice 1 3 [(.int
  .i64 0)] [(0,(1,(.c (.int .i64 0)))),(1,(1,(.c (.int .i64 2)))),(2,(1,(.c (.int .i64 1))))]),none⟩,⟨0,some 102,(.callf false (.c (.fn (.func
  37) [] [])) [.t 100,.t 101,.c (.int .i64 90)] []),none⟩,⟨0,some 98,.mv (.t 102),none⟩,⟨0,some 103,.ext (.t 98) 0,none⟩,⟨0,(some
  104),.ext (.t 98) 1,none⟩,⟨0,some 15,.mv (.t 103),none⟩,⟨0,some 16,.mv (.t 104),none⟩]) (.seq (.reg [(8,false),(10,false),(12,
  false)] false [⟨0,some 105,.mv (.t 3),none⟩,⟨0,some 106,.bin .eql (.t 105) (.c (.int .i64 0)),none⟩,⟨0,some 107,.mv (.t 106),none⟩,
  ⟨0,some 108,.mv (.t 5),some (107,true)⟩,⟨0,some 109,.bin .eql (.t 108) (.c (.int .i64 0)),some (107,true)⟩,⟨0,some 110,.pick (.t
  107) (.t 109) (.c (.bool false)),none⟩,⟨0,some 111,.mv (.t 110),none⟩,⟨0,some 112,.mv (.t 7),some (111,true)⟩,⟨0,some 113,(.bin
  .eql (.t 112) (.c (.int .i64 0))),some (111,true)⟩,⟨0,some 114,.pick (.t 111) (.t 113) (.c (.bool false)),none⟩,⟨0,some 115,.mv (.t 114),
  none⟩,⟨0,some 116,.mv (.t 14),some (115,true)⟩,⟨0,some 117,.bin .eql (.t 116) (.c (.int .i64 0)),some (115,true)⟩,⟨0,some 118,
  (.pick (.t 115) (.t 117) (.c (.bool false))),none⟩,⟨0,some 119,.mv (.t 118),none⟩,⟨0,some 120,.mv (.t 16),some (119,true)⟩,⟨0,(some
  121),.bin .eql (.t 120) (.c (.int .i64 0)),some (119,true)⟩,⟨0,some 122,.pick (.t 119) (.t 121) (.c (.bool false)),none⟩,⟨0,some 123,
  (.mv (.t 122)),none⟩,⟨0,some 124,.mv (.t 8),some (123,true)⟩,⟨0,some 125,(.bslice 1 3 [.int .i64 0] [(0,(1,(.c (.int .i64 0)))),(1,
  (1,(.c (.int .i64 2)))),(2,(1,(.c (.int .i64 1))))]),some (123,true)⟩,⟨0,some 126,(.callf false (.c (.fn (.func 34) [] [])) [.t 124,(.t
  125)] []),some (123,true)⟩,⟨0,some 127,.pick (.t 123) (.t 126) (.c (.bool false)),none⟩,⟨0,some 128,.mv (.t 127),none⟩,⟨0,some 129,
  (.mv (.t 9)),some (128,true)⟩,⟨0,some 130,.bin .eql (.t 129) (.c (.int .i64 50)),some (128,true)⟩,⟨0,some 131,(.pick (.t 128) (.t 130)
  (.c (.bool false))),none⟩,⟨0,some 132,.mv (.t 131),none⟩,⟨0,some 133,.mv (.t 10),some (132,true)⟩,⟨0,some 134,(.bslice 1 3 [(.int
  .i64 0)] [(0,(1,(.c (.int .i64 2)))),(1,(1,(.c (.int .i64 0)))),(2,(1,(.c (.int .i64 1))))]),some (132,true)⟩,⟨0,some 135,(.callf false (.c
  (.fn (.func 34) [] [])) [.t 133,.t 134] []),some (132,true)⟩,⟨0,some 136,.pick (.t 132) (.t 135) (.c (.bool false)),none⟩,⟨0,some 137,
  (.mv (.t 136)),none⟩,⟨0,some 138,.mv (.t 11),some (137,true)⟩,⟨0,some 139,.bin .eql (.t 138) (.c (.int .i64 20)),some (137,true)⟩,
  ⟨0,some 140,.pick (.t 137) (.t 139) (.c (.bool false)),none⟩,⟨0,some 141,.mv (.t 140),none⟩,⟨0,some 142,.mv (.t 13),some (141,
  true)⟩,⟨0,some 143,.bin .eql (.t 142) (.c (.int .i64 69)),some (141,true)⟩,⟨0,some 144,.pick (.t 141) (.t 143) (.c (.bool false)),none⟩,
  ⟨0,some 145,.mv (.t 144),none⟩,⟨0,some 146,.mv (.t 15),some (145,true)⟩,⟨0,some 147,.bin .eql (.t 146) (.c (.int .i64
  1125899906842624)),some (145,true)⟩,⟨0,some 148,.pick (.t 145) (.t 147) (.c (.bool false)),none⟩,⟨0,some 149,.mv (.t 148),none⟩,⟨0,
  (some 150),(.callf false (.c (.fn (.func 49) [] [])) [] []),some (149,true)⟩,⟨0,some 151,(.callf false (.c (.fn (.func 48) [] [])) [.t 150] []),
  (some (149,true))⟩,⟨0,some 152,.mv (.t 12),some (149,true)⟩,⟨0,some 153,(.callf false (.c (.fn (.func 36) [] [])) [.t 151,.c (.int .i64
  50),.t 152] []),some (149,true)⟩,⟨0,some 154,.bin .eql (.t 153) (.c (.int .i64 0)),some (149,true)⟩,⟨0,some 155,.pick (.t 149) (.t
  154) (.c (.bool false)),none⟩,⟨0,some 156,.mv (.t 155),none⟩,⟨0,some 157,(.callf false (.c (.fn (.func 49) [] [])) [] []),some (156,
  true)⟩,⟨0,some 158,(.callf false (.c (.fn (.func 48) [] [])) [.t 157] []),some (156,true)⟩,⟨0,some 159,(.bslice 1 2 [.int .i64 0] [(0,
  (1,(.c (.int .i64 0)))),(1,(1,(.c (.int .i64 2))))]),some (156,true)⟩,⟨0,some 160,(.callf false (.c (.fn (.func 36) [] [])) [.t 158,(.c
  (.int .i64 50)),.t 159] []),some (156,true)⟩,⟨0,some 161,.bin .eql (.t 160) (.c (.int .i64 0)),some (156,true)⟩,⟨0,some 162,(.pick
  (.t 156) (.t 161) (.c (.bool false))),none⟩,⟨0,some 163,.mv (.t 162),none⟩,⟨0,some 164,(.callf false (.c (.fn (.func 49) [] [])) [] []),(some
  (163,true))⟩,⟨0,some 165,(.callf false (.c (.fn (.func 48) [] [])) [.t 164] []),some (163,true)⟩,⟨0,some 166,(.bslice 1 2 [.int .i64 0]
  [(0,(1,(.c (.int .i64 0)))),(1,(1,(.c (.int .i64 2))))]),some (163,true)⟩,⟨0,some 167,(.callf false (.c (.fn (.func 36) [] [])) [.t 165,(.c
  (.int .i64 51)),.t 166] []),some (163,true)⟩,⟨0,some 168,.bin .eql (.t 167) (.c (.int .i64 11)),some (163,true)⟩,⟨0,some 169,(.pick
  (.t 163) (.t 168) (.c (.bool false))),none⟩,⟨0,some 0,.mv (.t 169),none⟩]) .ret)))))))))))⟩
theorem is15 : FnIs prog 15 x15.fn := ⟨fun vs w => call15 vs w,_,_,func15,rfl,rfl,by kernel_rfl,by kernel_rfl⟩
theorem ok15 : okX x15.body = true := by kernel_rfl
theorem st15 : sitesP x15 x15.body := (sitesP_of rfl)

def x17l0 : XCode :=
  (.loop [2,4,5,9,36,37,38] (.seq (.reg [] false [⟨0,some 39,.bin .lss (.t 38) (.t 37),none⟩]) (.seq (.cond (.t 39) .skip (.exit 0)) (.seq (.block
  1 (.seq (.reg [] false [⟨0,some 40,.idx 1 (.t 36) (.t 38),none⟩,⟨0,some 41,.load false 1 (.t 40),none⟩,⟨0,some 11,.mv (.t 41),none⟩])
  (.seq (.reg [] false [⟨0,some 42,.fld 1 (.t 2),none⟩,⟨0,some 43,.load false 1 (.t 42),none⟩,⟨0,some 44,.mv (.t 11),none⟩,⟨0,(some
  45),.idx 5 (.t 43) (.t 44),none⟩,⟨0,some 46,.load true 5 (.t 45),none⟩,⟨0,some 12,(.alloc [.int .i64 0,.int .i64 0,.int .i64 0,
  (.int .i64 0),.int .i64 0]),none⟩,⟨0,none,(.store 5 (.t 12) (.t 46) []),none⟩]) (.seq (.reg [] false [⟨0,some 47,.fld 0 (.t 9),none⟩,⟨0,
  (some 48),.load false 1 (.t 47),none⟩,⟨0,some 49,.fld 3 (.t 12),none⟩,⟨0,some 50,.fld 0 (.t 49),none⟩,⟨0,some 51,.load false 1 (.t
  50),none⟩,⟨0,some 52,.bin .add (.t 48) (.t 51),none⟩,⟨0,some 53,.fld 0 (.t 9),none⟩,⟨0,none,(.store 1 (.t 53) (.t 52) []),none⟩])
  (.seq (.reg [] false [⟨0,some 54,.fld 1 (.t 9),none⟩,⟨0,some 55,.load false 1 (.t 54),none⟩,⟨0,some 56,.fld 3 (.t 12),none⟩,⟨0,
  (some 57),.fld 1 (.t 56),none⟩,⟨0,some 58,.load false 1 (.t 57),none⟩,⟨0,some 59,.bin .add (.t 55) (.t 58),none⟩,⟨0,some 60,(.fld 1
  (.t 9)),none⟩,⟨0,none,(.store 1 (.t 60) (.t 59) []),none⟩]) (.seq (.reg [] false [⟨0,some 61,.fld 0 (.t 2),none⟩,⟨0,some 62,(.load false 1
  (.t 61)),none⟩,⟨0,some 63,.fld 0 (.t 12),none⟩,⟨0,some 64,.load false 1 (.t 63),none⟩,⟨0,some 65,.idx 1 (.t 62) (.t 64),none⟩,⟨0,
  (some 66),.load false 1 (.t 65),none⟩,⟨0,some 67,(.mkf (.func 54) [.t 66] []),none⟩,⟨0,some 13,.mv (.t 67),none⟩]) (.reg [] true [⟨0,
  (some 68),.mv (.t 4),none⟩,⟨1,some 69,.mv (.t 11),none⟩,⟨2,some 70,.mv (.t 5),none⟩,⟨3,some 71,.mv (.t 11),none⟩,⟨4,some 72,
  (.load true 2 (.t 9)),none⟩,⟨5,some 73,.mv (.t 13),none⟩,⟨6,some 74,.fld 1 (.t 12),none⟩,⟨7,some 75,.fld 0 (.t 74),none⟩,⟨8,(some
  76),.load false 1 (.t 75),none⟩,⟨9,some 77,.fld 0 (.t 9),none⟩,⟨10,some 78,.load false 1 (.t 77),none⟩,⟨11,some 79,.bin .add (.t
  76) (.t 78),none⟩,⟨13,some 81,.mv (.t 13),none⟩,⟨14,some 82,.fld 1 (.t 12),none⟩,⟨15,some 83,.fld 1 (.t 82),none⟩,⟨16,some 84,
  (.load false 1 (.t 83)),none⟩,⟨17,some 85,.fld 1 (.t 9),none⟩,⟨18,some 86,.load false 1 (.t 85),none⟩,⟨19,some 87,(.bin .add (.t 84)
  (.t 86)),none⟩,⟨12,some 80,(.callf false (.t 73) [.t 79] [4,16,18]),none⟩,⟨20,some 88,(.callf false (.t 81) [.t 87] [4]),none⟩,⟨21,
  (some 89),(.build [.int .i64 0,.int .i64 0] [(0,(1,(.t 80))),(1,(1,(.t 88)))]),none⟩,⟨22,some 90,.idx 2 (.t 68) (.t 69),none⟩,⟨23,
  none,(.store 2 (.t 90) (.t 72) []),none⟩,⟨24,some 91,.idx 2 (.t 70) (.t 71),none⟩,⟨25,none,(.store 2 (.t 91) (.t 89) []),none⟩]))))))) (.reg
  [] false [⟨0,some 92,.bin .add (.t 38) (.c (.int .i64 1)),none⟩,⟨0,some 38,.mv (.t 92),none⟩])))))
def x17 : XFn := ⟨95,[(4,none),(5,none),(6,none)],false,false,
  (.seq (.reg [] false [⟨0,some 2,.box (.t 0),none⟩,⟨0,some 4,.mv (.c .nilsl),none⟩,⟨0,some 5,.mv (.c .nilsl),none⟩,⟨0,some 6,(.mv
  (.c (.int .i64 0))),none⟩]) (.seq (.reg [(2,true)] false [⟨0,some 15,.load true 5 (.t 2),none⟩,⟨0,some 16,(.callf false (.c (.fn (.func 52) []
  [])) [.t 15] []),none⟩,⟨0,some 14,.mv (.t 16),none⟩,⟨0,some 17,.ext (.t 14) 0,none⟩,⟨0,some 18,.ext (.t 14) 1,none⟩,⟨0,(some
  7),.mv (.t 17),none⟩,⟨0,some 6,.mv (.t 18),none⟩]) (.seq (.seq (.reg [] false [⟨0,some 19,.mv (.t 6),none⟩,⟨0,some 20,.bin .neq (.t
  19) (.c (.int .i64 0)),none⟩]) (.cond (.t 20) (.seq (.reg [] false [⟨0,some 21,.mv (.t 6),none⟩,⟨0,some 4,.mv (.c .nilsl),none⟩,⟨0,(some
  5),.mv (.c .nilsl),none⟩,⟨0,some 6,.mv (.t 21),none⟩]) .ret) .skip)) (.seq (.seq (.reg [(7,false),(1,false)] false [⟨0,some 22,.mv (.t
  7),none⟩,⟨0,some 23,.mv (.t 1),none⟩,⟨0,some 24,(.callf false (.c (.fn (.func 53) [] [])) [.t 22,.t 23] []),none⟩,⟨0,some 8,(.mv
  (.t 24)),none⟩]) (.seq (.reg [] false [⟨0,some 25,.mv (.t 8),none⟩,⟨0,some 26,.bin .neq (.t 25) (.c (.int .i64 0)),none⟩]) (.cond (.t 26)
  (.seq (.reg [] false [⟨0,some 27,.mv (.t 8),none⟩,⟨0,some 4,.mv (.c .nilsl),none⟩,⟨0,some 5,.mv (.c .nilsl),none⟩,⟨0,some 6,(.mv
  (.t 27)),none⟩]) .ret) .skip))) (.seq (.reg [] true [⟨0,some 28,.mv (.t 1),none⟩,⟨1,some 29,.len false (.t 28),none⟩,⟨2,some 30,(.mksl
  2 16 [.int .i64 0,.int .i64 0] (.t 29) (.t 29)),none⟩,⟨3,some 31,.mv (.t 1),none⟩,⟨4,some 32,.len false (.t 31),none⟩,⟨5,some 33,
  (.mksl 2 16 [.int .i64 0,.int .i64 0] (.t 32) (.t 32)),none⟩,⟨6,some 4,.mv (.t 30),none⟩,⟨7,some 5,.mv (.t 33),none⟩]) (.seq (.reg []
  false [⟨0,some 34,.fld 3 (.t 2),none⟩,⟨0,some 35,.load true 2 (.t 34),none⟩,⟨0,some 9,(.alloc [.int .i64 0,.int .i64 0]),none⟩,
  ⟨0,none,(.store 2 (.t 9) (.t 35) []),none⟩]) (.seq (.seq (.reg [] false [⟨0,some 36,.mv (.t 1),none⟩,⟨0,some 37,.len false (.t 36),none⟩,
  ⟨0,some 38,.mv (.c (.int .i64 0)),none⟩]) (.block 0 x17l0)) (.seq (.reg [] false [⟨0,some 93,.mv (.t 4),none⟩,⟨0,some 94,.mv (.t 5),
  none⟩,⟨0,some 4,.mv (.t 93),none⟩,⟨0,some 5,.mv (.t 94),none⟩,⟨0,some 6,.mv (.c (.int .i64 0)),none⟩]) .ret))))))))⟩
theorem is17 : FnIs prog 17 x17.fn := ⟨fun vs w => call17 vs w,_,_,func17,rfl,rfl,by kernel_rfl,by kernel_rfl⟩
theorem ok17 : okX x17.body = true := by kernel_rfl
theorem st17 : sitesP x17 x17.body := (sitesP_of rfl)

def x19l0 : XCode :=
  (.loop [9,22,23,24] (.seq (.reg [] false [⟨0,some 25,.bin .lss (.t 24) (.t 23),none⟩]) (.seq (.cond (.t 25) .skip (.exit 0)) (.seq (.block 1 (.seq
  (.reg [] false [⟨0,some 26,.idx 2 (.t 22) (.t 24),none⟩,⟨0,some 27,.load true 2 (.t 26),none⟩,⟨0,some 11,(.alloc [.int .i64 0,(.int
  .i64 0)]),none⟩,⟨0,none,(.store 2 (.t 11) (.t 27) []),none⟩]) (.reg [] false [⟨0,some 28,.mv (.t 9),none⟩,⟨0,some 29,.fld 1 (.t 11),
  none⟩,⟨0,some 30,.load false 1 (.t 29),none⟩,⟨0,some 31,.mm true (.t 28) (.t 30),none⟩,⟨0,some 9,.mv (.t 31),none⟩]))) (.reg []
  false [⟨0,some 32,.bin .add (.t 24) (.c (.int .i64 1)),none⟩,⟨0,some 24,.mv (.t 32),none⟩])))))
def x19 : XFn := ⟨34,[(4,none),(5,none)],false,false,
  (.seq (.reg [] false [⟨0,some 2,.box (.t 0),none⟩,⟨0,some 4,.mv (.c (.int .i64 0)),none⟩,⟨0,some 5,.mv (.c (.int .i64 0)),none⟩]) (.seq
  (.reg [(2,true),(1,false)] false [⟨0,some 13,.load true 5 (.t 2),none⟩,⟨0,some 14,.mv (.t 1),none⟩,⟨0,some 15,(.callf false (.c (.fn
  (.func 17) [] [])) [.t 13,.t 14] []),none⟩,⟨0,some 12,.mv (.t 15),none⟩,⟨0,some 16,.ext (.t 12) 0,none⟩,⟨0,some 17,(.ext (.t 12)
  1),none⟩,⟨0,some 18,.ext (.t 12) 2,none⟩,⟨0,some 6,.mv (.t 16),none⟩,⟨0,some 7,.mv (.t 17),none⟩,⟨0,some 8,.mv (.t 18),
  none⟩]) (.seq (.seq (.reg [] false [⟨0,some 19,.mv (.t 8),none⟩,⟨0,some 20,.bin .neq (.t 19) (.c (.int .i64 0)),none⟩]) (.cond (.t 20) (.seq
  (.reg [] false [⟨0,some 21,.mv (.t 8),none⟩,⟨0,some 4,.mv (.c (.int .i64 0)),none⟩,⟨0,some 5,.mv (.t 21),none⟩]) .ret) .skip)) (.seq
  (.reg [] false [⟨0,some 9,.mv (.c (.int .i64 0)),none⟩]) (.seq (.seq (.reg [] false [⟨0,some 22,.mv (.t 7),none⟩,⟨0,some 23,(.len false
  (.t 22)),none⟩,⟨0,some 24,.mv (.c (.int .i64 0)),none⟩]) (.block 0 x19l0)) (.seq (.reg [] false [⟨0,some 33,.mv (.t 9),none⟩,⟨0,some 4,
  (.mv (.t 33)),none⟩,⟨0,some 5,.mv (.c (.int .i64 0)),none⟩]) .ret))))))⟩
theorem is19 : FnIs prog 19 x19.fn := ⟨fun vs w => call19 vs w,_,_,func19,rfl,rfl,by kernel_rfl,by kernel_rfl⟩
theorem ok19 : okX x19.body = true := by kernel_rfl
theorem st19 : sitesP x19 x19.body := (sitesP_of rfl)

def x21l0 : XCode :=
  (.loop [0,1,5] (.seq (.seq (.reg [] false [⟨0,some 11,.mv (.t 5),none⟩,⟨0,some 12,.mv (.t 0),none⟩,⟨0,some 13,.len false (.t 12),
  none⟩,⟨0,some 14,.bin .lss (.t 11) (.t 13),none⟩]) (.cond (.t 14) .skip (.exit 0))) (.seq (.block 1 (.seq (.reg [] true [⟨0,some 17,.mv (.t
  0),none⟩,⟨1,some 18,.mv (.t 5),none⟩,⟨2,some 19,.idx 2 (.t 17) (.t 18),none⟩,⟨3,some 20,.load true 2 (.t 19),none⟩,⟨4,some 21,
  (.mv (.t 1)),none⟩,⟨5,some 22,.mv (.t 5),none⟩,⟨6,some 23,.idx 2 (.t 21) (.t 22),none⟩,⟨7,some 24,.load true 2 (.t 23),none⟩,⟨8,
  (some 25),(.eqag true [0,0] (.t 20) (.t 24)),none⟩]) (.cond (.t 25) (.seq (.reg [] false [⟨0,some 4,.mv (.c (.bool false)),none⟩]) .ret) .skip)))
  (.reg [] false [⟨0,some 15,.mv (.t 5),none⟩,⟨0,some 16,.bin .add (.t 15) (.c (.int .i64 1)),none⟩,⟨0,some 5,.mv (.t 16),none⟩]))))
def x21 : XFn := ⟨26,[(4,none)],false,false,
  (.seq (.reg [] false [⟨0,some 4,.mv (.c (.bool false)),none⟩]) (.seq (.seq (.reg [] false [⟨0,some 6,.mv (.t 0),none⟩,⟨0,some 7,(.len false
  (.t 6)),none⟩,⟨0,some 8,.mv (.t 1),none⟩,⟨0,some 9,.len false (.t 8),none⟩,⟨0,some 10,.bin .neq (.t 7) (.t 9),none⟩]) (.cond (.t
  10) (.seq (.reg [] false [⟨0,some 4,.mv (.c (.bool false)),none⟩]) .ret) .skip)) (.seq (.seq (.reg [] false [⟨0,some 5,.mv (.c (.int .i64 0)),
  none⟩]) (.block 0 x21l0)) (.seq (.reg [] false [⟨0,some 4,.mv (.c (.bool true)),none⟩]) .ret))))⟩
theorem is21 : FnIs prog 21 x21.fn := ⟨fun vs w => call21 vs w,_,_,func21,rfl,rfl,by kernel_rfl,by kernel_rfl⟩
theorem ok21 : okX x21.body = true := by kernel_rfl
theorem st21 : sitesP x21 x21.body := (sitesP_of rfl)

def x22l0 : XCode :=
  (.loop [1,14,15,16] (.seq (.reg [] false [⟨0,some 17,.bin .lss (.t 16) (.t 15),none⟩]) (.seq (.cond (.t 17) .skip (.exit 0)) (.seq (.block 1 (.seq
  (.reg [] false [⟨0,some 18,.idx 1 (.t 14) (.t 16),none⟩,⟨0,some 19,.load false 1 (.t 18),none⟩,⟨0,some 4,.mv (.t 19),none⟩]) (.seq
  (.reg [(4,false)] false [⟨0,some 20,.mv (.t 4),none⟩,⟨0,some 21,(.callf false (.c (.fn (.func 57) [] [])) [.t 20] []),none⟩,⟨0,some 5,
  (.mv (.t 21)),none⟩]) (.seq (.reg [] false [⟨0,some 22,.mv (.t 5),none⟩,⟨0,some 23,.bin .neq (.t 22) (.c (.int .i64 0)),none⟩]) (.cond (.t
  23) (.seq (.reg [] false [⟨0,some 24,.mv (.t 5),none⟩,⟨0,some 2,.mv (.t 24),none⟩]) .ret) .skip))))) (.reg [] false [⟨0,some 25,(.bin
  .add (.t 16) (.c (.int .i64 1))),none⟩,⟨0,some 16,.mv (.t 25),none⟩])))))
def x22l1 : XCode :=
  (.loop [1,31,32,33] (.seq (.reg [] false [⟨0,some 34,.bin .lss (.t 33) (.t 32),none⟩]) (.seq (.cond (.t 34) .skip (.exit 2)) (.seq (.block 3 (.seq
  (.reg [] false [⟨0,some 35,.idx 5 (.t 31) (.t 33),none⟩,⟨0,some 36,.load true 5 (.t 35),none⟩,⟨0,some 7,(.alloc [.int .i64 0,(.int
  .i64 0),.int .i64 0,.int .i64 0,.int .i64 0]),none⟩,⟨0,none,(.store 5 (.t 7) (.t 36) []),none⟩]) (.block 4 (.seq (.reg [(7,true)] false [⟨0,
  (some 38),.fld 0 (.t 7),none⟩,⟨0,some 39,.load false 1 (.t 38),none⟩,⟨0,some 40,.fld 0 (.t 1),none⟩,⟨0,some 41,.load false 1 (.t
  40),none⟩,⟨0,some 42,.len false (.t 41),none⟩,⟨0,some 43,.bin .sub (.t 42) (.c (.int .i64 1)),none⟩,⟨0,some 44,(.callf false (.c (.fn
  (.func 58) [] [])) [.c (.int .i64 0),.t 39,.t 43] []),none⟩,⟨0,some 45,.not (.t 44),none⟩,⟨0,some 37,.mv (.t 45),none⟩]) (.cond (.t
  37) (.seq (.reg [] false [⟨0,some 2,.mv (.c (.int .i64 18)),none⟩]) .ret) (.seq (.reg [(7,true)] false [⟨0,some 47,.fld 1 (.t 7),none⟩,⟨0,
  (some 48),.load true 2 (.t 47),none⟩,⟨0,some 49,(.callf false (.c (.fn (.func 59) [] [])) [.t 48,.c (.int .i64 0),.c (.int .i64 100000)]
  []),none⟩,⟨0,some 50,.not (.t 49),none⟩,⟨0,some 51,.mv (.t 50),none⟩,⟨0,some 52,.fld 3 (.t 7),some (51,false)⟩,⟨0,some 53,
  (.load true 2 (.t 52)),some (51,false)⟩,⟨0,some 54,(.callf false (.c (.fn (.func 59) [] [])) [.t 53,.c (.int .i64 1),.c (.int .i64 10000)]
  []),some (51,false)⟩,⟨0,some 55,.not (.t 54),some (51,false)⟩,⟨0,some 56,.pick (.t 51) (.c (.bool true)) (.t 55),none⟩,⟨0,(some
  46),.mv (.t 56),none⟩]) (.cond (.t 46) (.seq (.reg [] false [⟨0,some 2,.mv (.c (.int .i64 2)),none⟩]) .ret) .skip))))))) (.reg [] false [⟨0,
  (some 57),.bin .add (.t 33) (.c (.int .i64 1)),none⟩,⟨0,some 33,.mv (.t 57),none⟩])))))
def x22 : XFn := ⟨67,[(2,none)],false,false,
  (.seq (.reg [] false [⟨0,some 1,.box (.t 0),none⟩,⟨0,some 2,.mv (.c (.int .i64 0)),none⟩]) (.seq (.seq (.reg [] false [⟨0,some 9,(.fld 0
  (.t 1)),none⟩,⟨0,some 10,.load false 1 (.t 9),none⟩,⟨0,some 11,.len false (.t 10),none⟩,⟨0,some 12,.bin .gtr (.t 11) (.c (.int .i64
  6)),none⟩]) (.cond (.t 12) (.seq (.reg [] false [⟨0,some 2,.mv (.c (.int .i64 1)),none⟩]) .ret) .skip)) (.seq (.seq (.reg [] false [⟨0,some 13,
  (.fld 0 (.t 1)),none⟩,⟨0,some 14,.load false 1 (.t 13),none⟩,⟨0,some 15,.len false (.t 14),none⟩,⟨0,some 16,.mv (.c (.int .i64 0)),
  none⟩]) (.block 0 x22l0)) (.seq (.seq (.reg [] false [⟨0,some 26,.fld 1 (.t 1),none⟩,⟨0,some 27,.load false 1 (.t 26),none⟩,⟨0,some 28,
  (.len false (.t 27)),none⟩,⟨0,some 29,.bin .gtr (.t 28) (.c (.int .i64 10)),none⟩]) (.cond (.t 29) (.seq (.reg [] false [⟨0,some 2,.mv (.c
  (.int .i64 1)),none⟩]) .ret) .skip)) (.seq (.seq (.reg [] false [⟨0,some 30,.fld 1 (.t 1),none⟩,⟨0,some 31,.load false 1 (.t 30),none⟩,⟨0,
  (some 32),.len false (.t 31),none⟩,⟨0,some 33,.mv (.c (.int .i64 0)),none⟩]) (.block 2 x22l1)) (.seq (.seq (.reg [(1,true)] false [⟨0,(some
  58),.load true 5 (.t 1),none⟩,⟨0,some 59,(.callf false (.c (.fn (.func 60) [] [])) [.t 58] []),none⟩,⟨0,some 8,.mv (.t 59),none⟩]) (.seq
  (.reg [] false [⟨0,some 60,.mv (.t 8),none⟩,⟨0,some 61,.bin .neq (.t 60) (.c (.int .i64 0)),none⟩]) (.cond (.t 61) (.seq (.reg [] false [⟨0,
  (some 62),.mv (.t 8),none⟩,⟨0,some 2,.mv (.t 62),none⟩]) .ret) .skip))) (.seq (.seq (.reg [(1,true)] false [⟨0,some 63,.fld 3 (.t 1),
  none⟩,⟨0,some 64,.load true 2 (.t 63),none⟩,⟨0,some 65,(.callf false (.c (.fn (.func 59) [] [])) [.t 64,.c (.int .i64 0),.c (.int .i64
  100000)] []),none⟩,⟨0,some 66,.not (.t 65),none⟩]) (.cond (.t 66) (.seq (.reg [] false [⟨0,some 2,.mv (.c (.int .i64 2)),none⟩]) .ret)
  .skip)) (.seq (.reg [] false [⟨0,some 2,.mv (.c (.int .i64 0)),none⟩]) .ret))))))))⟩
theorem is22 : FnIs prog 22 x22.fn := ⟨fun vs w => call22 vs w,_,_,func22,rfl,rfl,by kernel_rfl,by kernel_rfl⟩
theorem ok22 : okX x22.body = true := by kernel_rfl
theorem st22 : sitesP x22 x22.body := (sitesP_of rfl)

def x29 : XFn := ⟨23,[(2,(some (false,1))),(3,(some (false,1))),(4,none)],false,false,
  (.seq (.reg [] false [⟨0,some 1,.box (.t 0),none⟩,⟨0,some 2,(.alloc [.nilsl]),none⟩,⟨0,some 3,(.alloc [.int .i64 0]),none⟩,⟨0,some 4,
  (.mv (.c (.int .i64 0))),none⟩]) (.seq (.reg [(1,true)] false [⟨0,some 9,.load true 5 (.t 1),none⟩,⟨0,some 10,(.callf false (.c (.fn (.func
  52) [] [])) [.t 9] []),none⟩,⟨0,some 8,.mv (.t 10),none⟩,⟨0,some 11,.ext (.t 8) 0,none⟩,⟨0,some 12,.ext (.t 8) 1,none⟩,⟨0,(some
  5),(.alloc [.nilpt]),none⟩,⟨0,none,(.store 1 (.t 5) (.t 11) []),none⟩,⟨0,some 4,.mv (.t 12),none⟩]) (.seq (.seq (.reg [] false [⟨0,some 13,
  (.mv (.t 4)),none⟩,⟨0,some 14,.bin .neq (.t 13) (.c (.int .i64 0)),none⟩]) (.cond (.t 14) (.seq (.reg [] false [⟨0,some 15,.mv (.t 4),none⟩,
  ⟨0,none,(.store 1 (.t 2) (.c .nilsl) []),none⟩,⟨0,none,(.store 1 (.t 3) (.c (.int .i64 0)) []),none⟩,⟨0,some 4,.mv (.t 15),none⟩]) .ret)
  .skip)) (.seq (.reg [(5,true)] false [⟨0,some 16,.load false 1 (.t 5),none⟩,⟨0,some 17,(.callf false (.c (.fn (.func 72) [] [])) [.t 16,(.c
  (.int .u64 0))] []),none⟩,⟨0,none,(.store 1 (.t 3) (.t 17) []),none⟩]) (.seq (.reg [] false [⟨0,some 6,(.alloc [.int .u64 0]),none⟩]) (.seq
  (.reg [] false [⟨0,some 7,(.alloc [.nilfn]),none⟩]) (.seq (.reg [] false [⟨0,some 18,(.mkf (.func 73) [] [.t 5,.t 6,.t 3,.t 2,.t 7]),
  none⟩,⟨0,none,(.store 1 (.t 7) (.t 18) []),none⟩]) (.seq (.reg [] false [⟨0,some 19,.load false 1 (.t 7),none⟩,⟨0,some 20,(.callf false (.t
  19) [] []),none⟩]) (.seq (.reg [] true [⟨0,some 21,.load false 1 (.t 2),none⟩,⟨1,some 22,.load false 1 (.t 3),none⟩,⟨2,none,(.store 1 (.t
  2) (.t 21) [1]),none⟩,⟨3,none,(.store 1 (.t 3) (.t 22) []),none⟩,⟨4,some 4,.mv (.c (.int .i64 0)),none⟩]) .ret)))))))))⟩
theorem is29 : FnIs prog 29 x29.fn := ⟨fun vs w => call29 vs w,_,_,func29,rfl,rfl,by kernel_rfl,by kernel_rfl⟩
theorem ok29 : okX x29.body = true := by kernel_rfl
theorem st29 : sitesP x29 x29.body := (sitesP_of rfl)

def x32l0 : XCode :=
  (.loop [2,3,4,7,8,9] (.seq (.seq (.reg [] false [⟨0,some 32,.load false 1 (.t 9),none⟩,⟨0,some 33,.bin .neq (.t 32) (.c (.int .u64 0)),
  none⟩]) (.cond (.t 33) .skip (.exit 0))) (.seq (.block 1 (.seq (.seq (.reg [(4,true),(9,true)] false [⟨0,some 34,.load false 1 (.t 4),none⟩,⟨0,
  (some 35),.load false 1 (.t 9),none⟩,⟨0,some 36,(.callf false (.c (.fn (.func 80) [] [])) [.t 34,.t 35] []),none⟩,⟨0,some 10,.mv (.t
  36),none⟩]) (.seq (.reg [] false [⟨0,some 37,.mv (.t 10),none⟩,⟨0,some 38,.mv (.t 8),none⟩,⟨0,some 39,.bin .gtr (.t 37) (.t 38),
  none⟩]) (.cond (.t 39) (.reg [] false [⟨0,some 40,.load false 1 (.t 9),none⟩,⟨0,some 41,.mv (.t 10),none⟩,⟨0,some 7,.mv (.t 40),
  none⟩,⟨0,some 8,.mv (.t 41),none⟩]) .skip))) (.seq (.reg [] false [⟨0,some 11,(.alloc [.int .i64 0]),none⟩,⟨0,some 12,(.alloc [(.int
  .i64 0)]),none⟩,⟨0,none,(.store 1 (.t 11) (.c (.int .i64 0)) []),none⟩,⟨0,none,(.store 1 (.t 12) (.c (.int .i64 1000001)) []),none⟩]) (.seq (.seq
  (.reg [(9,true)] false [⟨0,some 42,.load false 1 (.t 9),none⟩,⟨0,some 43,(.callf false (.c (.fn (.func 81) [] [])) [.t 42] []),none⟩])
  (.block 2 (.rng 0 [4,9,11,12] (.t 43) [44] (.reg [] false [⟨0,some 13,(.alloc [.int .i64 0]),none⟩,⟨0,none,(.store 1 (.t 13) (.t 44) []),
  none⟩]) (.block 3 (.seq (.reg [] false [⟨0,some 45,(.mkf (.func 82) [] [.t 4,.t 13]),none⟩,⟨0,some 14,.mv (.t 45),none⟩]) (.seq (.reg [(9,
  true),(14,false),(4,true),(13,true)] true [⟨0,some 46,.load false 1 (.t 9),none⟩,⟨3,some 49,.mv (.t 14),none⟩,⟨1,some 47,(.callf
  false (.c (.fn (.func 81) [] [])) [.t 46] []),none⟩,⟨2,some 48,(.callf false (.c (.fn (.func 85) [] [])) [.t 47] []),none⟩,⟨4,some 50,
  (.callf false (.c (.fn (.func 84) [] [])) [.t 48,.t 49] []),none⟩,⟨5,some 51,.not (.t 50),none⟩,⟨6,some 52,.mv (.t 51),none⟩,⟨7,
  (some 53),.load false 1 (.t 4),some (52,true)⟩,⟨8,some 54,.load false 1 (.t 9),some (52,true)⟩,⟨9,some 55,.load false 1 (.t 13),
  (some (52,true))⟩,⟨11,some 57,.load false 1 (.t 12),some (52,true)⟩,⟨10,some 56,(.callf false (.c (.fn (.func 86) [] [])) [.t 53,(.t
  54),.t 55] [11]),some (52,true)⟩,⟨12,some 58,.bin .lss (.t 56) (.t 57),some (52,true)⟩,⟨13,some 59,.pick (.t 52) (.t 58) (.c (.bool
  false)),none⟩]) (.cond (.t 59) (.reg [(4,true),(9,true),(13,true)] true [⟨0,some 60,.load false 1 (.t 13),none⟩,⟨1,some 61,(.load false 1
  (.t 4)),none⟩,⟨2,some 62,.load false 1 (.t 9),none⟩,⟨3,some 63,.load false 1 (.t 13),none⟩,⟨4,some 64,(.callf false (.c (.fn (.func
  86) [] [])) [.t 61,.t 62,.t 63] [0]),none⟩,⟨5,none,(.store 1 (.t 11) (.t 60) []),none⟩,⟨6,none,(.store 1 (.t 12) (.t 64) []),none⟩])
  .skip))))))) (.reg [] true [⟨0,some 65,.load false 1 (.t 9),none⟩,⟨1,some 66,.load false 1 (.t 11),none⟩,⟨2,some 67,.bin .shl (.c (.int
  .u64 1)) (.t 66),none⟩,⟨3,some 68,.bin .andNot (.t 65) (.t 67),none⟩,⟨4,none,(.store 1 (.t 9) (.t 68) []),none⟩]))))) (.seq (.reg [] false
  [⟨0,some 69,.load false 1 (.t 9),none⟩]) (.reg [] false [⟨0,some 9,(.alloc [.int .u64 0]),none⟩,⟨0,none,(.store 1 (.t 9) (.t 69) []),
  none⟩])))))
def x32 : XFn := ⟨73,[(2,none),(3,none)],false,false,
  (.seq (.reg [] false [⟨0,some 1,.box (.t 0),none⟩,⟨0,some 2,.mv (.c .nilsl),none⟩,⟨0,some 3,.mv (.c (.int .i64 0)),none⟩]) (.seq (.reg
  [(1,true)] false [⟨0,some 16,.load true 5 (.t 1),none⟩,⟨0,some 17,(.callf false (.c (.fn (.func 52) [] [])) [.t 16] []),none⟩,⟨0,(some
  15),.mv (.t 17),none⟩,⟨0,some 18,.ext (.t 15) 0,none⟩,⟨0,some 19,.ext (.t 15) 1,none⟩,⟨0,some 4,(.alloc [.nilpt]),none⟩,⟨0,none,
  (.store 1 (.t 4) (.t 18) []),none⟩,⟨0,some 5,.mv (.t 19),none⟩]) (.seq (.seq (.reg [] false [⟨0,some 20,.mv (.t 5),none⟩,⟨0,some 21,
  (.bin .neq (.t 20) (.c (.int .i64 0))),none⟩]) (.cond (.t 21) (.seq (.reg [] false [⟨0,some 22,.mv (.t 5),none⟩,⟨0,some 2,.mv (.c .nilsl),
  none⟩,⟨0,some 3,.mv (.t 22),none⟩]) .ret) .skip)) (.seq (.reg [(4,true)] false [⟨0,some 23,.load false 1 (.t 4),none⟩,⟨0,some 24,
  (.callf false (.c (.fn (.func 72) [] [])) [.t 23,.c (.int .u64 0)] []),none⟩,⟨0,some 6,.mv (.t 24),none⟩]) (.seq (.seq (.reg [] false [⟨0,
  (some 25),.mv (.t 6),none⟩,⟨0,some 26,.bin .eql (.t 25) (.c (.int .i64 0)),none⟩]) (.cond (.t 26) (.seq (.reg [] false [⟨0,some 2,.mv (.c
  .nilsl),none⟩,⟨0,some 3,.mv (.c (.int .i64 5)),none⟩]) .ret) .skip)) (.seq (.reg [] false [⟨0,some 7,.mv (.c (.int .u64 0)),none⟩,⟨0,
  (some 8),.mv (.c (.int .i64 0)),none⟩]) (.seq (.seq (.reg [] false [⟨0,some 27,.fld 1 (.t 1),none⟩,⟨0,some 28,.load false 1 (.t 27),
  none⟩,⟨0,some 29,.len false (.t 28),none⟩,⟨0,some 30,.bin .shl (.c (.int .u64 1)) (.t 29),none⟩,⟨0,some 31,.bin .sub (.t 30) (.c (.int
  .u64 1)),none⟩,⟨0,some 9,(.alloc [.int .u64 0]),none⟩,⟨0,none,(.store 1 (.t 9) (.t 31) []),none⟩]) (.block 0 x32l0)) (.seq (.reg [] false [⟨0,
  (some 70),.mv (.t 7),none⟩,⟨0,some 71,(.callf false (.c (.fn (.func 81) [] [])) [.t 70] []),none⟩,⟨0,some 72,(.callf false (.c (.fn (.func
  85) [] [])) [.t 71] []),none⟩,⟨0,some 2,.mv (.t 72),none⟩,⟨0,some 3,.mv (.c (.int .i64 0)),none⟩]) .ret))))))))⟩
theorem is32 : FnIs prog 32 x32.fn := ⟨fun vs w => call32 vs w,_,_,func32,rfl,rfl,by kernel_rfl,by kernel_rfl⟩
theorem ok32 : okX x32.body = true := by kernel_rfl
theorem st32 : sitesP x32 x32.body := ⟨sitesP_of rfl,⟨sitesP_of rfl,⟨sitesP_of rfl,⟨sitesP_of rfl,⟨sitesP_of rfl,⟨sitesP_of rfl,⟨⟨sitesP_of rfl,⟨sitesP_of rfl,⟨⟨sitesP_of rfl,⟨sitesP_of rfl,⟨⟨sitesP_of rfl,⟨by kernel_rfl,sitesP_of rfl,sitesP_of rfl⟩⟩,sitesP_of rfl⟩⟩⟩,sitesP_of rfl⟩⟩⟩,sitesP_of rfl⟩⟩⟩⟩⟩⟩⟩

def x34l0 : XCode :=
  (.loop [0,1,5] (.seq (.seq (.reg [] false [⟨0,some 11,.mv (.t 5),none⟩,⟨0,some 12,.mv (.t 0),none⟩,⟨0,some 13,.len false (.t 12),
  none⟩,⟨0,some 14,.bin .lss (.t 11) (.t 13),none⟩]) (.cond (.t 14) .skip (.exit 0))) (.seq (.block 1 (.seq (.reg [] true [⟨0,some 17,.mv (.t
  0),none⟩,⟨1,some 18,.mv (.t 5),none⟩,⟨2,some 19,.idx 1 (.t 17) (.t 18),none⟩,⟨3,some 20,.load false 1 (.t 19),none⟩,⟨4,(some
  21),.mv (.t 1),none⟩,⟨5,some 22,.mv (.t 5),none⟩,⟨6,some 23,.idx 1 (.t 21) (.t 22),none⟩,⟨7,some 24,.load false 1 (.t 23),none⟩,
  ⟨8,some 25,.bin .neq (.t 20) (.t 24),none⟩]) (.cond (.t 25) (.seq (.reg [] false [⟨0,some 4,.mv (.c (.bool false)),none⟩]) .ret) .skip)))
  (.reg [] false [⟨0,some 15,.mv (.t 5),none⟩,⟨0,some 16,.bin .add (.t 15) (.c (.int .i64 1)),none⟩,⟨0,some 5,.mv (.t 16),none⟩]))))
def x34 : XFn := ⟨26,[(4,none)],false,false,
  (.seq (.reg [] false [⟨0,some 4,.mv (.c (.bool false)),none⟩]) (.seq (.seq (.reg [] false [⟨0,some 6,.mv (.t 0),none⟩,⟨0,some 7,(.len false
  (.t 6)),none⟩,⟨0,some 8,.mv (.t 1),none⟩,⟨0,some 9,.len false (.t 8),none⟩,⟨0,some 10,.bin .neq (.t 7) (.t 9),none⟩]) (.cond (.t
  10) (.seq (.reg [] false [⟨0,some 4,.mv (.c (.bool false)),none⟩]) .ret) .skip)) (.seq (.seq (.reg [] false [⟨0,some 5,.mv (.c (.int .i64 0)),
  none⟩]) (.block 0 x34l0)) (.seq (.reg [] false [⟨0,some 4,.mv (.c (.bool true)),none⟩]) .ret))))⟩
theorem is34 : FnIs prog 34 x34.fn := ⟨fun vs w => call34 vs w,_,_,func34,rfl,rfl,by kernel_rfl,by kernel_rfl⟩
theorem ok34 : okX x34.body = true := by kernel_rfl
theorem st34 : sitesP x34 x34.body := (sitesP_of rfl)

def x36l0 : XCode :=
  (.loop [1,3,7,9,10,30,31,32] (.seq (.reg [] false [⟨0,some 33,.bin .lss (.t 32) (.t 31),none⟩]) (.seq (.cond (.t 33) .skip (.exit 1)) (.seq
  (.block 2 (.seq (.reg [] false [⟨0,some 34,.idx 1 (.t 30) (.t 32),none⟩,⟨0,some 35,.load false 1 (.t 34),none⟩,⟨0,some 12,.mv (.t 35),
  none⟩]) (.seq (.block 3 (.seq (.reg [] false [⟨0,some 37,.mv (.t 12),none⟩,⟨0,some 38,.fld 1 (.t 3),none⟩,⟨0,some 39,.load false 1 (.t
  38),none⟩,⟨0,some 40,.len false (.t 39),none⟩,⟨0,some 41,.bin .sub (.t 40) (.c (.int .i64 1)),none⟩,⟨0,some 42,(.callf false (.c (.fn
  (.func 58) [] [])) [.c (.int .i64 0),.t 37,.t 41] []),none⟩,⟨0,some 43,.not (.t 42),none⟩,⟨0,some 36,.mv (.t 43),none⟩]) (.cond (.t
  36) (.seq (.reg [] false [⟨0,some 6,.mv (.c (.int .i64 5)),none⟩]) .ret) (.seq (.reg [] false [⟨0,some 45,.mv (.t 12),none⟩,⟨0,some 46,
  (.mv (.t 10)),none⟩,⟨0,some 47,.bin .leq (.t 45) (.t 46),none⟩,⟨0,some 44,.mv (.t 47),none⟩]) (.cond (.t 44) (.seq (.reg [] false [⟨0,
  (some 6),.mv (.c (.int .i64 7)),none⟩]) .ret) .skip))))) (.seq (.reg [] false [⟨0,some 48,.mv (.t 12),none⟩,⟨0,some 10,.mv (.t 48),
  none⟩]) (.reg [] false [⟨0,some 49,.mv (.t 9),none⟩,⟨0,some 50,.mv (.t 12),none⟩,⟨0,some 51,.bin .shl (.c (.int .u64 1)) (.t 50),
  none⟩,⟨0,some 52,.bin .or (.t 49) (.t 51),none⟩,⟨0,some 9,.mv (.t 52),none⟩]))))) (.reg [] false [⟨0,some 53,.bin .add (.t 32) (.c
  (.int .i64 1)),none⟩,⟨0,some 32,.mv (.t 53),none⟩])))))
def x36 : XFn := ⟨59,[(6,none)],false,false,
  (.seq (.reg [] false [⟨0,some 3,.box (.t 0),none⟩,⟨0,some 6,.mv (.c (.int .i64 0)),none⟩]) (.seq (.reg [(3,true)] false [⟨0,some 14,(.load
  true 5 (.t 3)),none⟩,⟨0,some 15,(.callf false (.c (.fn (.func 52) [] [])) [.t 14] []),none⟩,⟨0,some 13,.mv (.t 15),none⟩,⟨0,some 16,
  (.ext (.t 13) 0),none⟩,⟨0,some 17,.ext (.t 13) 1,none⟩,⟨0,some 7,.mv (.t 16),none⟩,⟨0,some 8,.mv (.t 17),none⟩]) (.seq (.block 0
  (.seq (.reg [] false [⟨0,some 19,.mv (.t 8),none⟩,⟨0,some 20,.bin .neq (.t 19) (.c (.int .i64 0)),none⟩,⟨0,some 18,.mv (.t 20),
  none⟩]) (.cond (.t 18) (.seq (.reg [] false [⟨0,some 21,.mv (.t 8),none⟩,⟨0,some 6,.mv (.t 21),none⟩]) .ret) (.seq (.reg [] false [⟨0,(some
  23),.mv (.t 1),none⟩,⟨0,some 24,(.callf false (.c (.fn (.func 58) [] [])) [.c (.int .i64 1),.t 23,.c (.int .i64 1000000)] []),none⟩,⟨0,
  (some 25),.not (.t 24),none⟩,⟨0,some 22,.mv (.t 25),none⟩]) (.cond (.t 22) (.seq (.reg [] false [⟨0,some 6,.mv (.c (.int .i64 2)),none⟩])
  .ret) (.seq (.reg [] false [⟨0,some 27,.mv (.t 2),none⟩,⟨0,some 28,.len false (.t 27),none⟩,⟨0,some 29,.bin .eql (.t 28) (.c (.int .i64
  0)),none⟩,⟨0,some 26,.mv (.t 29),none⟩]) (.cond (.t 26) (.seq (.reg [] false [⟨0,some 6,.mv (.c (.int .i64 4)),none⟩]) .ret) .skip)))))))
  (.seq (.reg [] false [⟨0,some 9,.mv (.c (.int .u64 0)),none⟩]) (.seq (.reg [] false [⟨0,some 10,.mv (.c (.int .i64 (-1))),none⟩]) (.seq (.seq
  (.reg [] false [⟨0,some 30,.mv (.t 2),none⟩,⟨0,some 31,.len false (.t 30),none⟩,⟨0,some 32,.mv (.c (.int .i64 0)),none⟩]) (.block 1
  x36l0)) (.seq (.seq (.reg [(7,false)] false [⟨0,some 54,.mv (.t 7),none⟩,⟨0,some 55,.mv (.t 9),none⟩,⟨0,some 56,(.callf false (.c (.fn
  (.func 80) [] [])) [.t 54,.t 55] []),none⟩,⟨0,some 57,.mv (.t 1),none⟩,⟨0,some 58,.bin .lss (.t 56) (.t 57),none⟩]) (.cond (.t 58)
  (.seq (.reg [] false [⟨0,some 6,.mv (.c (.int .i64 11)),none⟩]) .ret) .skip)) (.seq (.reg [] false [⟨0,some 6,.mv (.c (.int .i64 0)),none⟩])
  .ret))))))))⟩
theorem is36 : FnIs prog 36 x36.fn := ⟨fun vs w => call36 vs w,_,_,func36,rfl,rfl,by kernel_rfl,by kernel_rfl⟩
theorem ok36 : okX x36.body = true := by kernel_rfl
theorem st36 : sitesP x36 x36.body := (sitesP_of rfl)

def x37l0 : XCode :=
  (.loop [3,5,8,11,36,37,38] (.seq (.reg [] false [⟨0,some 39,.bin .lss (.t 38) (.t 37),none⟩]) (.seq (.cond (.t 39) .skip (.exit 1)) (.seq (.block
  2 (.seq (.reg [] false [⟨0,some 40,.mv (.t 38),none⟩,⟨0,some 41,.idx 5 (.t 36) (.t 38),none⟩,⟨0,some 42,.load true 5 (.t 41),none⟩,
  ⟨0,some 13,(.alloc [.int .i64 0,.int .i64 0,.int .i64 0,.int .i64 0,.int .i64 0]),none⟩,⟨0,some 12,.mv (.t 40),none⟩,⟨0,none,
  (.store 5 (.t 13) (.t 42) []),none⟩]) (.seq (.reg [] false [⟨0,some 43,.fld 0 (.t 3),none⟩,⟨0,some 44,.load false 1 (.t 43),none⟩,⟨0,(some
  45),.fld 0 (.t 13),none⟩,⟨0,some 46,.load false 1 (.t 45),none⟩,⟨0,some 47,.idx 1 (.t 44) (.t 46),none⟩,⟨0,some 48,(.load false 1
  (.t 47)),none⟩,⟨0,some 14,.mv (.t 48),none⟩]) (.seq (.reg [(14,false)] false [⟨0,some 49,.mv (.t 14),none⟩,⟨0,some 50,(.mkf (.func 91)
  [] [.t 5]),none⟩,⟨0,some 51,(.callf false (.c (.fn (.func 90) [] [])) [.t 49,.t 50] []),none⟩,⟨0,some 15,.mv (.t 51),none⟩]) (.seq
  (.reg [] false [⟨0,some 52,.mv (.t 15),none⟩,⟨0,some 53,.bin .geq (.t 52) (.c (.int .i64 0)),none⟩]) (.cond (.t 53) (.reg [] true [⟨0,(some
  54),.mv (.t 11),none⟩,⟨1,some 55,.mv (.t 14),none⟩,⟨2,some 56,.mv (.t 15),none⟩,⟨3,some 57,.idx 2 (.t 55) (.t 56),none⟩,⟨4,
  (some 58),.fld 0 (.t 57),none⟩,⟨5,some 59,.load false 1 (.t 58),none⟩,⟨6,some 60,.bin .sub (.t 59) (.c (.int .i64 1)),none⟩,⟨7,(some
  61),.fld 1 (.t 13),none⟩,⟨8,some 62,.fld 1 (.t 61),none⟩,⟨9,some 63,.load false 1 (.t 62),none⟩,⟨10,some 64,.bin .sub (.t 60) (.t
  63),none⟩,⟨11,some 65,.mv (.t 8),none⟩,⟨12,some 66,.mv (.t 12),none⟩,⟨13,some 67,.idx 2 (.t 65) (.t 66),none⟩,⟨14,some 68,
  (.fld 1 (.t 67)),none⟩,⟨15,some 69,.load false 1 (.t 68),none⟩,⟨16,some 70,.bin .sub (.t 64) (.t 69),none⟩,⟨17,some 71,.mm false (.t
  54) (.t 70),none⟩,⟨18,some 11,.mv (.t 71),none⟩]) .skip)))))) (.reg [] false [⟨0,some 72,.bin .add (.t 38) (.c (.int .i64 1)),none⟩,⟨0,
  (some 38),.mv (.t 72),none⟩])))))
def x37 : XFn := ⟨74,[(6,none),(7,none)],false,false,
  (.seq (.reg [] false [⟨0,some 3,.box (.t 0),none⟩,⟨0,some 5,.box (.t 2),none⟩,⟨0,some 6,.mv (.c (.int .i64 0)),none⟩,⟨0,some 7,
  (.mv (.c (.int .i64 0))),none⟩]) (.seq (.reg [(3,true),(1,false)] false [⟨0,some 17,.load true 5 (.t 3),none⟩,⟨0,some 18,.mv (.t 1),
  none⟩,⟨0,some 19,(.callf false (.c (.fn (.func 17) [] [])) [.t 17,.t 18] []),none⟩,⟨0,some 16,.mv (.t 19),none⟩,⟨0,some 20,.ext (.t
  16) 0,none⟩,⟨0,some 21,.ext (.t 16) 1,none⟩,⟨0,some 22,.ext (.t 16) 2,none⟩,⟨0,some 8,.mv (.t 20),none⟩,⟨0,some 9,.mv (.t
  21),none⟩,⟨0,some 10,.mv (.t 22),none⟩]) (.seq (.block 0 (.seq (.reg [] false [⟨0,some 24,.mv (.t 10),none⟩,⟨0,some 25,.bin .neq (.t
  24) (.c (.int .i64 0)),none⟩,⟨0,some 23,.mv (.t 25),none⟩]) (.cond (.t 23) (.seq (.reg [] false [⟨0,some 26,.mv (.t 10),none⟩,⟨0,(some
  6),.mv (.c (.int .i64 0)),none⟩,⟨0,some 7,.mv (.t 26),none⟩]) .ret) (.seq (.reg [(5,true)] false [⟨0,some 28,.load false 1 (.t 5),none⟩,
  ⟨0,some 29,(.callf false (.c (.fn (.func 58) [] [])) [.c (.int .i64 0),.t 28,.c (.int .i64 1000000)] []),none⟩,⟨0,some 30,.not (.t 29),
  none⟩,⟨0,some 27,.mv (.t 30),none⟩]) (.cond (.t 27) (.seq (.reg [] false [⟨0,some 6,.mv (.c (.int .i64 0)),none⟩,⟨0,some 7,.mv (.c
  (.int .i64 2)),none⟩]) .ret) (.seq (.reg [(9,false)] false [⟨0,some 32,.mv (.t 9),none⟩,⟨0,some 33,(.mkf (.func 89) [] [.t 5]),none⟩,⟨0,
  (some 34),(.callf false (.c (.fn (.func 88) [] [])) [.t 32,.t 33] []),none⟩,⟨0,some 31,.mv (.t 34),none⟩]) (.cond (.t 31) (.seq (.reg []
  false [⟨0,some 6,.mv (.c (.int .i64 0)),none⟩,⟨0,some 7,.mv (.c (.int .i64 10)),none⟩]) .ret) .skip))))))) (.seq (.reg [] false [⟨0,(some
  11),.mv (.c (.int .i64 1125899906842624)),none⟩]) (.seq (.seq (.reg [] false [⟨0,some 35,.fld 1 (.t 3),none⟩,⟨0,some 36,.load false 1 (.t
  35),none⟩,⟨0,some 37,.len false (.t 36),none⟩,⟨0,some 38,.mv (.c (.int .i64 0)),none⟩]) (.block 1 x37l0)) (.seq (.reg [] false [⟨0,(some
  73),.mv (.t 11),none⟩,⟨0,some 6,.mv (.t 73),none⟩,⟨0,some 7,.mv (.c (.int .i64 0)),none⟩]) .ret))))))⟩
theorem is37 : FnIs prog 37 x37.fn := ⟨fun vs w => call37 vs w,_,_,func37,rfl,rfl,by kernel_rfl,by kernel_rfl⟩
theorem ok37 : okX x37.body = true := by kernel_rfl
theorem st37 : sitesP x37 x37.body := (sitesP_of rfl)

def x39l0 : XCode :=
  (.loop [1,2,3,5,6,7,8,9,34,35] (.seq (.seq (.reg [] false [⟨0,some 38,.mv (.t 9),none⟩,⟨0,some 39,.mv (.t 5),none⟩,⟨0,some 40,
  (.len false (.t 39)),none⟩,⟨0,some 41,.bin .lss (.t 38) (.t 40),none⟩,⟨0,some 42,.mv (.t 41),none⟩,⟨0,some 43,.mv (.t 9),some (42,
  true)⟩,⟨0,some 44,.bin .lss (.t 43) (.c (.int .i64 4)),some (42,true)⟩,⟨0,some 45,.pick (.t 42) (.t 44) (.c (.bool false)),none⟩])
  (.cond (.t 45) .skip (.exit 2))) (.seq (.block 3 (.seq (.reg [] true [⟨0,some 48,.mv (.t 7),none⟩,⟨1,some 49,.bin .add (.t 48) (.c (.int .i64
  1)),none⟩,⟨2,some 50,.mv (.t 5),none⟩,⟨3,some 51,.mv (.t 9),none⟩,⟨4,some 52,.idx 2 (.t 50) (.t 51),none⟩,⟨5,some 53,(.idxa 2
  1 (.t 52) (.c (.int .i64 0))),none⟩,⟨6,some 54,.load false 1 (.t 53),none⟩,⟨7,some 55,.conv .i64 (.t 54),none⟩,⟨8,some 56,(.bin .add
  (.t 49) (.t 55)),none⟩,⟨9,some 57,.mv (.t 8),none⟩,⟨10,some 58,.bin .add (.t 57) (.c (.int .i64 1)),none⟩,⟨11,some 59,.mv (.t 5),
  none⟩,⟨12,some 60,.mv (.t 9),none⟩,⟨13,some 61,.idx 2 (.t 59) (.t 60),none⟩,⟨14,some 62,.idxa 2 1 (.t 61) (.c (.int .i64 1)),none⟩,
  ⟨15,some 63,.load false 1 (.t 62),none⟩,⟨16,some 64,.conv .i64 (.t 63),none⟩,⟨17,some 65,.bin .rem (.t 64) (.c (.int .i64 9)),none⟩,
  ⟨18,some 66,.bin .add (.t 58) (.t 65),none⟩,⟨19,some 7,.mv (.t 56),none⟩,⟨20,some 8,.mv (.t 66),none⟩]) (.reg [] false [⟨0,(some
  67),.mv (.t 6),none⟩,⟨0,some 68,.mv (.t 7),none⟩,⟨0,some 69,.mv (.t 8),none⟩,⟨0,some 70,(.build [.int .i64 0,.int .i64 0] [(0,
  (1,(.t 68))),(1,(1,(.t 69)))]),none⟩,⟨0,some 71,(.bslice 2 1 [.int .i64 0,.int .i64 0] [(0,(2,(.t 70)))]),none⟩,⟨0,some 72,(.app 2 16
  (.t 67) (.t 71)),none⟩,⟨0,some 6,.mv (.t 72),none⟩]))) (.reg [] false [⟨0,some 46,.mv (.t 9),none⟩,⟨0,some 47,.bin .add (.t 46) (.c
  (.int .i64 1)),none⟩,⟨0,some 9,.mv (.t 47),none⟩]))))
def x39l1 : XCode :=
  (.loop [1,2,3,34,35] (.seq (.reg [] false [⟨0,some 36,.bin .lss (.t 35) (.c (.int .i64 2)),none⟩]) (.seq (.cond (.t 36) .skip (.exit 0)) (.seq
  (.block 1 (.seq (.reg [] false [⟨0,some 37,.idxv false 2 1 (.t 34) (.t 35),none⟩,⟨0,some 5,.mv (.t 37),none⟩]) (.seq (.reg [] false [⟨0,
  (some 6),.mv (.c .nilsl),none⟩]) (.seq (.reg [] false [⟨0,some 7,.mv (.c (.int .i64 0)),none⟩,⟨0,some 8,.mv (.c (.int .i64 0)),none⟩])
  (.seq (.seq (.reg [] false [⟨0,some 9,.mv (.c (.int .i64 0)),none⟩]) (.block 2 x39l0)) (.reg [(6,false)] false [⟨0,some 73,.fld 0 (.t 3),
  none⟩,⟨0,some 74,.load false 1 (.t 73),none⟩,⟨0,some 75,.mv (.t 6),none⟩,⟨0,some 76,(.bslice 1 1 [.nilsl] [(0,(1,(.t 75)))]),none⟩,
  ⟨0,some 77,.app 1 24 (.t 74) (.t 76),none⟩,⟨0,some 78,.fld 0 (.t 3),none⟩,⟨0,none,(.store 1 (.t 78) (.t 77) []),none⟩])))))) (.reg []
  false [⟨0,some 79,.bin .add (.t 35) (.c (.int .i64 1)),none⟩,⟨0,some 35,.mv (.t 79),none⟩])))))
def x39l2 : XCode :=
  (.loop [1,2,3,10,11] (.seq (.seq (.reg [] false [⟨0,some 80,.mv (.t 11),none⟩,⟨0,some 81,.fld 2 (.t 1),none⟩,⟨0,some 82,(.load false 1
  (.t 81)),none⟩,⟨0,some 83,.len false (.t 82),none⟩,⟨0,some 84,.bin .lss (.t 80) (.t 83),none⟩,⟨0,some 85,.mv (.t 84),none⟩,⟨0,
  (some 86),.mv (.t 11),some (85,true)⟩,⟨0,some 87,.bin .lss (.t 86) (.c (.int .i64 5)),some (85,true)⟩,⟨0,some 88,.pick (.t 85) (.t
  87) (.c (.bool false)),none⟩]) (.cond (.t 88) .skip (.exit 4))) (.seq (.block 5 (.seq (.reg [] false [⟨0,some 91,.fld 2 (.t 1),none⟩,⟨0,(some
  92),.load false 1 (.t 91),none⟩,⟨0,some 93,.mv (.t 11),none⟩,⟨0,some 94,.idx 5 (.t 92) (.t 93),none⟩,⟨0,some 95,.load true 5 (.t
  94),none⟩,⟨0,some 12,(.alloc [.int .u8 0,.int .u8 0,.int .u8 0,.int .u8 0,.int .u8 0]),none⟩,⟨0,none,(.store 5 (.t 12) (.t 95) []),
  none⟩]) (.seq (.reg [] true [⟨0,some 96,.idxa 5 1 (.t 12) (.c (.int .i64 0)),none⟩,⟨1,some 97,.load false 1 (.t 96),none⟩,⟨2,some 98,
  (.conv .i64 (.t 97)),none⟩,⟨3,some 99,.idxa 5 1 (.t 12) (.c (.int .i64 2)),none⟩,⟨4,some 100,.load false 1 (.t 99),none⟩,⟨5,some 101,
  (.conv .i64 (.t 100)),none⟩,⟨6,some 102,.bin .rem (.t 101) (.c (.int .i64 60)),none⟩,⟨7,some 103,.bin .add (.c (.int .i64 1)) (.t 102),
  none⟩,⟨8,some 13,.mv (.t 98),none⟩,⟨9,some 14,.mv (.t 103),none⟩]) (.seq (.reg [] true [⟨0,some 104,.fld 1 (.t 3),none⟩,⟨1,(some
  105),.load false 1 (.t 104),none⟩,⟨2,some 106,.idxa 5 1 (.t 12) (.c (.int .i64 4)),none⟩,⟨3,some 107,.load false 1 (.t 106),none⟩,⟨4,
  (some 108),.conv .i64 (.t 107),none⟩,⟨5,some 109,.bin .rem (.t 108) (.c (.int .i64 2)),none⟩,⟨6,some 110,.mv (.t 13),none⟩,⟨7,(some
  111),.mv (.t 13),none⟩,⟨8,some 112,.idxa 5 1 (.t 12) (.c (.int .i64 1)),none⟩,⟨9,some 113,.load false 1 (.t 112),none⟩,⟨10,some 114,
  (.conv .i64 (.t 113)),none⟩,⟨11,some 115,.bin .rem (.t 114) (.c (.int .i64 50)),none⟩,⟨12,some 116,.bin .add (.t 111) (.t 115),none⟩,⟨14,
  (some 118),.mv (.t 14),none⟩,⟨15,some 119,.mv (.t 14),none⟩,⟨16,some 120,.idxa 5 1 (.t 12) (.c (.int .i64 3)),none⟩,⟨17,some 121,
  (.load false 1 (.t 120)),none⟩,⟨18,some 122,.conv .i64 (.t 121),none⟩,⟨19,some 123,.bin .rem (.t 122) (.c (.int .i64 30)),none⟩,⟨20,(some
  124),.bin .add (.t 119) (.t 123),none⟩,⟨13,some 117,(.callf false (.c (.fn (.func 44) [] [])) [.t 110,.t 116] [1,3,17]),none⟩,⟨21,(some
  125),(.callf false (.c (.fn (.func 44) [] [])) [.t 118,.t 124] [1,3]),none⟩,⟨22,some 126,(.build [.int .i64 0,.int .i64 0,.int .i64 0,
  (.int .i64 0),.int .i64 0] [(0,(1,(.t 109))),(1,(2,(.t 117))),(3,(2,(.t 125)))]),none⟩,⟨23,some 127,(.bslice 5 1 [.int .i64 0,(.int .i64
  0),.int .i64 0,.int .i64 0,.int .i64 0] [(0,(5,(.t 126)))]),none⟩,⟨24,some 128,.app 5 40 (.t 105) (.t 127),none⟩,⟨25,some 129,(.fld
  1 (.t 3)),none⟩,⟨26,none,(.store 1 (.t 129) (.t 128) []),none⟩]) (.seq (.reg [] false [⟨0,some 130,.idxa 5 1 (.t 12) (.c (.int .i64 4)),none⟩,
  ⟨0,some 131,.load false 1 (.t 130),none⟩,⟨0,some 132,.conv .i64 (.t 131),none⟩,⟨0,some 133,.bin .quo (.t 132) (.c (.int .i64 2)),
  none⟩,⟨0,some 134,.bin .rem (.t 133) (.c (.int .i64 3)),none⟩,⟨0,some 15,.mv (.t 134),none⟩]) (.seq (.reg [] false [⟨0,some 135,(.idxa 5
  1 (.t 12) (.c (.int .i64 4))),none⟩,⟨0,some 136,.load false 1 (.t 135),none⟩,⟨0,some 137,.bin .gtr (.t 136) (.c (.int .u8 128)),none⟩,⟨0,
  (some 138),.mv (.t 137),none⟩,⟨0,some 139,.mv (.t 15),some (138,true)⟩,⟨0,some 140,.idxa 3 1 (.t 10) (.t 139),some (138,true)⟩,
  ⟨0,some 141,.load false 1 (.t 140),some (138,true)⟩,⟨0,some 142,.len false (.t 141),some (138,true)⟩,⟨0,some 143,.bin .gtr (.t
  142) (.c (.int .i64 0)),some (138,true)⟩,⟨0,some 144,.pick (.t 138) (.t 143) (.c (.bool false)),none⟩]) (.cond (.t 144) (.reg [] false [⟨0,
  (some 145),.mv (.t 15),none⟩,⟨0,some 146,.mv (.t 11),none⟩,⟨0,some 147,(.bslice 1 1 [.int .i64 0] [(0,(1,(.t 146)))]),none⟩,⟨0,(some
  148),.mv (.t 15),none⟩,⟨0,some 149,.idxa 3 1 (.t 10) (.t 148),none⟩,⟨0,some 150,.load false 1 (.t 149),none⟩,⟨0,some 151,(.app 1 8
  (.t 147) (.t 150)),none⟩,⟨0,some 152,.idxa 3 1 (.t 10) (.t 145),none⟩,⟨0,none,(.store 1 (.t 152) (.t 151) []),none⟩]) (.reg [] false [⟨0,(some
  153),.mv (.t 15),none⟩,⟨0,some 154,.mv (.t 15),none⟩,⟨0,some 155,.idxa 3 1 (.t 10) (.t 154),none⟩,⟨0,some 156,.load false 1 (.t
  155),none⟩,⟨0,some 157,.mv (.t 11),none⟩,⟨0,some 158,(.bslice 1 1 [.int .i64 0] [(0,(1,(.t 157)))]),none⟩,⟨0,some 159,.app 1 8 (.t
  156) (.t 158),none⟩,⟨0,some 160,.idxa 3 1 (.t 10) (.t 153),none⟩,⟨0,none,(.store 1 (.t 160) (.t 159) []),none⟩])))))))) (.reg [] false [⟨0,
  (some 89),.mv (.t 11),none⟩,⟨0,some 90,.bin .add (.t 89) (.c (.int .i64 1)),none⟩,⟨0,some 11,.mv (.t 90),none⟩]))))
def x39l3 : XCode :=
  (.loop [2,3,161,162] (.seq (.reg [] false [⟨0,some 163,.bin .lss (.t 162) (.c (.int .i64 3)),none⟩]) (.seq (.cond (.t 163) .skip (.exit 6)) (.seq
  (.block 7 (.seq (.reg [] false [⟨0,some 164,.idxv false 3 1 (.t 161) (.t 162),none⟩,⟨0,some 17,.mv (.t 164),none⟩]) (.seq (.reg [] false [⟨0,
  (some 165),.mv (.t 17),none⟩,⟨0,some 166,.len false (.t 165),none⟩,⟨0,some 167,.bin .gtr (.t 166) (.c (.int .i64 0)),none⟩]) (.cond (.t
  167) (.reg [(17,false)] false [⟨0,some 168,.fld 2 (.t 3),none⟩,⟨0,some 169,.load false 1 (.t 168),none⟩,⟨0,some 170,.mv (.t 17),
  none⟩,⟨0,some 171,(.bslice 1 1 [.nilsl] [(0,(1,(.t 170)))]),none⟩,⟨0,some 172,.app 1 24 (.t 169) (.t 171),none⟩,⟨0,some 173,.fld 2 (.t
  3),none⟩,⟨0,none,(.store 1 (.t 173) (.t 172) []),none⟩]) .skip)))) (.reg [] false [⟨0,some 174,.bin .add (.t 162) (.c (.int .i64 1)),none⟩,⟨0,
  (some 162),.mv (.t 174),none⟩])))))
def x39 : XFn := ⟨176,[(2,(some (true,5)))],false,false,
  (.seq (.reg [] false [⟨0,some 1,.box (.t 0),none⟩,⟨0,some 2,(.alloc [.nilsl,.nilsl,.nilsl,.int .i64 0,.int .i64 0]),none⟩]) (.seq (.reg
  [] false [⟨0,some 18,.fld 3 (.t 1),none⟩,⟨0,some 19,.idxa 2 1 (.t 18) (.c (.int .i64 0)),none⟩,⟨0,some 20,.load false 1 (.t 19),
  none⟩,⟨0,some 21,.conv .i64 (.t 20),none⟩,⟨0,some 22,.fld 3 (.t 1),none⟩,⟨0,some 23,.idxa 2 1 (.t 22) (.c (.int .i64 0)),none⟩,⟨0,
  (some 24),.load false 1 (.t 23),none⟩,⟨0,some 25,.conv .i64 (.t 24),none⟩,⟨0,some 26,.fld 3 (.t 1),none⟩,⟨0,some 27,.idxa 2 1 (.t
  26) (.c (.int .i64 1)),none⟩,⟨0,some 28,.load false 1 (.t 27),none⟩,⟨0,some 29,.conv .i64 (.t 28),none⟩,⟨0,some 30,(.bin .add (.t 25)
  (.t 29)),none⟩,⟨0,some 31,(.callf false (.c (.fn (.func 44) [] [])) [.t 21,.t 30] []),none⟩,⟨0,some 32,(.build [.nilsl,.nilsl,.nilsl,
  (.int .i64 0),.int .i64 0] [(3,(2,(.t 31)))]),none⟩,⟨0,some 3,(.alloc [.nilsl,.nilsl,.nilsl,.int .i64 0,.int .i64 0]),none⟩,⟨0,none,
  (.store 5 (.t 3) (.t 32) []),none⟩]) (.seq (.seq (.reg [] false [⟨0,some 33,.fld 0 (.t 1),none⟩,⟨0,some 34,.load true 2 (.t 33),none⟩,⟨0,
  (some 35),.mv (.c (.int .i64 0)),none⟩]) (.block 0 x39l1)) (.seq (.reg [] false [⟨0,some 10,(.alloc [.nilsl,.nilsl,.nilsl]),none⟩]) (.seq (.seq
  (.reg [] false [⟨0,some 11,.mv (.c (.int .i64 0)),none⟩]) (.block 4 x39l2)) (.seq (.seq (.reg [] false [⟨0,some 161,.load true 3 (.t 10),
  none⟩,⟨0,some 162,.mv (.c (.int .i64 0)),none⟩]) (.block 6 x39l3)) (.seq (.reg [] false [⟨0,some 175,.load true 5 (.t 3),none⟩,⟨0,none,
  (.store 5 (.t 2) (.t 175) []),none⟩]) .ret)))))))⟩
theorem is39 : FnIs prog 39 x39.fn := ⟨fun vs w => call39 vs w,_,_,func39,rfl,rfl,by kernel_rfl,by kernel_rfl⟩
theorem ok39 : okX x39.body = true := by kernel_rfl
theorem st39 : sitesP x39 x39.body := (sitesP_of rfl)

def x40l0 : XCode :=
  (.loop [1,2,5,6,7,8,9,27,28,31,32,33] (.seq (.reg [] false [⟨0,some 34,.bin .lss (.t 33) (.t 32),none⟩]) (.seq (.cond (.t 34) .skip (.exit
  4)) (.seq (.block 5 (.seq (.reg [] false [⟨0,some 35,.idx 1 (.t 31) (.t 33),none⟩,⟨0,some 36,.load false 1 (.t 35),none⟩,⟨0,some 11,(.mv
  (.t 36)),none⟩]) (.reg [] false [⟨0,some 37,.mv (.t 9),none⟩,⟨0,some 38,.mv (.t 37),none⟩,⟨0,some 39,.mv (.t 11),some (38,true)⟩,
  ⟨0,some 40,.mv (.t 8),some (38,true)⟩,⟨0,some 41,.bin .neq (.t 39) (.t 40),some (38,true)⟩,⟨0,some 42,.pick (.t 38) (.t 41) (.c
  (.bool false)),none⟩,⟨0,some 9,.mv (.t 42),none⟩]))) (.reg [] false [⟨0,some 43,.bin .add (.t 33) (.c (.int .i64 1)),none⟩,⟨0,some 33,
  (.mv (.t 43)),none⟩])))))
def x40l1 : XCode :=
  (.loop [1,2,5,6,7,8,9,12,13,27,28,46,47,50,51,52] (.seq (.reg [] false [⟨0,some 53,.bin .lss (.t 52) (.t 51),none⟩]) (.seq (.cond (.t
  53) .skip (.exit 8)) (.seq (.block 9 (.seq (.reg [] false [⟨0,some 54,.idx 1 (.t 50) (.t 52),none⟩,⟨0,some 55,.load false 1 (.t 54),none⟩,
  ⟨0,some 15,.mv (.t 55),none⟩]) (.reg [] false [⟨0,some 56,.mv (.t 13),none⟩,⟨0,some 57,.mv (.t 56),none⟩,⟨0,some 58,.mv (.t
  15),some (57,false)⟩,⟨0,some 59,.mv (.t 12),some (57,false)⟩,⟨0,some 60,.bin .eql (.t 58) (.t 59),some (57,false)⟩,⟨0,(some
  61),.pick (.t 57) (.c (.bool true)) (.t 60),none⟩,⟨0,some 13,.mv (.t 61),none⟩]))) (.reg [] false [⟨0,some 62,.bin .add (.t 52) (.c (.int
  .i64 1)),none⟩,⟨0,some 52,.mv (.t 62),none⟩])))))
def x40l2 : XCode :=
  (.loop [1,2,5,6,7,8,9,27,28,46,47] (.seq (.reg [] false [⟨0,some 48,.bin .lss (.t 47) (.t 46),none⟩]) (.seq (.cond (.t 48) .skip (.exit 6))
  (.seq (.block 7 (.seq (.reg [] false [⟨0,some 49,.mv (.t 47),none⟩,⟨0,some 12,.mv (.t 49),none⟩]) (.seq (.reg [] false [⟨0,some 13,(.mv
  (.c (.bool false))),none⟩]) (.seq (.seq (.reg [] false [⟨0,some 50,.mv (.t 5),none⟩,⟨0,some 51,.len false (.t 50),none⟩,⟨0,some 52,(.mv
  (.c (.int .i64 0))),none⟩]) (.block 8 x40l1)) (.reg [(2,true)] false [⟨0,some 63,.mv (.t 9),none⟩,⟨0,some 64,.mv (.t 63),none⟩,⟨0,(some
  65),.mv (.t 13),some (64,true)⟩,⟨0,some 66,.mv (.t 65),some (64,true)⟩,⟨0,some 67,.load true 5 (.t 2),some (66,false)⟩,⟨0,
  (some 68),.mv (.t 8),some (66,false)⟩,⟨0,some 69,.mv (.t 12),some (66,false)⟩,⟨0,some 70,(.callf false (.c (.fn (.func 92) [] []))
  [.t 67,.t 68,.t 69] []),some (66,false)⟩,⟨0,some 71,.not (.t 70),some (66,false)⟩,⟨0,some 72,(.pick (.t 66) (.c (.bool true))
  (.t 71)),some (64,true)⟩,⟨0,some 73,.pick (.t 64) (.t 72) (.c (.bool false)),none⟩,⟨0,some 9,.mv (.t 73),none⟩]))))) (.reg [] false [⟨0,
  (some 74),.bin .add (.t 47) (.c (.int .i64 1)),none⟩,⟨0,some 47,.mv (.t 74),none⟩])))))
def x40l3 : XCode :=
  (.loop [1,2,5,6,7,27,28] (.seq (.reg [] false [⟨0,some 29,.bin .lss (.t 28) (.t 27),none⟩]) (.seq (.cond (.t 29) .skip (.exit 2)) (.seq (.block 3
  (.seq (.reg [] false [⟨0,some 30,.mv (.t 28),none⟩,⟨0,some 8,.mv (.t 30),none⟩]) (.seq (.reg [] false [⟨0,some 9,.mv (.c (.bool true)),
  none⟩]) (.seq (.seq (.reg [] false [⟨0,some 31,.mv (.t 5),none⟩,⟨0,some 32,.len false (.t 31),none⟩,⟨0,some 33,.mv (.c (.int .i64 0)),
  none⟩]) (.block 4 x40l0)) (.seq (.seq (.reg [] false [⟨0,some 44,.fld 1 (.t 2),none⟩,⟨0,some 45,.load false 1 (.t 44),none⟩,⟨0,some 46,
  (.len false (.t 45)),none⟩,⟨0,some 47,.mv (.c (.int .i64 0)),none⟩]) (.block 6 x40l2)) (.seq (.reg [] false [⟨0,some 75,.mv (.t 9),none⟩])
  (.cond (.t 75) (.reg [] false [⟨0,some 76,.mv (.t 7),none⟩,⟨0,some 77,.mv (.t 8),none⟩,⟨0,some 78,(.bslice 1 1 [.int .i64 0] [(0,(1,
  (.t 77)))]),none⟩,⟨0,some 79,.app 1 8 (.t 76) (.t 78),none⟩,⟨0,some 7,.mv (.t 79),none⟩]) .skip))))))) (.reg [] false [⟨0,some 80,(.bin
  .add (.t 28) (.c (.int .i64 1))),none⟩,⟨0,some 28,.mv (.t 80),none⟩])))))
def x40l4 : XCode :=
  (.loop [1,2,5,6] (.seq (.seq (.reg [] false [⟨0,some 17,.mv (.t 5),none⟩,⟨0,some 18,.len false (.t 17),none⟩,⟨0,some 19,.fld 1 (.t
  2),none⟩,⟨0,some 20,.load false 1 (.t 19),none⟩,⟨0,some 21,.len false (.t 20),none⟩,⟨0,some 22,.bin .lss (.t 18) (.t 21),none⟩])
  (.cond (.t 22) .skip (.exit 0))) (.seq (.block 1 (.seq (.reg [] false [⟨0,some 7,.mv (.c .nilsl),none⟩]) (.seq (.seq (.reg [] false [⟨0,some 25,
  (.fld 1 (.t 2)),none⟩,⟨0,some 26,.load false 1 (.t 25),none⟩,⟨0,some 27,.len false (.t 26),none⟩,⟨0,some 28,.mv (.c (.int .i64 0)),
  none⟩]) (.block 2 x40l3)) (.seq (.seq (.reg [] false [⟨0,some 81,.mv (.t 7),none⟩,⟨0,some 82,.len false (.t 81),none⟩,⟨0,some 83,(.bin
  .eql (.t 82) (.c (.int .i64 0))),none⟩]) (.cond (.t 83) (.seq (.reg [] false [⟨0,some 4,.mv (.c .nilsl),none⟩]) .ret) .skip)) (.seq (.reg [] false
  [⟨0,some 16,.mv (.c (.int .i64 0)),none⟩]) (.seq (.seq (.reg [] false [⟨0,some 84,.mv (.t 6),none⟩,⟨0,some 85,.mv (.t 1),none⟩,⟨0,
  (some 86),.len false (.t 85),none⟩,⟨0,some 87,.bin .lss (.t 84) (.t 86),none⟩]) (.cond (.t 87) (.reg [] false [⟨0,some 88,.mv (.t 1),
  none⟩,⟨0,some 89,.mv (.t 6),none⟩,⟨0,some 90,.idx 1 (.t 88) (.t 89),none⟩,⟨0,some 91,.load false 1 (.t 90),none⟩,⟨0,some 92,
  (.conv .i64 (.t 91)),none⟩,⟨0,some 93,.mv (.t 7),none⟩,⟨0,some 94,.len false (.t 93),none⟩,⟨0,some 95,.bin .rem (.t 92) (.t 94),
  none⟩,⟨0,some 16,.mv (.t 95),none⟩]) .skip)) (.reg [] false [⟨0,some 96,.mv (.t 5),none⟩,⟨0,some 97,.mv (.t 7),none⟩,⟨0,some 98,
  (.mv (.t 16)),none⟩,⟨0,some 99,.idx 1 (.t 97) (.t 98),none⟩,⟨0,some 100,.load false 1 (.t 99),none⟩,⟨0,some 101,(.bslice 1 1 [(.int
  .i64 0)] [(0,(1,(.t 100)))]),none⟩,⟨0,some 102,.app 1 8 (.t 96) (.t 101),none⟩,⟨0,some 5,.mv (.t 102),none⟩]))))))) (.reg [] false [⟨0,
  (some 23),.mv (.t 6),none⟩,⟨0,some 24,.bin .add (.t 23) (.c (.int .i64 1)),none⟩,⟨0,some 6,.mv (.t 24),none⟩]))))
def x40 : XFn := ⟨104,[(4,none)],false,false,
  (.seq (.reg [] false [⟨0,some 2,.box (.t 0),none⟩,⟨0,some 4,.mv (.c .nilsl),none⟩]) (.seq (.reg [] false [⟨0,some 5,.mv (.c .nilsl),
  none⟩]) (.seq (.seq (.reg [] false [⟨0,some 6,.mv (.c (.int .i64 0)),none⟩]) (.block 0 x40l4)) (.seq (.reg [] false [⟨0,some 103,.mv (.t 5),
  none⟩,⟨0,some 4,.mv (.t 103),none⟩]) .ret))))⟩
theorem is40 : FnIs prog 40 x40.fn := ⟨fun vs w => call40 vs w,_,_,func40,rfl,rfl,by kernel_rfl,by kernel_rfl⟩
theorem ok40 : okX x40.body = true := by kernel_rfl
theorem st40 : sitesP x40 x40.body := (sitesP_of rfl)

end Go.Proofs.YtpbeclkpohehgaaDoor
end
section
set_option maxRecDepth 100000
namespace Go.Proofs.YtpbeclkpohehgaaDoor
open Go Go.DL Go.Proofs.Tryd

def x44 : XFn := ⟨8,[(4,(some (true,2)))],false,false,
  (.seq (.reg [] false [⟨0,some 4,(.alloc [.int .i64 0,.int .i64 0]),none⟩]) (.seq (.reg [] false [⟨0,some 5,.mv (.t 0),none⟩,⟨0,some 6,
  (.mv (.t 1)),none⟩,⟨0,some 7,(.build [.int .i64 0,.int .i64 0] [(0,(1,(.t 5))),(1,(1,(.t 6)))]),none⟩,⟨0,none,(.store 2 (.t 4) (.t 7)
  []),none⟩]) .ret))⟩
theorem is44 : FnIs prog 44 x44.fn := ⟨fun vs w => call44 vs w,_,_,func44,rfl,rfl,by kernel_rfl,by kernel_rfl⟩
theorem ok44 : okX x44.body = true := by kernel_rfl
theorem st44 : sitesP x44 x44.body := (sitesP_of rfl)

def x47 : XFn := ⟨11,[(4,none)],false,false,
  (.seq (.reg [] false [⟨0,some 4,.mv (.c (.int .i64 0)),none⟩]) (.seq (.reg [] false [⟨0,some 5,.mv (.t 0),none⟩,⟨0,some 6,(.load false 1
  (.t 1)),none⟩,⟨0,some 7,.conv .i64 (.t 6),none⟩,⟨0,some 8,.bin .add (.t 5) (.t 7),none⟩,⟨0,some 9,.load false 1 (.t 2),none⟩,⟨0,
  (some 10),.bin .rem (.t 8) (.t 9),none⟩,⟨0,some 4,.mv (.t 10),none⟩]) .ret))⟩
theorem is47 : FnIs prog 47 x47.fn := ⟨fun vs w => call47 vs w,_,_,func47,rfl,rfl,by kernel_rfl,by kernel_rfl⟩
theorem ok47 : okX x47.body = true := by kernel_rfl
theorem st47 : sitesP x47 x47.body := (sitesP_of rfl)

def x48 : XFn := ⟨25,[(2,(some (true,5)))],false,false,
  (.seq (.reg [] false [⟨0,some 2,(.alloc [.nilsl,.nilsl,.nilsl,.int .i64 0,.int .i64 0]),none⟩]) (.seq (.reg [] false [⟨0,some 3,(.build
  [.int .i64 0,.int .i64 0] [(0,(1,(.c (.int .i64 0)))),(1,(1,(.c (.int .i64 10))))]),none⟩,⟨0,some 4,(.build [.int .i64 0,.int .i64 0]
  [(0,(1,(.c (.int .i64 600)))),(1,(1,(.c (.int .i64 20))))]),none⟩,⟨0,some 5,(.build [.int .i64 0,.int .i64 0] [(0,(1,(.c (.int .i64
  900)))),(1,(1,(.c (.int .i64 50))))]),none⟩,⟨0,some 6,(.build [.int .i64 0,.int .i64 0] [(0,(1,(.c (.int .i64 1000)))),(1,(1,(.c (.int
  .i64 90))))]),none⟩,⟨0,some 7,(.bslice 2 4 [.int .i64 0,.int .i64 0] [(0,(2,(.t 3))),(2,(2,(.t 4))),(4,(2,(.t 5))),(6,(2,(.t 6)))]),
  none⟩,⟨0,some 8,(.build [.int .i64 0,.int .i64 0] [(0,(1,(.c (.int .i64 900)))),(1,(1,(.c (.int .i64 10))))]),none⟩,⟨0,some 9,(.build
  [.int .i64 0,.int .i64 0] [(0,(1,(.c (.int .i64 1800)))),(1,(1,(.c (.int .i64 30))))]),none⟩,⟨0,some 10,(.bslice 2 2 [.int .i64 0,(.int
  .i64 0)] [(0,(2,(.t 8))),(2,(2,(.t 9)))]),none⟩,⟨0,some 11,(.bslice 1 2 [.nilsl] [(0,(1,(.t 7))),(1,(1,(.t 10)))]),none⟩,⟨0,some 12,
  (.callf false (.c (.fn (.func 50) [] [])) [.c (.int .i64 300)] []),none⟩,⟨0,some 13,(.callf false (.c (.fn (.func 44) [] [])) [.c (.int .i64 100),
  (.c (.int .i64 200))] []),none⟩,⟨0,some 14,(.build [.int .i64 0,.int .i64 0,.int .i64 0,.int .i64 0,.int .i64 0] [(0,(1,(.c (.int .i64
  0)))),(1,(2,(.t 12))),(3,(2,(.t 13)))]),none⟩,⟨0,some 15,(.callf false (.c (.fn (.func 44) [] [])) [.c (.int .i64 700),.c (.int .i64 800)]
  []),none⟩,⟨0,some 16,(.callf false (.c (.fn (.func 50) [] [])) [.c (.int .i64 200)] []),none⟩,⟨0,some 17,(.build [.int .i64 0,(.int .i64
  0),.int .i64 0,.int .i64 0,.int .i64 0] [(0,(1,(.c (.int .i64 1)))),(1,(2,(.t 15))),(3,(2,(.t 16)))]),none⟩,⟨0,some 18,(.callf false
  (.c (.fn (.func 44) [] [])) [.c (.int .i64 500),.c (.int .i64 600)] []),none⟩,⟨0,some 19,(.callf false (.c (.fn (.func 50) [] [])) [.c (.int
  .i64 100)] []),none⟩,⟨0,some 20,(.build [.int .i64 0,.int .i64 0,.int .i64 0,.int .i64 0,.int .i64 0] [(0,(1,(.c (.int .i64 0)))),
  (1,(2,(.t 18))),(3,(2,(.t 19)))]),none⟩,⟨0,some 21,(.bslice 5 3 [.int .i64 0,.int .i64 0,.int .i64 0,.int .i64 0,.int .i64 0] [(0,
  (5,(.t 14))),(5,(5,(.t 17))),(10,(5,(.t 20)))]),none⟩,⟨0,some 22,.mv (.t 0),none⟩,⟨0,some 23,(.callf false (.c (.fn (.func 44) [] []))
  [.c (.int .i64 0),.c (.int .i64 30)] []),none⟩,⟨0,some 24,(.build [.nilsl,.nilsl,.nilsl,.int .i64 0,.int .i64 0] [(0,(1,(.t 11))),(1,
  (1,(.t 21))),(2,(1,(.t 22))),(3,(2,(.t 23)))]),none⟩,⟨0,none,(.store 5 (.t 2) (.t 24) []),none⟩]) .ret))⟩
theorem is48 : FnIs prog 48 x48.fn := ⟨fun vs w => call48 vs w,_,_,func48,rfl,rfl,by kernel_rfl,by kernel_rfl⟩
theorem ok48 : okX x48.body = true := by kernel_rfl
theorem st48 : sitesP x48 x48.body := (sitesP_of rfl)

def x49 : XFn := ⟨4,[(0,none)],false,false,
  (.seq (.reg [] false [⟨0,some 0,.mv (.c .nilsl),none⟩]) (.seq (.reg [] false [⟨0,some 1,(.bslice 1 2 [.int .i64 0] [(0,(1,(.c (.int .i64 0)))),
  (1,(1,(.c (.int .i64 2))))]),none⟩,⟨0,some 2,(.bslice 1 1 [.int .i64 0] [(0,(1,(.c (.int .i64 1))))]),none⟩,⟨0,some 3,(.bslice 1 2
  [.nilsl] [(0,(1,(.t 1))),(1,(1,(.t 2)))]),none⟩,⟨0,some 0,.mv (.t 3),none⟩]) .ret))⟩
theorem is49 : FnIs prog 49 x49.fn := ⟨fun vs w => call49 vs w,_,_,func49,rfl,rfl,by kernel_rfl,by kernel_rfl⟩
theorem ok49 : okX x49.body = true := by kernel_rfl
theorem st49 : sitesP x49 x49.body := (sitesP_of rfl)

def x50 : XFn := ⟨6,[(2,(some (true,2)))],false,false,
  (.seq (.reg [] false [⟨0,some 2,(.alloc [.int .i64 0,.int .i64 0]),none⟩]) (.seq (.reg [(0,false)] false [⟨0,some 3,.mv (.t 0),none⟩,⟨0,
  (some 4),.mv (.t 0),none⟩,⟨0,some 5,(.callf false (.c (.fn (.func 44) [] [])) [.t 3,.t 4] []),none⟩,⟨0,none,(.store 2 (.t 2) (.t 5) []),
  none⟩]) .ret))⟩
theorem is50 : FnIs prog 50 x50.fn := ⟨fun vs w => call50 vs w,_,_,func50,rfl,rfl,by kernel_rfl,by kernel_rfl⟩
theorem ok50 : okX x50.body = true := by kernel_rfl
theorem st50 : sitesP x50 x50.body := (sitesP_of rfl)

def x51 : XFn := ⟨5,[(0,none)],false,false,
  (.seq (.reg [] false [⟨0,some 0,.mv (.c .nilsl),none⟩]) (.seq (.reg [] false [⟨0,some 1,(.bslice 1 1 [.int .i64 0] [(0,(1,(.c (.int .i64
  0))))]),none⟩,⟨0,some 2,(.bslice 1 1 [.int .i64 0] [(0,(1,(.c (.int .i64 1))))]),none⟩,⟨0,some 3,(.bslice 1 1 [.int .i64 0] [(0,(1,(.c
  (.int .i64 2))))]),none⟩,⟨0,some 4,(.bslice 1 3 [.nilsl] [(0,(1,(.t 1))),(1,(1,(.t 2))),(2,(1,(.t 3)))]),none⟩,⟨0,some 0,.mv (.t 4),
  none⟩]) .ret))⟩
theorem is51 : FnIs prog 51 x51.fn := ⟨fun vs w => call51 vs w,_,_,func51,rfl,rfl,by kernel_rfl,by kernel_rfl⟩
theorem ok51 : okX x51.body = true := by kernel_rfl
theorem st51 : sitesP x51 x51.body := (sitesP_of rfl)

def x52l0 : XCode :=
  (.loop [5,8,21,22,23,27,28,29] (.seq (.reg [] false [⟨0,some 30,.bin .lss (.t 29) (.t 28),none⟩]) (.seq (.cond (.t 30) .skip (.exit 2)) (.seq
  (.block 3 (.seq (.reg [] false [⟨0,some 31,.idx 1 (.t 27) (.t 29),none⟩,⟨0,some 32,.load false 1 (.t 31),none⟩,⟨0,some 10,.mv (.t 32),
  none⟩]) (.seq (.reg [] false [⟨0,some 33,.mv (.t 5),none⟩,⟨0,some 34,.mv (.t 10),none⟩,⟨0,some 35,.mv (.t 8),none⟩,⟨0,some 36,
  (.nilck (.t 33)),none⟩,⟨0,some 37,.fld 5 (.t 36),none⟩,⟨0,some 38,.idxa 10 1 (.t 37) (.t 34),none⟩,⟨0,none,(.store 1 (.t 38) (.t 35)
  []),none⟩]) (.reg [] false [⟨0,some 39,.mv (.t 8),none⟩,⟨0,some 40,.mv (.t 10),none⟩,⟨0,some 41,.bin .shl (.c (.int .u64 1)) (.t 40),
  none⟩,⟨0,some 42,.bin .or (.t 39) (.t 41),none⟩,⟨0,some 8,.mv (.t 42),none⟩])))) (.reg [] false [⟨0,some 43,.bin .add (.t 29) (.c (.int
  .i64 1)),none⟩,⟨0,some 29,.mv (.t 43),none⟩])))))
def x52l1 : XCode :=
  (.loop [5,21,22,23] (.seq (.reg [] false [⟨0,some 24,.bin .lss (.t 23) (.t 22),none⟩]) (.seq (.cond (.t 24) .skip (.exit 0)) (.seq (.block 1 (.seq
  (.reg [] false [⟨0,some 25,.idx 1 (.t 21) (.t 23),none⟩,⟨0,some 26,.load false 1 (.t 25),none⟩,⟨0,some 7,.mv (.t 26),none⟩]) (.seq
  (.reg [] false [⟨0,some 8,.mv (.c (.int .u64 0)),none⟩]) (.seq (.reg [] false [⟨0,some 27,.mv (.t 7),none⟩,⟨0,some 28,.len false (.t
  27),none⟩,⟨0,some 29,.mv (.c (.int .i64 0)),none⟩]) (.block 2 x52l0))))) (.reg [] false [⟨0,some 44,.bin .add (.t 23) (.c (.int .i64 1)),
  none⟩,⟨0,some 23,.mv (.t 44),none⟩])))))
def x52 : XFn := ⟨46,[(2,none),(3,none)],false,false,
  (.seq (.reg [] false [⟨0,some 1,.box (.t 0),none⟩,⟨0,some 2,.mv (.c .nilpt),none⟩,⟨0,some 3,.mv (.c (.int .i64 0)),none⟩]) (.seq (.seq
  (.reg [(1,true)] false [⟨0,some 11,.load true 5 (.t 1),none⟩,⟨0,some 12,(.callf false (.c (.fn (.func 22) [] [])) [.t 11] []),none⟩,⟨0,
  (some 4),.mv (.t 12),none⟩]) (.seq (.reg [] false [⟨0,some 13,.mv (.t 4),none⟩,⟨0,some 14,.bin .neq (.t 13) (.c (.int .i64 0)),none⟩])
  (.cond (.t 14) (.seq (.reg [] false [⟨0,some 15,.mv (.t 4),none⟩,⟨0,some 2,.mv (.c .nilpt),none⟩,⟨0,some 3,.mv (.t 15),none⟩]) .ret)
  .skip))) (.seq (.reg [] false [⟨0,some 16,.load true 5 (.t 1),none⟩,⟨0,some 17,.mkmap,none⟩,⟨0,some 18,(.build [.nilsl,.nilsl,.nilsl,
  (.int .i64 0),.int .i64 0,.int .u64 0,.int .u64 0,.int .u64 0,.int .u64 0,.int .u64 0,.int .u64 0,.int .u64 0,.int .u64 0,(.int
  .u64 0),.int .u64 0,.nilmap] [(0,(5,(.t 16))),(15,(1,(.t 17)))]),none⟩,⟨0,some 19,.box (.t 18),none⟩,⟨0,some 5,.mv (.t 19),none⟩])
  (.seq (.seq (.reg [] false [⟨0,some 20,.fld 2 (.t 1),none⟩,⟨0,some 21,.load false 1 (.t 20),none⟩,⟨0,some 22,.len false (.t 21),
  none⟩,⟨0,some 23,.mv (.c (.int .i64 0)),none⟩]) (.block 0 x52l1)) (.seq (.reg [] false [⟨0,some 45,.mv (.t 5),none⟩,⟨0,some 2,.mv (.t
  45),none⟩,⟨0,some 3,.mv (.c (.int .i64 0)),none⟩]) .ret)))))⟩
theorem is52 : FnIs prog 52 x52.fn := ⟨fun vs w => call52 vs w,_,_,func52,rfl,rfl,by kernel_rfl,by kernel_rfl⟩
theorem ok52 : okX x52.body = true := by kernel_rfl
theorem st52 : sitesP x52 x52.body := (sitesP_of rfl)

def x53l0 : XCode :=
  (.loop [0,5,17,18,19] (.seq (.reg [] false [⟨0,some 20,.bin .lss (.t 19) (.t 18),none⟩]) (.seq (.cond (.t 20) .skip (.exit 0)) (.seq (.block 1
  (.seq (.reg [] false [⟨0,some 21,.idx 1 (.t 17) (.t 19),none⟩,⟨0,some 22,.load false 1 (.t 21),none⟩,⟨0,some 7,.mv (.t 22),none⟩])
  (.seq (.block 2 (.seq (.reg [] false [⟨0,some 24,.mv (.t 7),none⟩,⟨0,some 25,.mv (.t 0),none⟩,⟨0,some 26,.nilck (.t 25),none⟩,⟨0,
  (some 27),.fld 0 (.t 26),none⟩,⟨0,some 28,.fld 1 (.t 27),none⟩,⟨0,some 29,.load false 1 (.t 28),none⟩,⟨0,some 30,.len false (.t
  29),none⟩,⟨0,some 31,.bin .sub (.t 30) (.c (.int .i64 1)),none⟩,⟨0,some 32,(.callf false (.c (.fn (.func 58) [] [])) [.c (.int .i64 0),(.t
  24),.t 31] []),none⟩,⟨0,some 33,.not (.t 32),none⟩,⟨0,some 23,.mv (.t 33),none⟩]) (.cond (.t 23) (.seq (.reg [] false [⟨0,some 4,
  (.mv (.c (.int .i64 5))),none⟩]) .ret) (.seq (.reg [] false [⟨0,some 35,.mv (.t 5),none⟩,⟨0,some 36,.mv (.t 7),none⟩,⟨0,some 37,(.callf
  false (.c (.fn (.func 83) [] [])) [.t 35,.t 36] []),none⟩,⟨0,some 34,.mv (.t 37),none⟩]) (.cond (.t 34) (.seq (.reg [] false [⟨0,some 4,
  (.mv (.c (.int .i64 6))),none⟩]) .ret) (.seq (.reg [] false [⟨0,some 39,.mv (.t 0),none⟩,⟨0,some 40,.mv (.t 7),none⟩,⟨0,some 41,(.nilck
  (.t 39)),none⟩,⟨0,some 42,.fld 5 (.t 41),none⟩,⟨0,some 43,.idxa 10 1 (.t 42) (.t 40),none⟩,⟨0,some 44,.load false 1 (.t 43),none⟩,
  ⟨0,some 45,.mv (.t 5),none⟩,⟨0,some 46,.bin .andNot (.t 44) (.t 45),none⟩,⟨0,some 47,.bin .neq (.t 46) (.c (.int .u64 0)),none⟩,⟨0,
  (some 38),.mv (.t 47),none⟩]) (.cond (.t 38) (.seq (.reg [] false [⟨0,some 4,.mv (.c (.int .i64 21)),none⟩]) .ret) .skip))))))) (.reg [] false
  [⟨0,some 48,.mv (.t 5),none⟩,⟨0,some 49,.mv (.t 7),none⟩,⟨0,some 50,.bin .shl (.c (.int .u64 1)) (.t 49),none⟩,⟨0,some 51,(.bin
  .or (.t 48) (.t 50)),none⟩,⟨0,some 5,.mv (.t 51),none⟩])))) (.reg [] false [⟨0,some 52,.bin .add (.t 19) (.c (.int .i64 1)),none⟩,⟨0,(some
  19),.mv (.t 52),none⟩])))))
def x53 : XFn := ⟨53,[(4,none)],false,false,
  (.seq (.reg [] false [⟨0,some 4,.mv (.c (.int .i64 0)),none⟩]) (.seq (.seq (.reg [] false [⟨0,some 8,.mv (.t 1),none⟩,⟨0,some 9,(.len false
  (.t 8)),none⟩,⟨0,some 10,.mv (.t 0),none⟩,⟨0,some 11,.nilck (.t 10),none⟩,⟨0,some 12,.fld 0 (.t 11),none⟩,⟨0,some 13,(.fld 1
  (.t 12)),none⟩,⟨0,some 14,.load false 1 (.t 13),none⟩,⟨0,some 15,.len false (.t 14),none⟩,⟨0,some 16,.bin .neq (.t 9) (.t 15),
  none⟩]) (.cond (.t 16) (.seq (.reg [] false [⟨0,some 4,.mv (.c (.int .i64 3)),none⟩]) .ret) .skip)) (.seq (.reg [] false [⟨0,some 5,.mv (.c
  (.int .u64 0)),none⟩]) (.seq (.seq (.reg [] false [⟨0,some 17,.mv (.t 1),none⟩,⟨0,some 18,.len false (.t 17),none⟩,⟨0,some 19,.mv (.c
  (.int .i64 0)),none⟩]) (.block 0 x53l0)) (.seq (.reg [] false [⟨0,some 4,.mv (.c (.int .i64 0)),none⟩]) .ret)))))⟩
theorem is53 : FnIs prog 53 x53.fn := ⟨fun vs w => call53 vs w,_,_,func53,rfl,rfl,by kernel_rfl,by kernel_rfl⟩
theorem ok53 : okX x53.body = true := by kernel_rfl
theorem st53 : sitesP x53 x53.body := (sitesP_of rfl)

def x54l0 : XCode :=
  (.loop [1,5,8,9,10] (.seq (.reg [] false [⟨0,some 11,.bin .lss (.t 10) (.t 9),none⟩]) (.seq (.cond (.t 11) .skip (.exit 0)) (.seq (.block 1 (.seq
  (.reg [] false [⟨0,some 12,.idx 2 (.t 8) (.t 10),none⟩,⟨0,some 13,.load true 2 (.t 12),none⟩,⟨0,some 7,(.alloc [.int .i64 0,(.int
  .i64 0)]),none⟩,⟨0,none,(.store 2 (.t 7) (.t 13) []),none⟩]) (.seq (.reg [] false [⟨0,some 14,.fld 0 (.t 7),none⟩,⟨0,some 15,(.load false 1
  (.t 14)),none⟩,⟨0,some 16,.mv (.t 1),none⟩,⟨0,some 17,.bin .leq (.t 15) (.t 16),none⟩]) (.cond (.t 17) (.reg [] false [⟨0,some 18,(.fld
  1 (.t 7)),none⟩,⟨0,some 19,.load false 1 (.t 18),none⟩,⟨0,some 5,.mv (.t 19),none⟩]) .skip)))) (.reg [] false [⟨0,some 20,(.bin .add
  (.t 10) (.c (.int .i64 1))),none⟩,⟨0,some 10,.mv (.t 20),none⟩])))))
def x54 : XFn := ⟨22,[(4,none)],false,false,
  (.seq (.reg [] false [⟨0,some 4,.mv (.c (.int .i64 0)),none⟩]) (.seq (.reg [] false [⟨0,some 5,.mv (.c (.int .i64 0)),none⟩]) (.seq (.seq (.reg
  [] false [⟨0,some 8,.mv (.t 0),none⟩,⟨0,some 9,.len false (.t 8),none⟩,⟨0,some 10,.mv (.c (.int .i64 0)),none⟩]) (.block 0 x54l0))
  (.seq (.reg [] false [⟨0,some 21,.mv (.t 5),none⟩,⟨0,some 4,.mv (.t 21),none⟩]) .ret))))⟩
theorem is54 : FnIs prog 54 x54.fn := ⟨fun vs w => call54 vs w,_,_,func54,rfl,rfl,by kernel_rfl,by kernel_rfl⟩
theorem ok54 : okX x54.body = true := by kernel_rfl
theorem st54 : sitesP x54 x54.body := (sitesP_of rfl)

def x57l0 : XCode :=
  (.loop [3,10,11,12] (.seq (.reg [] false [⟨0,some 13,.bin .lss (.t 12) (.t 11),none⟩]) (.seq (.cond (.t 13) .skip (.exit 0)) (.seq (.block 1 (.seq
  (.reg [] false [⟨0,some 14,.idx 2 (.t 10) (.t 12),none⟩,⟨0,some 15,.load true 2 (.t 14),none⟩,⟨0,some 5,(.alloc [.int .i64 0,(.int
  .i64 0)]),none⟩,⟨0,none,(.store 2 (.t 5) (.t 15) []),none⟩]) (.seq (.block 2 (.seq (.reg [(5,true)] false [⟨0,some 17,.fld 0 (.t 5),none⟩,⟨0,
  (some 18),.load false 1 (.t 17),none⟩,⟨0,some 19,(.callf false (.c (.fn (.func 58) [] [])) [.c (.int .i64 0),.t 18,.c (.int .i64 100000)]
  []),none⟩,⟨0,some 20,.not (.t 19),none⟩,⟨0,some 21,.mv (.t 20),none⟩,⟨0,some 22,.fld 1 (.t 5),some (21,false)⟩,⟨0,some 23,
  (.load false 1 (.t 22)),some (21,false)⟩,⟨0,some 24,(.callf false (.c (.fn (.func 58) [] [])) [.c (.int .i64 1),.t 23,.c (.int .i64
  1000000)] []),some (21,false)⟩,⟨0,some 25,.not (.t 24),some (21,false)⟩,⟨0,some 26,.pick (.t 21) (.c (.bool true)) (.t 25),none⟩,
  ⟨0,some 16,.mv (.t 26),none⟩]) (.cond (.t 16) (.seq (.reg [] false [⟨0,some 2,.mv (.c (.int .i64 2)),none⟩]) .ret) (.seq (.reg [] false [⟨0,
  (some 28),.fld 0 (.t 5),none⟩,⟨0,some 29,.load false 1 (.t 28),none⟩,⟨0,some 30,.fld 0 (.t 3),none⟩,⟨0,some 31,.load false 1 (.t
  30),none⟩,⟨0,some 32,.bin .leq (.t 29) (.t 31),none⟩,⟨0,some 33,.mv (.t 32),none⟩,⟨0,some 34,.fld 1 (.t 5),some (33,false)⟩,
  ⟨0,some 35,.load false 1 (.t 34),some (33,false)⟩,⟨0,some 36,.fld 1 (.t 3),some (33,false)⟩,⟨0,some 37,.load false 1 (.t 36),
  (some (33,false))⟩,⟨0,some 38,.bin .leq (.t 35) (.t 37),some (33,false)⟩,⟨0,some 39,.pick (.t 33) (.c (.bool true)) (.t 38),none⟩,⟨0,
  (some 27),.mv (.t 39),none⟩]) (.cond (.t 27) (.seq (.reg [] false [⟨0,some 2,.mv (.c (.int .i64 7)),none⟩]) .ret) .skip))))) (.reg [] false [⟨0,
  (some 40),.load true 2 (.t 5),none⟩,⟨0,none,(.store 2 (.t 3) (.t 40) []),none⟩])))) (.reg [] false [⟨0,some 41,.bin .add (.t 12) (.c (.int .i64
  1)),none⟩,⟨0,some 12,.mv (.t 41),none⟩])))))
def x57 : XFn := ⟨42,[(2,none)],false,false,
  (.seq (.reg [] false [⟨0,some 2,.mv (.c (.int .i64 0)),none⟩]) (.seq (.seq (.reg [] false [⟨0,some 6,.mv (.t 0),none⟩,⟨0,some 7,(.len false
  (.t 6)),none⟩,⟨0,some 8,.bin .gtr (.t 7) (.c (.int .i64 8)),none⟩]) (.cond (.t 8) (.seq (.reg [] false [⟨0,some 2,.mv (.c (.int .i64 1)),
  none⟩]) .ret) .skip)) (.seq (.reg [] false [⟨0,some 9,(.build [.int .i64 0,.int .i64 0] [(0,(1,(.c (.int .i64 (-1))))),(1,(1,(.c (.int .i64
  0))))]),none⟩,⟨0,some 3,(.alloc [.int .i64 0,.int .i64 0]),none⟩,⟨0,none,(.store 2 (.t 3) (.t 9) []),none⟩]) (.seq (.seq (.reg [] false [⟨0,
  (some 10),.mv (.t 0),none⟩,⟨0,some 11,.len false (.t 10),none⟩,⟨0,some 12,.mv (.c (.int .i64 0)),none⟩]) (.block 0 x57l0)) (.seq (.reg
  [] false [⟨0,some 2,.mv (.c (.int .i64 0)),none⟩]) .ret)))))⟩
theorem is57 : FnIs prog 57 x57.fn := ⟨fun vs w => call57 vs w,_,_,func57,rfl,rfl,by kernel_rfl,by kernel_rfl⟩
theorem ok57 : okX x57.body = true := by kernel_rfl
theorem st57 : sitesP x57 x57.body := (sitesP_of rfl)

def x58 : XFn := ⟨15,[(6,none)],false,false,
  (.seq (.reg [] false [⟨0,some 6,.mv (.c (.bool false)),none⟩]) (.seq (.reg [] false [⟨0,some 7,.mv (.t 0),none⟩,⟨0,some 8,.mv (.t 1),
  none⟩,⟨0,some 9,.bin .leq (.t 7) (.t 8),none⟩,⟨0,some 10,.mv (.t 9),none⟩,⟨0,some 11,.mv (.t 1),some (10,true)⟩,⟨0,some 12,
  (.mv (.t 2)),some (10,true)⟩,⟨0,some 13,.bin .leq (.t 11) (.t 12),some (10,true)⟩,⟨0,some 14,.pick (.t 10) (.t 13) (.c (.bool false)),
  none⟩,⟨0,some 6,.mv (.t 14),none⟩]) .ret))⟩
theorem is58 : FnIs prog 58 x58.fn := ⟨fun vs w => call58 vs w,_,_,func58,rfl,rfl,by kernel_rfl,by kernel_rfl⟩
theorem ok58 : okX x58.body = true := by kernel_rfl
theorem st58 : sitesP x58 x58.body := (sitesP_of rfl)

def x59 : XFn := ⟨24,[(6,none)],false,false,
  (.seq (.reg [] false [⟨0,some 3,.box (.t 0),none⟩,⟨0,some 6,.mv (.c (.bool false)),none⟩]) (.seq (.reg [] false [⟨0,some 7,.mv (.t 1),
  none⟩,⟨0,some 8,.fld 0 (.t 3),none⟩,⟨0,some 9,.load false 1 (.t 8),none⟩,⟨0,some 10,.bin .leq (.t 7) (.t 9),none⟩,⟨0,some 11,
  (.mv (.t 10)),none⟩,⟨0,some 12,.fld 0 (.t 3),some (11,true)⟩,⟨0,some 13,.load false 1 (.t 12),some (11,true)⟩,⟨0,some 14,(.fld 1
  (.t 3)),some (11,true)⟩,⟨0,some 15,.load false 1 (.t 14),some (11,true)⟩,⟨0,some 16,.bin .leq (.t 13) (.t 15),some (11,true)⟩,⟨0,
  (some 17),.pick (.t 11) (.t 16) (.c (.bool false)),none⟩,⟨0,some 18,.mv (.t 17),none⟩,⟨0,some 19,.fld 1 (.t 3),some (18,true)⟩,⟨0,
  (some 20),.load false 1 (.t 19),some (18,true)⟩,⟨0,some 21,.mv (.t 2),some (18,true)⟩,⟨0,some 22,.bin .leq (.t 20) (.t 21),(some
  (18,true))⟩,⟨0,some 23,.pick (.t 18) (.t 22) (.c (.bool false)),none⟩,⟨0,some 6,.mv (.t 23),none⟩]) .ret))⟩
theorem is59 : FnIs prog 59 x59.fn := ⟨fun vs w => call59 vs w,_,_,func59,rfl,rfl,by kernel_rfl,by kernel_rfl⟩
theorem ok59 : okX x59.body = true := by kernel_rfl
theorem st59 : sitesP x59 x59.body := (sitesP_of rfl)

def x60l0 : XCode :=
  (.loop [1,3,9,10,11,18,19,20] (.seq (.reg [] false [⟨0,some 21,.bin .lss (.t 20) (.t 19),none⟩]) (.seq (.cond (.t 21) .skip (.exit 2)) (.seq
  (.block 3 (.seq (.reg [] false [⟨0,some 22,.idx 1 (.t 18) (.t 20),none⟩,⟨0,some 23,.load false 1 (.t 22),none⟩,⟨0,some 7,.mv (.t 23),
  none⟩]) (.seq (.block 4 (.seq (.reg [] false [⟨0,some 25,.mv (.t 7),none⟩,⟨0,some 26,.fld 1 (.t 1),none⟩,⟨0,some 27,.load false 1 (.t
  26),none⟩,⟨0,some 28,.len false (.t 27),none⟩,⟨0,some 29,.bin .sub (.t 28) (.c (.int .i64 1)),none⟩,⟨0,some 30,(.callf false (.c (.fn
  (.func 58) [] [])) [.c (.int .i64 0),.t 25,.t 29] []),none⟩,⟨0,some 31,.not (.t 30),none⟩,⟨0,some 24,.mv (.t 31),none⟩]) (.cond (.t
  24) (.seq (.reg [] false [⟨0,some 2,.mv (.c (.int .i64 5)),none⟩]) .ret) (.seq (.reg [] false [⟨0,some 33,.mv (.t 3),none⟩,⟨0,some 34,
  (.mv (.t 7)),none⟩,⟨0,some 35,(.callf false (.c (.fn (.func 83) [] [])) [.t 33,.t 34] []),none⟩,⟨0,some 32,.mv (.t 35),none⟩]) (.cond
  (.t 32) (.seq (.reg [] false [⟨0,some 2,.mv (.c (.int .i64 6)),none⟩]) .ret) .skip))))) (.reg [] false [⟨0,some 36,.mv (.t 3),none⟩,⟨0,(some
  37),.mv (.t 7),none⟩,⟨0,some 38,.bin .shl (.c (.int .u64 1)) (.t 37),none⟩,⟨0,some 39,.bin .or (.t 36) (.t 38),none⟩,⟨0,some 3,(.mv
  (.t 39)),none⟩])))) (.reg [] false [⟨0,some 40,.bin .add (.t 20) (.c (.int .i64 1)),none⟩,⟨0,some 20,.mv (.t 40),none⟩])))))
def x60l1 : XCode :=
  (.loop [1,3,9,10,11] (.seq (.reg [] false [⟨0,some 12,.bin .lss (.t 11) (.t 10),none⟩]) (.seq (.cond (.t 12) .skip (.exit 0)) (.seq (.block 1 (.seq
  (.reg [] false [⟨0,some 13,.idx 1 (.t 9) (.t 11),none⟩,⟨0,some 14,.load false 1 (.t 13),none⟩,⟨0,some 5,.mv (.t 14),none⟩]) (.seq
  (.seq (.reg [] false [⟨0,some 15,.mv (.t 5),none⟩,⟨0,some 16,.len false (.t 15),none⟩,⟨0,some 17,.bin .eql (.t 16) (.c (.int .i64 0)),
  none⟩]) (.cond (.t 17) (.seq (.reg [] false [⟨0,some 2,.mv (.c (.int .i64 4)),none⟩]) .ret) .skip)) (.seq (.reg [] false [⟨0,some 18,.mv (.t
  5),none⟩,⟨0,some 19,.len false (.t 18),none⟩,⟨0,some 20,.mv (.c (.int .i64 0)),none⟩]) (.block 2 x60l0))))) (.reg [] false [⟨0,some 41,
  (.bin .add (.t 11) (.c (.int .i64 1))),none⟩,⟨0,some 11,.mv (.t 41),none⟩])))))
def x60 : XFn := ⟨48,[(2,none)],false,false,
  (.seq (.reg [] false [⟨0,some 1,.box (.t 0),none⟩,⟨0,some 2,.mv (.c (.int .i64 0)),none⟩]) (.seq (.reg [] false [⟨0,some 3,.mv (.c (.int
  .u64 0)),none⟩]) (.seq (.seq (.reg [] false [⟨0,some 8,.fld 2 (.t 1),none⟩,⟨0,some 9,.load false 1 (.t 8),none⟩,⟨0,some 10,(.len false
  (.t 9)),none⟩,⟨0,some 11,.mv (.c (.int .i64 0)),none⟩]) (.block 0 x60l1)) (.seq (.seq (.reg [] true [⟨0,some 42,.mv (.t 3),none⟩,⟨2,(some
  44),.fld 1 (.t 1),none⟩,⟨3,some 45,.load false 1 (.t 44),none⟩,⟨4,some 46,.len false (.t 45),none⟩,⟨1,some 43,(.callf false (.c
  (.fn (.func 93) [] [])) [.t 42] [3]),none⟩,⟨5,some 47,.bin .lss (.t 43) (.t 46),none⟩]) (.cond (.t 47) (.seq (.reg [] false [⟨0,some 2,(.mv
  (.c (.int .i64 3))),none⟩]) .ret) .skip)) (.seq (.reg [] false [⟨0,some 2,.mv (.c (.int .i64 0)),none⟩]) .ret)))))⟩
theorem is60 : FnIs prog 60 x60.fn := ⟨fun vs w => call60 vs w,_,_,func60,rfl,rfl,by kernel_rfl,by kernel_rfl⟩
theorem ok60 : okX x60.body = true := by kernel_rfl
theorem st60 : sitesP x60 x60.body := (sitesP_of rfl)

def x72 : XFn := ⟨46,[(4,none)],false,false,
  (.seq (.reg [] false [⟨0,some 2,.box (.t 0),none⟩,⟨0,some 3,.box (.t 1),none⟩,⟨0,some 4,.mv (.c (.int .i64 0)),none⟩]) (.seq (.seq
  (.reg [(3,true)] true [⟨0,some 9,.load false 1 (.t 3),none⟩,⟨2,some 11,.load false 1 (.t 2),none⟩,⟨3,some 12,.nilck (.t 11),none⟩,
  ⟨4,some 13,.fld 0 (.t 12),none⟩,⟨5,some 14,.fld 1 (.t 13),none⟩,⟨6,some 15,.load false 1 (.t 14),none⟩,⟨7,some 16,(.len false
  (.t 15)),none⟩,⟨1,some 10,(.callf false (.c (.fn (.func 93) [] [])) [.t 9] [2,6]),none⟩,⟨8,some 17,.bin .eql (.t 10) (.t 16),none⟩])
  (.cond (.t 17) (.seq (.reg [] false [⟨0,some 4,.mv (.c (.int .i64 0)),none⟩]) .ret) .skip)) (.seq (.seq (.reg [] true [⟨0,some 19,(.load false 1
  (.t 2)),none⟩,⟨1,some 20,.nilck (.t 19),none⟩,⟨2,some 21,.fld 15 (.t 20),none⟩,⟨3,some 22,.load false 1 (.t 21),none⟩,⟨4,(some
  23),.load false 1 (.t 3),none⟩,⟨5,some 24,.lookup false true (.int .i64 0) (.t 22) (.t 23),none⟩,⟨6,some 18,.mv (.t 24),none⟩,⟨7,(some
  25),.ext (.t 18) 0,none⟩,⟨8,some 26,.ext (.t 18) 1,none⟩,⟨9,some 5,.mv (.t 25),none⟩,⟨10,some 6,.mv (.t 26),none⟩]) (.seq (.reg
  [] false [⟨0,some 27,.mv (.t 6),none⟩]) (.cond (.t 27) (.seq (.reg [] false [⟨0,some 28,.mv (.t 5),none⟩,⟨0,some 4,.mv (.t 28),none⟩])
  .ret) .skip))) (.seq (.reg [] false [⟨0,some 7,(.alloc [.int .i64 0]),none⟩,⟨0,none,(.store 1 (.t 7) (.c (.int .i64 1000000)) []),none⟩]) (.seq
  (.seq (.reg [(2,true),(3,true)] false [⟨0,some 29,.load false 1 (.t 2),none⟩,⟨0,some 30,.load false 1 (.t 3),none⟩,⟨0,some 31,(.callf
  false (.c (.fn (.func 74) [] [])) [.t 29,.t 30] []),none⟩]) (.block 0 (.rng 0 [2,3,7] (.t 31) [32] (.reg [] false [⟨0,some 8,.mv (.t 32),
  none⟩]) (.block 1 (.reg [(2,true),(3,true),(8,false)] true [⟨0,some 33,.load false 1 (.t 7),none⟩,⟨1,some 34,.load false 1 (.t 2),none⟩,
  ⟨2,some 35,.load false 1 (.t 3),none⟩,⟨3,some 36,.mv (.t 8),none⟩,⟨4,some 37,(.callf false (.c (.fn (.func 75) [] [])) [.t 34,(.t
  35),.t 36] [0]),none⟩,⟨5,some 38,.mm false (.t 33) (.t 37),none⟩,⟨6,none,(.store 1 (.t 7) (.t 38) []),none⟩]))))) (.seq (.reg [] true [⟨0,
  (some 39),.load false 1 (.t 2),none⟩,⟨1,some 40,.nilck (.t 39),none⟩,⟨2,some 41,.fld 15 (.t 40),none⟩,⟨3,some 42,.load false 1 (.t
  41),none⟩,⟨4,some 43,.load false 1 (.t 3),none⟩,⟨5,some 44,.load false 1 (.t 7),none⟩,⟨6,none,.mapup false (.t 42) (.t 43) (.t 44),
  none⟩]) (.seq (.reg [] false [⟨0,some 45,.load false 1 (.t 7),none⟩,⟨0,some 4,.mv (.t 45),none⟩]) .ret)))))))⟩
theorem is72 : FnIs prog 72 x72.fn := ⟨fun vs w => call72 vs w,_,_,func72,rfl,rfl,by kernel_rfl,by kernel_rfl⟩
theorem ok72 : okX x72.body = true := by kernel_rfl
theorem st72 : sitesP x72 x72.body := ⟨sitesP_of rfl,⟨sitesP_of rfl,⟨sitesP_of rfl,⟨sitesP_of rfl,⟨⟨sitesP_of rfl,⟨by kernel_rfl,sitesP_of rfl,sitesP_of rfl⟩⟩,sitesP_of rfl⟩⟩⟩⟩⟩

def x73 : XFn := ⟨26,[],false,false,
  (.seq (.reg [(0,true),(1,true)] false [⟨0,some 6,.load false 1 (.t 0),none⟩,⟨0,some 7,.load false 1 (.t 1),none⟩,⟨0,some 8,(.callf
  false (.c (.fn (.func 74) [] [])) [.t 6,.t 7] []),none⟩]) (.block 0 (.rng 0 [0,1,2,3,4] (.t 8) [9] (.reg [] false [⟨0,some 5,.mv (.t 9),
  none⟩]) (.block 1 (.seq (.reg [(0,true),(1,true)] true [⟨0,some 10,.load false 1 (.t 0),none⟩,⟨1,some 11,.load false 1 (.t 1),none⟩,⟨2,
  (some 12),.mv (.t 5),none⟩,⟨4,some 14,.load false 1 (.t 2),none⟩,⟨3,some 13,(.callf false (.c (.fn (.func 75) [] [])) [.t 10,.t 11,
  (.t 12)] [4]),none⟩,⟨5,some 15,.bin .leq (.t 13) (.t 14),none⟩]) (.cond (.t 15) (.seq (.reg [] false [⟨0,some 16,.load false 1 (.t 3),none⟩,
  ⟨0,some 17,.mv (.t 5),none⟩,⟨0,some 18,(.bslice 1 1 [.int .i64 0] [(0,(1,(.t 17)))]),none⟩,⟨0,some 19,.app 1 8 (.t 16) (.t 18),
  none⟩,⟨0,none,(.store 1 (.t 3) (.t 19) []),none⟩]) (.seq (.reg [] true [⟨0,some 20,.load false 1 (.t 1),none⟩,⟨1,some 21,.mv (.t 5),
  none⟩,⟨2,some 22,.bin .shl (.c (.int .u64 1)) (.t 21),none⟩,⟨3,some 23,.bin .or (.t 20) (.t 22),none⟩,⟨4,none,(.store 1 (.t 1) (.t 23)
  []),none⟩]) (.seq (.reg [] false [⟨0,some 24,.load false 1 (.t 4),none⟩,⟨0,some 25,(.callf false (.t 24) [] []),none⟩]) .ret))) .skip))))))⟩
theorem is73 : FnIs prog 73 x73.fn := ⟨fun vs w => call73 vs w,_,_,func73,rfl,rfl,by kernel_rfl,by kernel_rfl⟩
theorem ok73 : okX x73.body = true := by kernel_rfl
theorem st73 : sitesP x73 x73.body := ⟨sitesP_of rfl,⟨by kernel_rfl,sitesP_of rfl,sitesP_of rfl⟩⟩

def x74 : XFn := ⟨6,[(4,none)],false,false,
  (.seq (.reg [] false [⟨0,some 2,.box (.t 0),none⟩,⟨0,some 3,.box (.t 1),none⟩,⟨0,some 4,.mv (.c .nilfn),none⟩]) (.seq (.reg [] false
  [⟨0,some 5,(.mkf (.func 105) [] [.t 2,.t 3]),none⟩,⟨0,some 4,.mv (.t 5),none⟩]) .ret))⟩
theorem is74 : FnIs prog 74 x74.fn := ⟨fun vs w => call74 vs w,_,_,func74,rfl,rfl,by kernel_rfl,by kernel_rfl⟩
theorem ok74 : okX x74.body = true := by kernel_rfl
theorem st74 : sitesP x74 x74.body := (sitesP_of rfl)

def x75 : XFn := ⟨20,[(6,none)],false,false,
  (.seq (.reg [] false [⟨0,some 6,.mv (.c (.int .i64 0)),none⟩]) (.seq (.reg [] false [⟨0,some 8,.mv (.t 1),none⟩,⟨0,some 9,.mv (.t 2),
  none⟩,⟨0,some 10,.bin .shl (.c (.int .u64 1)) (.t 9),none⟩,⟨0,some 11,.bin .or (.t 8) (.t 10),none⟩,⟨0,some 7,.mv (.t 11),none⟩])
  (.seq (.reg [(0,false)] false [⟨0,some 12,.mv (.t 0),none⟩,⟨0,some 13,.mv (.t 7),none⟩,⟨0,some 14,.mv (.t 2),none⟩,⟨0,some 15,
  (.callf false (.c (.fn (.func 86) [] [])) [.t 12,.t 13,.t 14] []),none⟩,⟨0,some 16,.mv (.t 0),none⟩,⟨0,some 17,.mv (.t 7),none⟩,
  ⟨0,some 18,(.callf false (.c (.fn (.func 72) [] [])) [.t 16,.t 17] []),none⟩,⟨0,some 19,.mm true (.t 15) (.t 18),none⟩,⟨0,some 6,(.mv
  (.t 19)),none⟩]) .ret)))⟩
theorem is75 : FnIs prog 75 x75.fn := ⟨fun vs w => call75 vs w,_,_,func75,rfl,rfl,by kernel_rfl,by kernel_rfl⟩
theorem ok75 : okX x75.body = true := by kernel_rfl
theorem st75 : sitesP x75 x75.body := (sitesP_of rfl)

def x80 : XFn := ⟨29,[(4,none)],false,false,
  (.seq (.reg [] false [⟨0,some 2,.box (.t 0),none⟩,⟨0,some 3,.box (.t 1),none⟩,⟨0,some 4,.mv (.c (.int .i64 0)),none⟩]) (.scope (.seq
  (.reg [] false [⟨0,some 5,(.alloc [.int .i64 0]),none⟩,⟨0,none,(.store 1 (.t 5) (.c (.int .i64 1000000)) []),none⟩]) (.seq .skip (.seq (.seq
  (.reg [(3,true)] false [⟨0,some 8,.load false 1 (.t 3),none⟩,⟨0,some 9,(.callf false (.c (.fn (.func 81) [] [])) [.t 8] []),none⟩]) (.block
  0 (.rng 0 [2,3,5] (.t 9) [10] (.reg [] false [⟨0,some 6,(.alloc [.int .i64 0]),none⟩,⟨0,none,(.store 1 (.t 6) (.t 10) []),none⟩]) (.block 1
  (.seq (.seq (.reg [(3,true)] false [⟨0,some 11,.load false 1 (.t 3),none⟩,⟨0,some 12,(.callf false (.c (.fn (.func 81) [] [])) [.t 11] []),
  none⟩]) (.block 2 (.rng 1 [2,6] (.t 12) [13] (.reg [] false [⟨0,some 7,.mv (.t 13),none⟩]) (.block 3 (.seq (.reg [(6,true)] true [⟨0,some 14,
  (.load false 1 (.t 2)),none⟩,⟨1,some 15,.mv (.t 7),none⟩,⟨2,some 16,.nilck (.t 14),none⟩,⟨3,some 17,.fld 5 (.t 16),none⟩,⟨4,(some
  18),.idxa 10 1 (.t 17) (.t 15),none⟩,⟨5,some 19,.load false 1 (.t 18),none⟩,⟨6,some 20,.load false 1 (.t 6),none⟩,⟨7,some 21,
  (.callf false (.c (.fn (.func 83) [] [])) [.t 19,.t 20] []),none⟩]) (.cond (.t 21) (.exit 1) .skip)))))) (.reg [(2,true),(3,true),(6,true)] true
  [⟨0,some 22,.load false 1 (.t 5),none⟩,⟨1,some 23,.load false 1 (.t 2),none⟩,⟨2,some 24,.load false 1 (.t 3),none⟩,⟨3,some 25,
  (.load false 1 (.t 6)),none⟩,⟨4,some 26,(.callf false (.c (.fn (.func 86) [] [])) [.t 23,.t 24,.t 25] [0]),none⟩,⟨5,some 27,(.mm false
  (.t 22) (.t 26)),none⟩,⟨6,none,(.store 1 (.t 5) (.t 27) []),none⟩])))))) (.seq (.reg [] false [⟨0,some 28,.load false 1 (.t 5),none⟩,⟨0,(some
  4),.mv (.t 28),none⟩]) .ret))))))⟩
theorem is80 : FnIs prog 80 x80.fn := ⟨fun vs w => call80 vs w,_,_,func80,rfl,rfl,by kernel_rfl,by kernel_rfl⟩
theorem ok80 : okX x80.body = true := by kernel_rfl
theorem st80 : sitesP x80 x80.body := ⟨sitesP_of rfl,⟨sitesP_of rfl,⟨sitesP_of rfl,⟨⟨sitesP_of rfl,⟨by kernel_rfl,sitesP_of rfl,⟨⟨sitesP_of rfl,⟨by kernel_rfl,sitesP_of rfl,sitesP_of rfl⟩⟩,sitesP_of rfl⟩⟩⟩,sitesP_of rfl⟩⟩⟩⟩

def x81 : XFn := ⟨4,[(2,none)],false,false,
  (.seq (.reg [] false [⟨0,some 1,.box (.t 0),none⟩,⟨0,some 2,.mv (.c .nilfn),none⟩]) (.seq (.reg [] false [⟨0,some 3,(.mkf (.func 106) []
  [.t 1]),none⟩,⟨0,some 2,.mv (.t 3),none⟩]) .ret))⟩
theorem is81 : FnIs prog 81 x81.fn := ⟨fun vs w => call81 vs w,_,_,func81,rfl,rfl,by kernel_rfl,by kernel_rfl⟩
theorem ok81 : okX x81.body = true := by kernel_rfl
theorem st81 : sitesP x81 x81.body := (sitesP_of rfl)

def x82 : XFn := ⟨13,[(4,none)],false,false,
  (.seq (.reg [] false [⟨0,some 4,.mv (.c (.bool false)),none⟩]) (.seq (.reg [(2,true)] true [⟨0,some 5,.load false 1 (.t 1),none⟩,⟨1,some 6,
  (.mv (.t 0)),none⟩,⟨2,some 7,.nilck (.t 5),none⟩,⟨3,some 8,.fld 5 (.t 7),none⟩,⟨4,some 9,.idxa 10 1 (.t 8) (.t 6),none⟩,⟨5,(some
  10),.load false 1 (.t 9),none⟩,⟨6,some 11,.load false 1 (.t 2),none⟩,⟨7,some 12,(.callf false (.c (.fn (.func 83) [] [])) [.t 10,(.t
  11)] []),none⟩,⟨8,some 4,.mv (.t 12),none⟩]) .ret))⟩
theorem is82 : FnIs prog 82 x82.fn := ⟨fun vs w => call82 vs w,_,_,func82,rfl,rfl,by kernel_rfl,by kernel_rfl⟩
theorem ok82 : okX x82.body = true := by kernel_rfl
theorem st82 : sitesP x82 x82.body := (sitesP_of rfl)

def x83 : XFn := ⟨10,[(4,none)],false,false,
  (.seq (.reg [] false [⟨0,some 4,.mv (.c (.bool false)),none⟩]) (.seq (.reg [] false [⟨0,some 5,.mv (.t 0),none⟩,⟨0,some 6,.mv (.t 1),
  none⟩,⟨0,some 7,.bin .shr (.t 5) (.t 6),none⟩,⟨0,some 8,.bin .and (.t 7) (.c (.int .u64 1)),none⟩,⟨0,some 9,.bin .eql (.t 8) (.c (.int
  .u64 1)),none⟩,⟨0,some 4,.mv (.t 9),none⟩]) .ret))⟩
theorem is83 : FnIs prog 83 x83.fn := ⟨fun vs w => call83 vs w,_,_,func83,rfl,rfl,by kernel_rfl,by kernel_rfl⟩
theorem ok83 : okX x83.body = true := by kernel_rfl
theorem st83 : sitesP x83 x83.body := (sitesP_of rfl)

def x84 : XFn := ⟨9,[(4,none)],false,false,
  (.seq (.reg [] false [⟨0,some 4,.mv (.c (.bool false)),none⟩]) (.seq (.reg [(0,false),(1,false)] false [⟨0,some 5,.mv (.t 0),none⟩,⟨0,(some
  6),.mv (.t 1),none⟩,⟨0,some 7,(.callf false (.c (.fn (.func 108) [] [])) [.t 5,.t 6] []),none⟩,⟨0,some 8,.bin .geq (.t 7) (.c (.int
  .i64 0)),none⟩,⟨0,some 4,.mv (.t 8),none⟩]) .ret))⟩
theorem is84 : FnIs prog 84 x84.fn := ⟨fun vs w => call84 vs w,_,_,func84,rfl,rfl,by kernel_rfl,by kernel_rfl⟩
theorem ok84 : okX x84.body = true := by kernel_rfl
theorem st84 : sitesP x84 x84.body := (sitesP_of rfl)

def x85 : XFn := ⟨5,[(2,none)],false,false,
  (.seq (.reg [] false [⟨0,some 2,.mv (.c .nilsl),none⟩]) (.seq (.reg [] false [⟨0,some 3,.mv (.t 0),none⟩,⟨0,some 4,(.callf false (.c (.fn
  (.func 109) [] [])) [.c .nilsl,.t 3] []),none⟩,⟨0,some 2,.mv (.t 4),none⟩]) .ret))⟩
theorem is85 : FnIs prog 85 x85.fn := ⟨fun vs w => call85 vs w,_,_,func85,rfl,rfl,by kernel_rfl,by kernel_rfl⟩
theorem ok85 : okX x85.body = true := by kernel_rfl
theorem st85 : sitesP x85 x85.body := (sitesP_of rfl)

def x86 : XFn := ⟨38,[(6,none)],false,false,
  (.seq (.reg [] false [⟨0,some 6,.mv (.c (.int .i64 0)),none⟩]) (.seq (.reg [(0,false),(1,false)] true [⟨0,some 7,.mv (.t 0),none⟩,⟨1,(some
  8),.nilck (.t 7),none⟩,⟨2,some 9,.fld 0 (.t 8),none⟩,⟨3,some 10,.fld 0 (.t 9),none⟩,⟨4,some 11,.load false 1 (.t 10),none⟩,⟨5,
  (some 12),.mv (.t 0),none⟩,⟨6,some 13,.nilck (.t 12),none⟩,⟨7,some 14,.fld 0 (.t 13),none⟩,⟨8,some 15,.fld 1 (.t 14),none⟩,⟨9,
  (some 16),.load false 1 (.t 15),none⟩,⟨10,some 17,.mv (.t 2),none⟩,⟨11,some 18,.idx 5 (.t 16) (.t 17),none⟩,⟨12,some 19,.fld 0 (.t
  18),none⟩,⟨13,some 20,.load false 1 (.t 19),none⟩,⟨14,some 21,.idx 1 (.t 11) (.t 20),none⟩,⟨15,some 22,.load false 1 (.t 21),
  none⟩,⟨16,some 23,.mv (.t 0),none⟩,⟨17,some 24,.nilck (.t 23),none⟩,⟨18,some 25,.fld 0 (.t 24),none⟩,⟨19,some 26,.fld 1 (.t
  25),none⟩,⟨20,some 27,.load false 1 (.t 26),none⟩,⟨21,some 28,.mv (.t 2),none⟩,⟨22,some 29,.idx 5 (.t 27) (.t 28),none⟩,⟨23,
  (some 30),.fld 1 (.t 29),none⟩,⟨24,some 31,.fld 1 (.t 30),none⟩,⟨25,some 32,.load false 1 (.t 31),none⟩,⟨26,some 33,.mv (.t 0),
  none⟩,⟨27,some 34,.mv (.t 1),none⟩,⟨28,some 35,(.callf false (.c (.fn (.func 110) [] [])) [.t 33,.t 34] [4,9,13,15,20,25]),none⟩,
  ⟨29,some 36,.bin .add (.t 32) (.t 35),none⟩,⟨30,some 37,(.callf false (.c (.fn (.func 54) [] [])) [.t 22,.t 36] []),none⟩,⟨31,some 6,
  (.mv (.t 37)),none⟩]) .ret))⟩
theorem is86 : FnIs prog 86 x86.fn := ⟨fun vs w => call86 vs w,_,_,func86,rfl,rfl,by kernel_rfl,by kernel_rfl⟩
theorem ok86 : okX x86.body = true := by kernel_rfl
theorem st86 : sitesP x86 x86.body := (sitesP_of rfl)

def x88 : XFn := ⟨9,[(4,none)],false,false,
  (.seq (.reg [] false [⟨0,some 4,.mv (.c (.bool false)),none⟩]) (.seq (.reg [(0,false),(1,false)] false [⟨0,some 5,.mv (.t 0),none⟩,⟨0,(some
  6),.mv (.t 1),none⟩,⟨0,some 7,(.callf false (.c (.fn (.func 111) [] [])) [.t 5,.t 6] []),none⟩,⟨0,some 8,.bin .geq (.t 7) (.c (.int
  .i64 0)),none⟩,⟨0,some 4,.mv (.t 8),none⟩]) .ret))⟩
theorem is88 : FnIs prog 88 x88.fn := ⟨fun vs w => call88 vs w,_,_,func88,rfl,rfl,by kernel_rfl,by kernel_rfl⟩
theorem ok88 : okX x88.body = true := by kernel_rfl
theorem st88 : sitesP x88 x88.body := (sitesP_of rfl)

def x89 : XFn := ⟨8,[(3,none)],false,false,
  (.seq (.reg [] false [⟨0,some 2,.box (.t 0),none⟩,⟨0,some 3,.mv (.c (.bool false)),none⟩]) (.seq (.reg [] false [⟨0,some 4,.fld 1 (.t 2),
  none⟩,⟨0,some 5,.load false 1 (.t 4),none⟩,⟨0,some 6,.load false 1 (.t 1),none⟩,⟨0,some 7,.bin .gtr (.t 5) (.t 6),none⟩,⟨0,(some
  3),.mv (.t 7),none⟩]) .ret))⟩
theorem is89 : FnIs prog 89 x89.fn := ⟨fun vs w => call89 vs w,_,_,func89,rfl,rfl,by kernel_rfl,by kernel_rfl⟩
theorem ok89 : okX x89.body = true := by kernel_rfl
theorem st89 : sitesP x89 x89.body := (sitesP_of rfl)

def x90l0 : XCode :=
  (.loop [0,1,7,8] (.seq (.reg [] false [⟨0,some 9,.bin .lss (.t 8) (.t 7),none⟩]) (.seq (.cond (.t 9) .skip (.exit 0)) (.seq (.block 1 (.seq (.reg []
  false [⟨0,some 10,.mv (.t 8),none⟩,⟨0,some 5,.mv (.t 10),none⟩]) (.seq (.reg [] false [⟨0,some 11,.mv (.t 1),none⟩,⟨0,some 12,
  (.mv (.t 0)),none⟩,⟨0,some 13,.mv (.t 5),none⟩,⟨0,some 14,.idx 2 (.t 12) (.t 13),none⟩,⟨0,some 15,.load true 2 (.t 14),none⟩,⟨0,
  (some 16),(.callf false (.t 11) [.t 15] []),none⟩]) (.cond (.t 16) (.seq (.reg [] false [⟨0,some 17,.mv (.t 5),none⟩,⟨0,some 4,.mv (.t
  17),none⟩]) .ret) .skip)))) (.reg [] false [⟨0,some 18,.bin .add (.t 8) (.c (.int .i64 1)),none⟩,⟨0,some 8,.mv (.t 18),none⟩])))))
def x90 : XFn := ⟨19,[(4,none)],false,false,
  (.seq (.reg [] false [⟨0,some 4,.mv (.c (.int .i64 0)),none⟩]) (.seq (.seq (.reg [] false [⟨0,some 6,.mv (.t 0),none⟩,⟨0,some 7,(.len false
  (.t 6)),none⟩,⟨0,some 8,.mv (.c (.int .i64 0)),none⟩]) (.block 0 x90l0)) (.seq (.reg [] false [⟨0,some 4,.mv (.c (.int .i64 (-1))),none⟩])
  .ret)))⟩
theorem is90 : FnIs prog 90 x90.fn := ⟨fun vs w => call90 vs w,_,_,func90,rfl,rfl,by kernel_rfl,by kernel_rfl⟩
theorem ok90 : okX x90.body = true := by kernel_rfl
theorem st90 : sitesP x90 x90.body := (sitesP_of rfl)

def x91 : XFn := ⟨8,[(3,none)],false,false,
  (.seq (.reg [] false [⟨0,some 2,.box (.t 0),none⟩,⟨0,some 3,.mv (.c (.bool false)),none⟩]) (.seq (.reg [] false [⟨0,some 4,.fld 1 (.t 2),
  none⟩,⟨0,some 5,.load false 1 (.t 4),none⟩,⟨0,some 6,.load false 1 (.t 1),none⟩,⟨0,some 7,.bin .gtr (.t 5) (.t 6),none⟩,⟨0,(some
  3),.mv (.t 7),none⟩]) .ret))⟩
theorem is91 : FnIs prog 91 x91.fn := ⟨fun vs w => call91 vs w,_,_,func91,rfl,rfl,by kernel_rfl,by kernel_rfl⟩
theorem ok91 : okX x91.body = true := by kernel_rfl
theorem st91 : sitesP x91 x91.body := (sitesP_of rfl)

def x92l0 : XCode :=
  (.loop [1,2,9,13,14,15,19,20,21] (.seq (.reg [] false [⟨0,some 22,.bin .lss (.t 21) (.t 20),none⟩]) (.seq (.cond (.t 22) .skip (.exit 2)) (.seq
  (.block 3 (.seq (.reg [] false [⟨0,some 23,.idx 1 (.t 19) (.t 21),none⟩,⟨0,some 24,.load false 1 (.t 23),none⟩,⟨0,some 11,.mv (.t 24),
  none⟩]) (.seq (.seq (.reg [] false [⟨0,some 25,.mv (.t 11),none⟩,⟨0,some 26,.mv (.t 1),none⟩,⟨0,some 27,.bin .eql (.t 25) (.t 26),
  none⟩,⟨0,some 28,.mv (.t 27),none⟩,⟨0,some 29,.mv (.t 9),some (28,true)⟩,⟨0,some 30,.pick (.t 28) (.t 29) (.c (.bool false)),
  none⟩]) (.cond (.t 30) (.seq (.reg [] false [⟨0,some 6,.mv (.c (.bool true)),none⟩]) .ret) .skip)) (.reg [] false [⟨0,some 31,.mv (.t 9),
  none⟩,⟨0,some 32,.mv (.t 31),none⟩,⟨0,some 33,.mv (.t 11),some (32,false)⟩,⟨0,some 34,.mv (.t 2),some (32,false)⟩,⟨0,(some
  35),.bin .eql (.t 33) (.t 34),some (32,false)⟩,⟨0,some 36,.pick (.t 32) (.c (.bool true)) (.t 35),none⟩,⟨0,some 9,.mv (.t 36),
  none⟩])))) (.reg [] false [⟨0,some 37,.bin .add (.t 21) (.c (.int .i64 1)),none⟩,⟨0,some 21,.mv (.t 37),none⟩])))))
def x92l1 : XCode :=
  (.loop [1,2,13,14,15] (.seq (.reg [] false [⟨0,some 16,.bin .lss (.t 15) (.t 14),none⟩]) (.seq (.cond (.t 16) .skip (.exit 0)) (.seq (.block 1
  (.seq (.reg [] false [⟨0,some 17,.idx 1 (.t 13) (.t 15),none⟩,⟨0,some 18,.load false 1 (.t 17),none⟩,⟨0,some 8,.mv (.t 18),none⟩])
  (.seq (.reg [] false [⟨0,some 9,.mv (.c (.bool false)),none⟩]) (.seq (.reg [] false [⟨0,some 19,.mv (.t 8),none⟩,⟨0,some 20,(.len false
  (.t 19)),none⟩,⟨0,some 21,.mv (.c (.int .i64 0)),none⟩]) (.block 2 x92l0))))) (.reg [] false [⟨0,some 38,.bin .add (.t 15) (.c (.int .i64
  1)),none⟩,⟨0,some 15,.mv (.t 38),none⟩])))))
def x92 : XFn := ⟨39,[(6,none)],false,false,
  (.seq (.reg [] false [⟨0,some 3,.box (.t 0),none⟩,⟨0,some 6,.mv (.c (.bool false)),none⟩]) (.seq (.seq (.reg [] false [⟨0,some 12,(.fld 2
  (.t 3)),none⟩,⟨0,some 13,.load false 1 (.t 12),none⟩,⟨0,some 14,.len false (.t 13),none⟩,⟨0,some 15,.mv (.c (.int .i64 0)),none⟩])
  (.block 0 x92l1)) (.seq (.reg [] false [⟨0,some 6,.mv (.c (.bool false)),none⟩]) .ret)))⟩
theorem is92 : FnIs prog 92 x92.fn := ⟨fun vs w => call92 vs w,_,_,func92,rfl,rfl,by kernel_rfl,by kernel_rfl⟩
theorem ok92 : okX x92.body = true := by kernel_rfl
theorem st92 : sitesP x92 x92.body := (sitesP_of rfl)

def x93 : XFn := ⟨5,[(2,none)],false,false,
  (.seq (.reg [] false [⟨0,some 2,.mv (.c (.int .i64 0)),none⟩]) (.seq (.reg [(0,false)] false [⟨0,some 3,.mv (.t 0),none⟩,⟨0,some 4,(.callf
  false (.c (.fn (.func 112) [] [])) [.t 3] []),none⟩,⟨0,some 2,.mv (.t 4),none⟩]) .ret))⟩
theorem is93 : FnIs prog 93 x93.fn := ⟨fun vs w => call93 vs w,_,_,func93,rfl,rfl,by kernel_rfl,by kernel_rfl⟩
theorem ok93 : okX x93.body = true := by kernel_rfl
theorem st93 : sitesP x93 x93.body := (sitesP_of rfl)

def x105l0 : XCode :=
  (.loop [0,1,2,10,11] (.seq (.reg [] false [⟨0,some 12,.bin .lss (.t 11) (.t 10),none⟩]) (.seq (.cond (.t 12) .skip (.exit 0)) (.seq (.block 1 (.seq
  (.reg [] false [⟨0,some 13,.mv (.t 11),none⟩,⟨0,some 4,.mv (.t 13),none⟩]) (.seq (.reg [(2,true)] true [⟨0,some 14,.load false 1 (.t
  2),none⟩,⟨1,some 15,.mv (.t 4),none⟩,⟨2,some 16,(.callf false (.c (.fn (.func 83) [] [])) [.t 14,.t 15] []),none⟩,⟨3,some 17,(.not
  (.t 16)),none⟩,⟨4,some 18,.mv (.t 17),none⟩,⟨5,some 19,.load false 1 (.t 1),some (18,true)⟩,⟨6,some 20,.mv (.t 4),some (18,
  true)⟩,⟨7,some 21,.nilck (.t 19),some (18,true)⟩,⟨8,some 22,.fld 5 (.t 21),some (18,true)⟩,⟨9,some 23,.idxa 10 1 (.t 22) (.t
  20),some (18,true)⟩,⟨10,some 24,.load false 1 (.t 23),some (18,true)⟩,⟨11,some 25,.load false 1 (.t 2),some (18,true)⟩,⟨12,
  (some 26),.bin .andNot (.t 24) (.t 25),some (18,true)⟩,⟨13,some 27,.bin .eql (.t 26) (.c (.int .u64 0)),some (18,true)⟩,⟨14,some 28,
  (.pick (.t 18) (.t 27) (.c (.bool false))),none⟩,⟨15,some 29,.mv (.t 28),none⟩,⟨16,some 30,.mv (.t 0),some (29,true)⟩,⟨17,some 31,
  (.mv (.t 4)),some (29,true)⟩,⟨18,some 32,(.callf false (.t 30) [.t 31] []),some (29,true)⟩,⟨19,some 33,.not (.t 32),some (29,
  true)⟩,⟨20,some 34,.pick (.t 29) (.t 33) (.c (.bool false)),none⟩]) (.cond (.t 34) .ret .skip)))) (.reg [] false [⟨0,some 35,(.bin .add (.t 11)
  (.c (.int .i64 1))),none⟩,⟨0,some 11,.mv (.t 35),none⟩])))))
def x105 : XFn := ⟨36,[],false,false,
  (.seq (.reg [] false [⟨0,some 5,.load false 1 (.t 1),none⟩,⟨0,some 6,.nilck (.t 5),none⟩,⟨0,some 7,.fld 0 (.t 6),none⟩,⟨0,some 8,
  (.fld 1 (.t 7)),none⟩,⟨0,some 9,.load false 1 (.t 8),none⟩,⟨0,some 10,.len false (.t 9),none⟩,⟨0,some 11,.mv (.c (.int .i64 0)),
  none⟩]) (.block 0 x105l0))⟩
theorem is105 : FnIs prog 105 x105.fn := ⟨fun vs w => call105 vs w,_,_,func105,rfl,rfl,by kernel_rfl,by kernel_rfl⟩
theorem ok105 : okX x105.body = true := by kernel_rfl
theorem st105 : sitesP x105 x105.body := (sitesP_of rfl)

def x106l0 : XCode :=
  (.loop [0,1] (.seq (.seq (.reg [] false [⟨0,some 3,.load false 1 (.t 1),none⟩,⟨0,some 4,.bin .neq (.t 3) (.c (.int .u64 0)),none⟩]) (.cond (.t
  4) .skip (.exit 0))) (.seq (.block 1 (.seq (.reg [(1,true)] false [⟨0,some 9,.mv (.t 0),none⟩,⟨0,some 10,.load false 1 (.t 1),none⟩,⟨0,
  (some 11),(.callf false (.c (.fn (.func 107) [] [])) [.t 10] []),none⟩,⟨0,some 12,(.callf false (.t 9) [.t 11] []),none⟩,⟨0,some 13,(.not
  (.t 12)),none⟩]) (.cond (.t 13) .ret .skip))) (.reg [] false [⟨0,some 5,.load false 1 (.t 1),none⟩,⟨0,some 6,.load false 1 (.t 1),none⟩,⟨0,
  (some 7),.bin .sub (.t 6) (.c (.int .u64 1)),none⟩,⟨0,some 8,.bin .and (.t 5) (.t 7),none⟩,⟨0,none,(.store 1 (.t 1) (.t 8) []),none⟩]))))
def x106 : XFn := ⟨14,[],false,false,
  (.block 0 x106l0)⟩
theorem is106 : FnIs prog 106 x106.fn := ⟨fun vs w => call106 vs w,_,_,func106,rfl,rfl,by kernel_rfl,by kernel_rfl⟩
theorem ok106 : okX x106.body = true := by kernel_rfl
theorem st106 : sitesP x106 x106.body := (sitesP_of rfl)

def x107 : XFn := ⟨8,[(2,none)],false,false,
  (.seq (.reg [] false [⟨0,some 2,.mv (.c (.int .i64 0)),none⟩]) (.seq (.cond (.c (.bool false)) (.seq (.reg [] false [⟨0,some 3,.mv (.t 0),none⟩,
  ⟨0,some 4,.conv .u32 (.t 3),none⟩,⟨0,some 5,(.callf false (.c (.fn (.func 116) [] [])) [.t 4] []),none⟩,⟨0,some 2,.mv (.t 5),none⟩])
  .ret) .skip) (.seq (.reg [] false [⟨0,some 6,.mv (.t 0),none⟩,⟨0,some 7,(.callf false (.c (.fn (.func 117) [] [])) [.t 6] []),none⟩,⟨0,
  (some 2),.mv (.t 7),none⟩]) .ret)))⟩
theorem is107 : FnIs prog 107 x107.fn := ⟨fun vs w => call107 vs w,_,_,func107,rfl,rfl,by kernel_rfl,by kernel_rfl⟩
theorem ok107 : okX x107.body = true := by kernel_rfl
theorem st107 : sitesP x107 x107.body := (sitesP_of rfl)

def x108l0 : XCode :=
  (.loop [0,1,7,8] (.seq (.reg [] false [⟨0,some 9,.bin .lss (.t 8) (.t 7),none⟩]) (.seq (.cond (.t 9) .skip (.exit 0)) (.seq (.block 1 (.seq (.reg []
  false [⟨0,some 10,.mv (.t 8),none⟩,⟨0,some 5,.mv (.t 10),none⟩]) (.seq (.reg [] false [⟨0,some 11,.mv (.t 1),none⟩,⟨0,some 12,
  (.mv (.t 0)),none⟩,⟨0,some 13,.mv (.t 5),none⟩,⟨0,some 14,.idx 1 (.t 12) (.t 13),none⟩,⟨0,some 15,.load false 1 (.t 14),none⟩,⟨0,
  (some 16),(.callf false (.t 11) [.t 15] []),none⟩]) (.cond (.t 16) (.seq (.reg [] false [⟨0,some 17,.mv (.t 5),none⟩,⟨0,some 4,.mv (.t
  17),none⟩]) .ret) .skip)))) (.reg [] false [⟨0,some 18,.bin .add (.t 8) (.c (.int .i64 1)),none⟩,⟨0,some 8,.mv (.t 18),none⟩])))))
def x108 : XFn := ⟨19,[(4,none)],false,false,
  (.seq (.reg [] false [⟨0,some 4,.mv (.c (.int .i64 0)),none⟩]) (.seq (.seq (.reg [] false [⟨0,some 6,.mv (.t 0),none⟩,⟨0,some 7,(.len false
  (.t 6)),none⟩,⟨0,some 8,.mv (.c (.int .i64 0)),none⟩]) (.block 0 x108l0)) (.seq (.reg [] false [⟨0,some 4,.mv (.c (.int .i64 (-1))),none⟩])
  .ret)))⟩
theorem is108 : FnIs prog 108 x108.fn := ⟨fun vs w => call108 vs w,_,_,func108,rfl,rfl,by kernel_rfl,by kernel_rfl⟩
theorem ok108 : okX x108.body = true := by kernel_rfl
theorem st108 : sitesP x108 x108.body := (sitesP_of rfl)

def x109 : XFn := ⟨13,[(4,none)],true,false,
  (.seq (.reg [] false [⟨0,some 2,.box (.t 0),none⟩,⟨0,some 4,.mv (.c .nilsl),none⟩]) (.seq (.seq (.reg [] false [⟨0,some 6,.mv (.t 1),
  none⟩]) (.block 0 (.rng 0 [2] (.t 6) [7] (.reg [] false [⟨0,some 5,.mv (.t 7),none⟩]) (.block 1 (.reg [(5,false)] false [⟨0,some 8,(.load false
  1 (.t 2)),none⟩,⟨0,some 9,.mv (.t 5),none⟩,⟨0,some 10,(.bslice 1 1 [.int .i64 0] [(0,(1,(.t 9)))]),none⟩,⟨0,some 11,(.app 1 8 (.t 8)
  (.t 10)),none⟩,⟨0,none,(.store 1 (.t 2) (.t 11) []),none⟩]))))) (.seq (.reg [] false [⟨0,some 12,.load false 1 (.t 2),none⟩,⟨0,some 4,(.mv
  (.t 12)),none⟩]) .ret)))⟩
theorem is109 : FnIs prog 109 x109.fn := ⟨fun vs w => call109 vs w,_,_,func109,rfl,rfl,by kernel_rfl,by kernel_rfl⟩
theorem ok109 : okX x109.body = true := by kernel_rfl
theorem st109 : sitesP x109 x109.body := ⟨sitesP_of rfl,⟨⟨sitesP_of rfl,⟨by kernel_rfl,sitesP_of rfl,sitesP_of rfl⟩⟩,sitesP_of rfl⟩⟩

def x110 : XFn := ⟨29,[(4,none)],false,false,
  (.seq (.reg [] false [⟨0,some 2,.box (.t 0),none⟩,⟨0,some 4,.mv (.c (.int .i64 0)),none⟩]) (.seq (.reg [] false [⟨0,some 7,(.load false 1
  (.t 2)),none⟩,⟨0,some 8,.nilck (.t 7),none⟩,⟨0,some 9,.fld 0 (.t 8),none⟩,⟨0,some 10,.fld 3 (.t 9),none⟩,⟨0,some 11,(.fld 1
  (.t 10)),none⟩,⟨0,some 12,.load false 1 (.t 11),none⟩,⟨0,some 5,(.alloc [.int .i64 0]),none⟩,⟨0,none,(.store 1 (.t 5) (.t 12) []),
  none⟩]) (.seq (.seq (.reg [(1,false)] false [⟨0,some 13,.mv (.t 1),none⟩,⟨0,some 14,(.callf false (.c (.fn (.func 81) [] [])) [.t 13] []),
  none⟩]) (.block 0 (.rng 0 [2,5] (.t 14) [15] (.reg [] false [⟨0,some 6,.mv (.t 15),none⟩]) (.block 1 (.reg [] true [⟨0,some 16,(.load false 1
  (.t 5)),none⟩,⟨1,some 17,.load false 1 (.t 2),none⟩,⟨2,some 18,.nilck (.t 17),none⟩,⟨3,some 19,.fld 0 (.t 18),none⟩,⟨4,some 20,
  (.fld 1 (.t 19)),none⟩,⟨5,some 21,.load false 1 (.t 20),none⟩,⟨6,some 22,.mv (.t 6),none⟩,⟨7,some 23,.idx 5 (.t 21) (.t 22),none⟩,
  ⟨8,some 24,.fld 3 (.t 23),none⟩,⟨9,some 25,.fld 1 (.t 24),none⟩,⟨10,some 26,.load false 1 (.t 25),none⟩,⟨11,some 27,(.bin .add
  (.t 16) (.t 26)),none⟩,⟨12,none,(.store 1 (.t 5) (.t 27) []),none⟩]))))) (.seq (.reg [] false [⟨0,some 28,.load false 1 (.t 5),none⟩,⟨0,(some
  4),.mv (.t 28),none⟩]) .ret))))⟩
theorem is110 : FnIs prog 110 x110.fn := ⟨fun vs w => call110 vs w,_,_,func110,rfl,rfl,by kernel_rfl,by kernel_rfl⟩
theorem ok110 : okX x110.body = true := by kernel_rfl
theorem st110 : sitesP x110 x110.body := ⟨sitesP_of rfl,⟨sitesP_of rfl,⟨⟨sitesP_of rfl,⟨by kernel_rfl,sitesP_of rfl,sitesP_of rfl⟩⟩,sitesP_of rfl⟩⟩⟩

def x111l0 : XCode :=
  (.loop [0,1,7,8] (.seq (.reg [] false [⟨0,some 9,.bin .lss (.t 8) (.t 7),none⟩]) (.seq (.cond (.t 9) .skip (.exit 0)) (.seq (.block 1 (.seq (.reg []
  false [⟨0,some 10,.mv (.t 8),none⟩,⟨0,some 5,.mv (.t 10),none⟩]) (.seq (.reg [] false [⟨0,some 11,.mv (.t 1),none⟩,⟨0,some 12,
  (.mv (.t 0)),none⟩,⟨0,some 13,.mv (.t 5),none⟩,⟨0,some 14,.idx 2 (.t 12) (.t 13),none⟩,⟨0,some 15,.load true 2 (.t 14),none⟩,⟨0,
  (some 16),(.callf false (.t 11) [.t 15] []),none⟩]) (.cond (.t 16) (.seq (.reg [] false [⟨0,some 17,.mv (.t 5),none⟩,⟨0,some 4,.mv (.t
  17),none⟩]) .ret) .skip)))) (.reg [] false [⟨0,some 18,.bin .add (.t 8) (.c (.int .i64 1)),none⟩,⟨0,some 8,.mv (.t 18),none⟩])))))
def x111 : XFn := ⟨19,[(4,none)],false,false,
  (.seq (.reg [] false [⟨0,some 4,.mv (.c (.int .i64 0)),none⟩]) (.seq (.seq (.reg [] false [⟨0,some 6,.mv (.t 0),none⟩,⟨0,some 7,(.len false
  (.t 6)),none⟩,⟨0,some 8,.mv (.c (.int .i64 0)),none⟩]) (.block 0 x111l0)) (.seq (.reg [] false [⟨0,some 4,.mv (.c (.int .i64 (-1))),none⟩])
  .ret)))⟩
theorem is111 : FnIs prog 111 x111.fn := ⟨fun vs w => call111 vs w,_,_,func111,rfl,rfl,by kernel_rfl,by kernel_rfl⟩
theorem ok111 : okX x111.body = true := by kernel_rfl
theorem st111 : sitesP x111 x111.body := (sitesP_of rfl)

def x112 : XFn := ⟨8,[(2,none)],false,false,
  (.seq (.reg [] false [⟨0,some 2,.mv (.c (.int .i64 0)),none⟩]) (.seq (.cond (.c (.bool false)) (.seq (.reg [] false [⟨0,some 3,.mv (.t 0),none⟩,
  ⟨0,some 4,.conv .u32 (.t 3),none⟩,⟨0,some 5,(.callf false (.c (.fn (.func 118) [] [])) [.t 4] []),none⟩,⟨0,some 2,.mv (.t 5),none⟩])
  .ret) .skip) (.seq (.reg [] false [⟨0,some 6,.mv (.t 0),none⟩,⟨0,some 7,(.callf false (.c (.fn (.func 119) [] [])) [.t 6] []),none⟩,⟨0,
  (some 2),.mv (.t 7),none⟩]) .ret)))⟩
theorem is112 : FnIs prog 112 x112.fn := ⟨fun vs w => call112 vs w,_,_,func112,rfl,rfl,by kernel_rfl,by kernel_rfl⟩
theorem ok112 : okX x112.body = true := by kernel_rfl
theorem st112 : sitesP x112 x112.body := (sitesP_of rfl)

def x116 : XFn := ⟨14,[(2,none)],false,false,
  (.seq (.reg [] false [⟨0,some 2,.mv (.c (.int .i64 0)),none⟩]) (.seq (.seq (.reg [] false [⟨0,some 3,.mv (.t 0),none⟩,⟨0,some 4,(.bin .eql
  (.t 3) (.c (.int .u32 0))),none⟩]) (.cond (.t 4) (.seq (.reg [] false [⟨0,some 2,.mv (.c (.int .i64 32)),none⟩]) .ret) .skip)) (.seq (.reg [] false
  [⟨0,some 5,.mv (.t 0),none⟩,⟨0,some 6,.mv (.t 0),none⟩,⟨0,some 7,.neg (.t 6),none⟩,⟨0,some 8,.bin .and (.t 5) (.t 7),none⟩,
  ⟨0,some 9,.bin .mul (.t 8) (.c (.int .u32 125613361)),none⟩,⟨0,some 10,.bin .shr (.t 9) (.c (.int .u64 27)),none⟩,⟨0,some 11,(.idxa 32 1
  (.c (.fp [[.int .u8 0,.int .u8 1,.int .u8 28,.int .u8 2,.int .u8 29,.int .u8 14,.int .u8 24,.int .u8 3,.int .u8 30,.int .u8 22,
  (.int .u8 20),.int .u8 15,.int .u8 25,.int .u8 17,.int .u8 4,.int .u8 8,.int .u8 31,.int .u8 27,.int .u8 13,.int .u8 23,(.int
  .u8 21),.int .u8 19,.int .u8 16,.int .u8 7,.int .u8 26,.int .u8 12,.int .u8 18,.int .u8 6,.int .u8 11,.int .u8 5,.int .u8 10,
  (.int .u8 9)]] 0 0)) (.t 10)),none⟩,⟨0,some 12,.load false 1 (.t 11),none⟩,⟨0,some 13,.conv .i64 (.t 12),none⟩,⟨0,some 2,.mv (.t
  13),none⟩]) .ret)))⟩
theorem is116 : FnIs prog 116 x116.fn := ⟨fun vs w => call116 vs w,_,_,func116,rfl,rfl,by kernel_rfl,by kernel_rfl⟩
theorem ok116 : okX x116.body = true := by kernel_rfl
theorem st116 : sitesP x116 x116.body := (sitesP_of rfl)

def x117 : XFn := ⟨14,[(2,none)],false,false,
  (.seq (.reg [] false [⟨0,some 2,.mv (.c (.int .i64 0)),none⟩]) (.seq (.seq (.reg [] false [⟨0,some 3,.mv (.t 0),none⟩,⟨0,some 4,(.bin .eql
  (.t 3) (.c (.int .u64 0))),none⟩]) (.cond (.t 4) (.seq (.reg [] false [⟨0,some 2,.mv (.c (.int .i64 64)),none⟩]) .ret) .skip)) (.seq (.reg [] false
  [⟨0,some 5,.mv (.t 0),none⟩,⟨0,some 6,.mv (.t 0),none⟩,⟨0,some 7,.neg (.t 6),none⟩,⟨0,some 8,.bin .and (.t 5) (.t 7),none⟩,
  ⟨0,some 9,.bin .mul (.t 8) (.c (.int .u64 285870213051353865)),none⟩,⟨0,some 10,.bin .shr (.t 9) (.c (.int .u64 58)),none⟩,⟨0,some 11,
  (.idxa 64 1 (.c (.fp [[.int .u8 0,.int .u8 1,.int .u8 56,.int .u8 2,.int .u8 57,.int .u8 49,.int .u8 28,.int .u8 3,.int .u8 61,
  (.int .u8 58),.int .u8 42,.int .u8 50,.int .u8 38,.int .u8 29,.int .u8 17,.int .u8 4,.int .u8 62,.int .u8 47,.int .u8 59,(.int
  .u8 36),.int .u8 45,.int .u8 43,.int .u8 51,.int .u8 22,.int .u8 53,.int .u8 39,.int .u8 33,.int .u8 30,.int .u8 24,(.int .u8
  18),.int .u8 12,.int .u8 5,.int .u8 63,.int .u8 55,.int .u8 48,.int .u8 27,.int .u8 60,.int .u8 41,.int .u8 37,.int .u8 16,
  (.int .u8 46),.int .u8 35,.int .u8 44,.int .u8 21,.int .u8 52,.int .u8 32,.int .u8 23,.int .u8 11,.int .u8 54,.int .u8 26,(.int
  .u8 40),.int .u8 15,.int .u8 34,.int .u8 20,.int .u8 31,.int .u8 10,.int .u8 25,.int .u8 14,.int .u8 19,.int .u8 9,(.int .u8
  13),.int .u8 8,.int .u8 7,.int .u8 6]] 0 0)) (.t 10)),none⟩,⟨0,some 12,.load false 1 (.t 11),none⟩,⟨0,some 13,.conv .i64 (.t 12),
  none⟩,⟨0,some 2,.mv (.t 13),none⟩]) .ret)))⟩
theorem is117 : FnIs prog 117 x117.fn := ⟨fun vs w => call117 vs w,_,_,func117,rfl,rfl,by kernel_rfl,by kernel_rfl⟩
theorem ok117 : okX x117.body = true := by kernel_rfl
theorem st117 : sitesP x117 x117.body := (sitesP_of rfl)

def x118 : XFn := ⟨21,[(2,none)],false,false,
  (.seq (.reg [] false [⟨0,some 2,.mv (.c (.int .i64 0)),none⟩]) (.seq (.reg [] true [⟨0,some 3,.mv (.t 0),none⟩,⟨1,some 4,(.bin .shr (.t 3)
  (.c (.int .u64 24))),none⟩,⟨2,some 5,.idxs (.c (.str ⟨#[0,1,1,2,1,2,2,3,1,2,2,3,2,3,3,4,1,2,2,3,2,3,3,4,2,3,3,4,3,4,4,
  5,1,2,2,3,2,3,3,4,2,3,3,4,3,4,4,5,2,3,3,4,3,4,4,5,3,4,4,5,4,5,5,6,1,2,2,3,2,3,3,4,2,3,3,4,3,4,4,5,2,3,3,
  4,3,4,4,5,3,4,4,5,4,5,5,6,2,3,3,4,3,4,4,5,3,4,4,5,4,5,5,6,3,4,4,5,4,5,5,6,4,5,5,6,5,6,6,7,1,2,2,3,2,3,3,
  4,2,3,3,4,3,4,4,5,2,3,3,4,3,4,4,5,3,4,4,5,4,5,5,6,2,3,3,4,3,4,4,5,3,4,4,5,4,5,5,6,3,4,4,5,4,5,5,6,4,5,5,
  6,5,6,6,7,2,3,3,4,3,4,4,5,3,4,4,5,4,5,5,6,3,4,4,5,4,5,5,6,4,5,5,6,5,6,6,7,3,4,4,5,4,5,5,6,4,5,5,6,5,6,6,
  7,4,5,5,6,5,6,6,7,5,6,6,7,6,7,7,8]⟩)) (.t 4),none⟩,⟨3,some 6,.mv (.t 0),none⟩,⟨4,some 7,.bin .shr (.t 6) (.c (.int .u64
  16)),none⟩,⟨5,some 8,.bin .and (.t 7) (.c (.int .u32 255)),none⟩,⟨6,some 9,.idxs (.c (.str ⟨#[0,1,1,2,1,2,2,3,1,2,2,3,2,3,3,
  4,1,2,2,3,2,3,3,4,2,3,3,4,3,4,4,5,1,2,2,3,2,3,3,4,2,3,3,4,3,4,4,5,2,3,3,4,3,4,4,5,3,4,4,5,4,5,5,6,1,2,2,
  3,2,3,3,4,2,3,3,4,3,4,4,5,2,3,3,4,3,4,4,5,3,4,4,5,4,5,5,6,2,3,3,4,3,4,4,5,3,4,4,5,4,5,5,6,3,4,4,5,4,5,5,
  6,4,5,5,6,5,6,6,7,1,2,2,3,2,3,3,4,2,3,3,4,3,4,4,5,2,3,3,4,3,4,4,5,3,4,4,5,4,5,5,6,2,3,3,4,3,4,4,5,3,4,4,
  5,4,5,5,6,3,4,4,5,4,5,5,6,4,5,5,6,5,6,6,7,2,3,3,4,3,4,4,5,3,4,4,5,4,5,5,6,3,4,4,5,4,5,5,6,4,5,5,6,5,6,6,
  7,3,4,4,5,4,5,5,6,4,5,5,6,5,6,6,7,4,5,5,6,5,6,6,7,5,6,6,7,6,7,7,8]⟩)) (.t 8),none⟩,⟨7,some 10,.bin .add (.t 5) (.t
  9),none⟩,⟨8,some 11,.mv (.t 0),none⟩,⟨9,some 12,.bin .shr (.t 11) (.c (.int .u64 8)),none⟩,⟨10,some 13,.bin .and (.t 12) (.c (.int
  .u32 255)),none⟩,⟨11,some 14,.idxs (.c (.str ⟨#[0,1,1,2,1,2,2,3,1,2,2,3,2,3,3,4,1,2,2,3,2,3,3,4,2,3,3,4,3,4,4,5,1,
  2,2,3,2,3,3,4,2,3,3,4,3,4,4,5,2,3,3,4,3,4,4,5,3,4,4,5,4,5,5,6,1,2,2,3,2,3,3,4,2,3,3,4,3,4,4,5,2,3,3,4,3,
  4,4,5,3,4,4,5,4,5,5,6,2,3,3,4,3,4,4,5,3,4,4,5,4,5,5,6,3,4,4,5,4,5,5,6,4,5,5,6,5,6,6,7,1,2,2,3,2,3,3,4,2,
  3,3,4,3,4,4,5,2,3,3,4,3,4,4,5,3,4,4,5,4,5,5,6,2,3,3,4,3,4,4,5,3,4,4,5,4,5,5,6,3,4,4,5,4,5,5,6,4,5,5,6,5,
  6,6,7,2,3,3,4,3,4,4,5,3,4,4,5,4,5,5,6,3,4,4,5,4,5,5,6,4,5,5,6,5,6,6,7,3,4,4,5,4,5,5,6,4,5,5,6,5,6,6,7,4,
  5,5,6,5,6,6,7,5,6,6,7,6,7,7,8]⟩)) (.t 13),none⟩,⟨12,some 15,.bin .add (.t 10) (.t 14),none⟩,⟨13,some 16,.mv (.t 0),none⟩,
  ⟨14,some 17,.bin .and (.t 16) (.c (.int .u32 255)),none⟩,⟨15,some 18,.idxs (.c (.str ⟨#[0,1,1,2,1,2,2,3,1,2,2,3,2,3,3,4,1,2,
  2,3,2,3,3,4,2,3,3,4,3,4,4,5,1,2,2,3,2,3,3,4,2,3,3,4,3,4,4,5,2,3,3,4,3,4,4,5,3,4,4,5,4,5,5,6,1,2,2,3,2,3,
  3,4,2,3,3,4,3,4,4,5,2,3,3,4,3,4,4,5,3,4,4,5,4,5,5,6,2,3,3,4,3,4,4,5,3,4,4,5,4,5,5,6,3,4,4,5,4,5,5,6,4,5,
  5,6,5,6,6,7,1,2,2,3,2,3,3,4,2,3,3,4,3,4,4,5,2,3,3,4,3,4,4,5,3,4,4,5,4,5,5,6,2,3,3,4,3,4,4,5,3,4,4,5,4,5,
  5,6,3,4,4,5,4,5,5,6,4,5,5,6,5,6,6,7,2,3,3,4,3,4,4,5,3,4,4,5,4,5,5,6,3,4,4,5,4,5,5,6,4,5,5,6,5,6,6,7,3,4,
  4,5,4,5,5,6,4,5,5,6,5,6,6,7,4,5,5,6,5,6,6,7,5,6,6,7,6,7,7,8]⟩)) (.t 17),none⟩,⟨16,some 19,.bin .add (.t 15) (.t 18),
  none⟩,⟨17,some 20,.conv .i64 (.t 19),none⟩,⟨18,some 2,.mv (.t 20),none⟩]) .ret))⟩
theorem is118 : FnIs prog 118 x118.fn := ⟨fun vs w => call118 vs w,_,_,func118,rfl,rfl,by kernel_rfl,by kernel_rfl⟩
theorem ok118 : okX x118.body = true := by kernel_rfl
theorem st118 : sitesP x118 x118.body := (sitesP_of rfl)

def x119 : XFn := ⟨35,[(2,none)],false,false,
  (.seq (.reg [] false [⟨0,some 2,.mv (.c (.int .i64 0)),none⟩]) (.seq (.reg [] false [⟨0,some 3,.mv (.t 0),none⟩,⟨0,some 4,(.bin .shr (.t 3)
  (.c (.int .u64 1))),none⟩,⟨0,some 5,.bin .and (.t 4) (.c (.int .u64 6148914691236517205)),none⟩,⟨0,some 6,.mv (.t 0),none⟩,⟨0,some 7,
  (.bin .and (.t 6) (.c (.int .u64 6148914691236517205))),none⟩,⟨0,some 8,.bin .add (.t 5) (.t 7),none⟩,⟨0,some 0,.mv (.t 8),none⟩]) (.seq
  (.reg [] false [⟨0,some 9,.mv (.t 0),none⟩,⟨0,some 10,.bin .shr (.t 9) (.c (.int .u64 2)),none⟩,⟨0,some 11,.bin .and (.t 10) (.c (.int
  .u64 3689348814741910323)),none⟩,⟨0,some 12,.mv (.t 0),none⟩,⟨0,some 13,.bin .and (.t 12) (.c (.int .u64 3689348814741910323)),none⟩,⟨0,
  (some 14),.bin .add (.t 11) (.t 13),none⟩,⟨0,some 0,.mv (.t 14),none⟩]) (.seq (.reg [] false [⟨0,some 15,.mv (.t 0),none⟩,⟨0,some 16,
  (.bin .shr (.t 15) (.c (.int .u64 4))),none⟩,⟨0,some 17,.mv (.t 0),none⟩,⟨0,some 18,.bin .add (.t 16) (.t 17),none⟩,⟨0,some 19,(.bin
  .and (.t 18) (.c (.int .u64 1085102592571150095))),none⟩,⟨0,some 0,.mv (.t 19),none⟩]) (.seq (.reg [] false [⟨0,some 20,.mv (.t 0),none⟩,
  ⟨0,some 21,.mv (.t 0),none⟩,⟨0,some 22,.bin .shr (.t 21) (.c (.int .u64 8)),none⟩,⟨0,some 23,.bin .add (.t 20) (.t 22),none⟩,⟨0,
  (some 0),.mv (.t 23),none⟩]) (.seq (.reg [] false [⟨0,some 24,.mv (.t 0),none⟩,⟨0,some 25,.mv (.t 0),none⟩,⟨0,some 26,.bin .shr (.t
  25) (.c (.int .u64 16)),none⟩,⟨0,some 27,.bin .add (.t 24) (.t 26),none⟩,⟨0,some 0,.mv (.t 27),none⟩]) (.seq (.reg [] false [⟨0,(some
  28),.mv (.t 0),none⟩,⟨0,some 29,.mv (.t 0),none⟩,⟨0,some 30,.bin .shr (.t 29) (.c (.int .u64 32)),none⟩,⟨0,some 31,.bin .add (.t
  28) (.t 30),none⟩,⟨0,some 0,.mv (.t 31),none⟩]) (.seq (.reg [] false [⟨0,some 32,.mv (.t 0),none⟩,⟨0,some 33,.conv .i64 (.t 32),
  none⟩,⟨0,some 34,.bin .and (.t 33) (.c (.int .i64 127)),none⟩,⟨0,some 2,.mv (.t 34),none⟩]) .ret))))))))⟩
theorem is119 : FnIs prog 119 x119.fn := ⟨fun vs w => call119 vs w,_,_,func119,rfl,rfl,by kernel_rfl,by kernel_rfl⟩
theorem ok119 : okX x119.body = true := by kernel_rfl
theorem st119 : sitesP x119 x119.body := (sitesP_of rfl)

end Go.Proofs.YtpbeclkpohehgaaDoor
end
