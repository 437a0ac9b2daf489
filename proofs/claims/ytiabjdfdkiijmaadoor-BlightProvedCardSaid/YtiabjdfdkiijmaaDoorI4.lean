/- Parts of a proof, joined: G0 G1 G2. No statement of the seed is proved here. -/
import Derived.KernelRfl
import Derived.Test.YtiabjdfdkiijmaaDoorProg
import Derived.Test.YtiabjdfdkiijmaaDoorI3
set_option linter.unusedSimpArgs false
set_option linter.unusedVariables false
set_option linter.unusedSectionVars false
section
set_option maxRecDepth 100000
namespace Go.Proofs.YtiabjdfdkiijmaaDoor
open Go Go.DL Go.Proofs.Tryd

def wO:XCode :=
 (.loop [1,2,7,10,34,35,36] (.seq (.reg [] false [⟨0,some 37,.bin .lss (.t 36) (.t 35),none⟩]) (.seq (.cond (.t 37) .skip (.exit 0)) (.seq (.block
 1 (.seq (.reg [] false [⟨0,some 38,.idx 1 (.t 34) (.t 36),none⟩,⟨0,some 39,.load false 1 (.t 38),none⟩,⟨0,some 12,.mv (.t 39),none⟩])
 (.reg [] false [⟨0,some 40,.mv (.t 10),none⟩,⟨0,some 41,(.bslice 1 0 [.int .i64 0] []),none⟩,⟨0,some 42,.mv (.t 12),none⟩,⟨0,(some
 43),.app 1 8 (.t 41) (.t 42),none⟩,⟨0,some 44,(.bslice 1 1 [.nilsl] [(0,(1,(.t 43)))]),none⟩,⟨0,some 45,.app 1 24 (.t 40) (.t 44),none⟩,
 ⟨0,some 10,.mv (.t 45),none⟩]))) (.reg [] false [⟨0,some 46,.bin .add (.t 36) (.c (.int .i64 1)),none⟩,⟨0,some 36,.mv (.t 46),
 none⟩])))))
def uJ:XCode :=
 (.loop [1,2,7,10,13] (.seq (.seq (.reg [] false [⟨0,some 47,.mv (.t 13),none⟩,⟨0,some 48,.mv (.t 1),none⟩,⟨0,some 49,.len false (.t
 48),none⟩,⟨0,some 50,.bin .lss (.t 47) (.t 49),none⟩,⟨0,some 51,.mv (.t 50),none⟩,⟨0,some 52,.mv (.t 13),some (51,true)⟩,⟨0,
 (some 53),.bin .lss (.t 52) (.c (.int .i64 4)),some (51,true)⟩,⟨0,some 54,.pick (.t 51) (.t 53) (.c (.bool false)),none⟩]) (.cond (.t 54)
 .skip (.exit 2))) (.seq (.block 3 (.seq (.reg [] true [⟨0,some 57,.mv (.t 1),none⟩,⟨1,some 58,.mv (.t 13),none⟩,⟨2,some 59,.idx 3 (.t
 57) (.t 58),none⟩,⟨3,some 60,.idxa 3 1 (.t 59) (.c (.int .i64 0)),none⟩,⟨4,some 61,.load false 1 (.t 60),none⟩,⟨5,some 62,(.conv .i64
 (.t 61)),none⟩,⟨6,some 63,.fld 0 (.t 7),none⟩,⟨7,some 64,.load false 1 (.t 63),none⟩,⟨8,some 65,.bin .rem (.t 62) (.t 64),none⟩,
 ⟨9,some 66,.mv (.t 1),none⟩,⟨10,some 67,.mv (.t 13),none⟩,⟨11,some 68,.idx 3 (.t 66) (.t 67),none⟩,⟨12,some 69,.idxa 3 1 (.t
 68) (.c (.int .i64 1)),none⟩,⟨13,some 70,.load false 1 (.t 69),none⟩,⟨14,some 71,.conv .i64 (.t 70),none⟩,⟨15,some 72,.fld 0 (.t
 7),none⟩,⟨16,some 73,.load false 1 (.t 72),none⟩,⟨17,some 74,.bin .rem (.t 71) (.t 73),none⟩,⟨18,some 75,.mv (.t 1),none⟩,⟨19,
 (some 76),.mv (.t 13),none⟩,⟨20,some 77,.idx 3 (.t 75) (.t 76),none⟩,⟨21,some 78,.idxa 3 1 (.t 77) (.c (.int .i64 2)),none⟩,⟨22,(some
 79),.load false 1 (.t 78),none⟩,⟨23,some 80,.conv .i64 (.t 79),none⟩,⟨24,some 81,.fld 0 (.t 7),none⟩,⟨25,some 82,.load false 1 (.t
 81),none⟩,⟨26,some 83,.bin .rem (.t 80) (.t 82),none⟩,⟨27,some 84,(.bslice 1 3 [.int .i64 0] [(0,(1,(.t 65))),(1,(1,(.t 74))),(2,(1,
 (.t 83)))]),none⟩,⟨28,some 14,.mv (.t 84),none⟩]) (.seq (.reg [] false [⟨0,some 85,.mv (.t 1),none⟩,⟨0,some 86,.mv (.t 13),none⟩,
 ⟨0,some 87,.idx 3 (.t 85) (.t 86),none⟩,⟨0,some 88,.idxa 3 1 (.t 87) (.c (.int .i64 0)),none⟩,⟨0,some 89,.load false 1 (.t 88),none⟩,
 ⟨0,some 90,.conv .i64 (.t 89),none⟩,⟨0,some 91,.bin .quo (.t 90) (.c (.int .i64 16)),none⟩,⟨0,some 92,.mv (.t 10),none⟩,⟨0,(some
 93),.len false (.t 92),none⟩,⟨0,some 94,.bin .add (.t 93) (.c (.int .i64 1)),none⟩,⟨0,some 95,.bin .rem (.t 91) (.t 94),none⟩,⟨0,(some
 15),.mv (.t 95),none⟩]) (.seq (.reg [] false [⟨0,some 96,.mv (.t 15),none⟩,⟨0,some 97,.mv (.t 10),none⟩,⟨0,some 98,.len false (.t
 97),none⟩,⟨0,some 99,.bin .lss (.t 96) (.t 98),none⟩,⟨0,some 100,.mv (.t 99),none⟩,⟨0,some 101,.mv (.t 10),some (100,true)⟩,
 ⟨0,some 102,.mv (.t 15),some (100,true)⟩,⟨0,some 103,.idx 1 (.t 101) (.t 102),some (100,true)⟩,⟨0,some 104,.load false 1 (.t
 103),some (100,true)⟩,⟨0,some 105,.len false (.t 104),some (100,true)⟩,⟨0,some 106,.bin .gtr (.t 105) (.c (.int .i64 0)),some (100,
 true)⟩,⟨0,some 107,.pick (.t 100) (.t 106) (.c (.bool false)),none⟩]) (.cond (.t 107) (.reg [] true [⟨0,some 108,.mv (.t 10),none⟩,⟨1,
 (some 109),.mv (.t 15),none⟩,⟨2,some 110,.idx 1 (.t 108) (.t 109),none⟩,⟨3,some 111,.load false 1 (.t 110),none⟩,⟨4,some 112,(.mv
 (.t 1)),none⟩,⟨5,some 113,.mv (.t 13),none⟩,⟨6,some 114,.idx 3 (.t 112) (.t 113),none⟩,⟨7,some 115,.idxa 3 1 (.t 114) (.c (.int .i64
 1)),none⟩,⟨8,some 116,.load false 1 (.t 115),none⟩,⟨9,some 117,.conv .i64 (.t 116),none⟩,⟨10,some 118,.mv (.t 10),none⟩,⟨11,
 (some 119),.mv (.t 15),none⟩,⟨12,some 120,.idx 1 (.t 118) (.t 119),none⟩,⟨13,some 121,.load false 1 (.t 120),none⟩,⟨14,some 122,
 (.len false (.t 121)),none⟩,⟨15,some 123,.bin .rem (.t 117) (.t 122),none⟩,⟨16,some 124,.mv (.t 14),none⟩,⟨17,some 125,.idx 1 (.t
 124) (.c (.int .i64 2)),none⟩,⟨18,some 126,.load false 1 (.t 125),none⟩,⟨19,some 127,.idx 1 (.t 111) (.t 123),none⟩,⟨20,none,(.store 1
 (.t 127) (.t 126) []),none⟩]) (.reg [] false [⟨0,some 128,.mv (.t 10),none⟩,⟨0,some 129,.mv (.t 14),none⟩,⟨0,some 130,.mv (.t 1),
 none⟩,⟨0,some 131,.mv (.t 13),none⟩,⟨0,some 132,.idx 3 (.t 130) (.t 131),none⟩,⟨0,some 133,.idxa 3 1 (.t 132) (.c (.int .i64 1)),
 none⟩,⟨0,some 134,.load false 1 (.t 133),none⟩,⟨0,some 135,.conv .i64 (.t 134),none⟩,⟨0,some 136,.bin .quo (.t 135) (.c (.int .i64
 16)),none⟩,⟨0,some 137,.bin .rem (.t 136) (.c (.int .i64 3)),none⟩,⟨0,some 138,.slsl 1 (.t 129) (some (.t 137)) none,none⟩,⟨0,(some
 139),(.bslice 1 1 [.nilsl] [(0,(1,(.t 138)))]),none⟩,⟨0,some 140,.app 1 24 (.t 128) (.t 139),none⟩,⟨0,some 10,.mv (.t 140),none⟩]))))))
 (.reg [] false [⟨0,some 55,.mv (.t 13),none⟩,⟨0,some 56,.bin .add (.t 55) (.c (.int .i64 1)),none⟩,⟨0,some 13,.mv (.t 56),none⟩]))))
def pQ:XCode :=
 (.loop [2,7,19,20] (.seq (.seq (.reg [] false [⟨0,some 167,.mv (.t 20),none⟩,⟨0,some 168,.fld 0 (.t 7),none⟩,⟨0,some 169,(.load false 1
 (.t 168)),none⟩,⟨0,some 170,.bin .lss (.t 167) (.t 169),none⟩]) (.cond (.t 170) .skip (.exit 4))) (.seq (.block 5 (.seq (.reg [] false [⟨0,(some
 173),.mv (.t 2),none⟩,⟨0,some 174,.mv (.t 20),none⟩,⟨0,some 175,.bin .shr (.t 173) (.t 174),none⟩,⟨0,some 176,(.bin .and (.t 175)
 (.c (.int .u8 1))),none⟩,⟨0,some 177,.bin .eql (.t 176) (.c (.int .u8 1)),none⟩,⟨0,some 178,.mv (.t 177),none⟩,⟨0,some 179,.fld 5 (.t
 7),some (178,true)⟩,⟨0,some 180,.load false 1 (.t 179),some (178,true)⟩,⟨0,some 181,.mv (.t 20),some (178,true)⟩,⟨0,some 182,
 (.bin .shr (.t 180) (.t 181)),some (178,true)⟩,⟨0,some 183,.bin .and (.t 182) (.c (.int .i64 1)),some (178,true)⟩,⟨0,some 184,(.bin .eql
 (.t 183) (.c (.int .i64 0))),some (178,true)⟩,⟨0,some 185,.pick (.t 178) (.t 184) (.c (.bool false)),none⟩]) (.cond (.t 185) (.reg [] false [⟨0,
 (some 186),.mv (.t 19),none⟩,⟨0,some 187,.mv (.t 20),none⟩,⟨0,some 188,(.bslice 1 1 [.int .i64 0] [(0,(1,(.t 187)))]),none⟩,⟨0,(some
 189),.app 1 8 (.t 186) (.t 188),none⟩,⟨0,some 19,.mv (.t 189),none⟩]) .skip))) (.reg [] false [⟨0,some 171,.mv (.t 20),none⟩,⟨0,(some
 172),.bin .add (.t 171) (.c (.int .i64 1)),none⟩,⟨0,some 20,.mv (.t 172),none⟩]))))
def x10:XFn:=⟨206,[(6,none)],false,false,
 (.seq (.reg [] false [⟨0,some 3,.box (.t 0),none⟩,⟨0,some 6,.mv (.c (.bool false)),none⟩]) (.seq (.reg [(3,true)] false [⟨0,some 21,(.load
 true 6 (.t 3)),none⟩,⟨0,some 22,(.callf false (.c (.fn (.func 36) [] [])) [.t 21] []),none⟩,⟨0,some 7,(.alloc [.int .i64 0,.nilsl,.nilsl,
 (.int .i64 0),.int .i64 0,.int .i64 0]),none⟩,⟨0,none,(.store 6 (.t 7) (.t 22) []),none⟩]) (.seq (.reg [(7,true)] false [⟨0,some 24,(.load
 true 6 (.t 7)),none⟩,⟨0,some 25,(.callf false (.c (.fn (.func 33) [] [])) [.t 24] []),none⟩,⟨0,some 23,.mv (.t 25),none⟩,⟨0,some 26,
 (.ext (.t 23) 0),none⟩,⟨0,some 27,.ext (.t 23) 1,none⟩,⟨0,some 8,.mv (.t 26),none⟩,⟨0,some 9,.mv (.t 27),none⟩]) (.seq (.seq (.reg
 [] false [⟨0,some 28,.mv (.t 9),none⟩,⟨0,some 29,.bin .neq (.t 28) (.c (.int .i64 0)),none⟩,⟨0,some 30,.mv (.t 29),none⟩,⟨0,(some
 31),.mv (.t 9),some (30,true)⟩,⟨0,some 32,.bin .neq (.t 31) (.c (.int .i64 16)),some (30,true)⟩,⟨0,some 33,.pick (.t 30) (.t 32) (.c
 (.bool false)),none⟩]) (.cond (.t 33) (.seq (.reg [] false [⟨0,some 6,.mv (.c (.bool false)),none⟩]) .ret) .skip)) (.seq (.reg [] false [⟨0,(some
 10),.mv (.c .nilsl),none⟩]) (.seq (.seq (.reg [] false [⟨0,some 34,.mv (.t 8),none⟩,⟨0,some 35,.len false (.t 34),none⟩,⟨0,some 36,
 (.mv (.c (.int .i64 0))),none⟩]) (.block 0 wO)) (.seq (.seq (.reg [] false [⟨0,some 13,.mv (.c (.int .i64 0)),none⟩]) (.block 2 uJ)) (.seq
 (.reg [(7,true)] false [⟨0,some 142,.load true 6 (.t 7),none⟩,⟨0,some 143,(.callf false (.c (.fn (.func 39) [] [])) [.t 142] []),none⟩,⟨0,
 (some 141),.mv (.t 143),none⟩,⟨0,some 144,.ext (.t 141) 0,none⟩,⟨0,some 145,.ext (.t 141) 1,none⟩,⟨0,some 146,.ext (.t 141) 2,
 none⟩,⟨0,some 16,.mv (.t 144),none⟩,⟨0,some 17,.mv (.t 145),none⟩,⟨0,some 18,.mv (.t 146),none⟩]) (.seq (.seq (.reg [(7,true),(10,
 false)] false [⟨0,some 147,.load true 6 (.t 7),none⟩,⟨0,some 148,.mv (.t 10),none⟩,⟨0,some 149,(.callf false (.c (.fn (.func 35) [] []))
 [.t 147,.t 148] []),none⟩,⟨0,some 150,.bin .eql (.t 149) (.c (.int .i64 0)),none⟩,⟨0,some 151,.mv (.t 150),none⟩,⟨0,some 152,
 (.load true 6 (.t 7)),some (151,true)⟩,⟨0,some 153,.mv (.t 10),some (151,true)⟩,⟨0,some 154,(.callf false (.c (.fn (.func 41) [] []))
 [.t 152,.t 153] []),some (151,true)⟩,⟨0,some 155,.not (.t 154),some (151,true)⟩,⟨0,some 156,.mv (.t 155),some (151,true)⟩,
 ⟨0,some 157,.mv (.t 16),some (156,false)⟩,⟨0,some 158,.bin .geq (.t 157) (.c (.int .i64 0)),some (156,false)⟩,⟨0,some 159,.mv (.t
 158),some (156,false)⟩,⟨0,some 160,.mv (.t 10),some (159,true)⟩,⟨0,some 161,.len false (.t 160),some (159,true)⟩,⟨0,some 162,
 (.mv (.t 16)),some (159,true)⟩,⟨0,some 163,.bin .gtr (.t 161) (.t 162),some (159,true)⟩,⟨0,some 164,.pick (.t 159) (.t 163) (.c (.bool
 false)),some (156,false)⟩,⟨0,some 165,.pick (.t 156) (.c (.bool true)) (.t 164),some (151,true)⟩,⟨0,some 166,(.pick (.t 151) (.t 165)
 (.c (.bool false))),none⟩]) (.cond (.t 166) (.seq (.reg [] false [⟨0,some 6,.mv (.c (.bool false)),none⟩]) .ret) .skip)) (.seq (.reg [] false [⟨0,
 (some 19),.mv (.c .nilsl),none⟩]) (.seq (.seq (.reg [] false [⟨0,some 20,.mv (.c (.int .i64 0)),none⟩]) (.block 4 pQ)) (.seq (.reg [(7,true),
 (19,false)] true [⟨0,some 190,.load true 6 (.t 7),none⟩,⟨1,some 191,.mv (.t 19),none⟩,⟨4,some 194,.load true 6 (.t 7),none⟩,⟨5,
 (some 195),.mv (.t 2),none⟩,⟨6,some 196,.conv .i64 (.t 195),none⟩,⟨7,some 197,.fld 5 (.t 7),none⟩,⟨8,some 198,.load false 1 (.t
 197),none⟩,⟨9,some 199,.bin .andNot (.t 196) (.t 198),none⟩,⟨2,some 192,(.callf false (.c (.fn (.func 27) [] [])) [.t 190,.t 191] [4,
 8]),none⟩,⟨3,some 193,.bin .eql (.t 192) (.c (.int .i64 0)),none⟩,⟨10,some 200,(.callf false (.c (.fn (.func 40) [] [])) [.t 194,.t 199]
 []),none⟩,⟨11,some 201,.not (.t 200),none⟩,⟨12,some 202,.binb false (.t 193) (.t 201),none⟩,⟨13,some 203,.mv (.t 202),none⟩,⟨14,
 (some 204),(.callf false (.c (.fn (.func 16) [] [])) [] []),some (203,true)⟩,⟨15,some 205,.pick (.t 203) (.t 204) (.c (.bool false)),none⟩,
 ⟨16,some 6,.mv (.t 205),none⟩]) .ret)))))))))))),none⟩
theorem aRQ:cW prog 10 x10.fn:=⟨fun vs w=>call10 vs w,_,_,func10,rfl,rfl,by kernel_rfl,by kernel_rfl⟩
theorem aQL:iA x10=true:=by kernel_rfl
theorem aPE:aQ x10 x10.body:=(aB rfl)

def x16:XFn:=⟨168,[(0,none)],false,false,
 (.seq (.reg [] false [⟨0,some 0,.mv (.c (.bool false)),none⟩]) (.seq (.reg [] false [⟨0,some 20,(.callf false (.c (.fn (.func 44) [] [])) [(.c
 (.int .i64 0))] []),none⟩,⟨0,some 21,(.callf false (.c (.fn (.func 18) [] [])) [.t 20,.c (.int .i64 2)] []),none⟩,⟨0,some 19,.mv (.t 21),
 none⟩,⟨0,some 22,.ext (.t 19) 0,none⟩,⟨0,some 23,.ext (.t 19) 1,none⟩,⟨0,some 1,.mv (.t 22),none⟩,⟨0,some 2,.mv (.t 23),
 none⟩]) (.seq (.reg [] false [⟨0,some 25,(.callf false (.c (.fn (.func 44) [] [])) [.c (.int .i64 0)] []),none⟩,⟨0,some 26,(.callf false (.c
 (.fn (.func 20) [] [])) [.t 25] []),none⟩,⟨0,some 24,.mv (.t 26),none⟩,⟨0,some 27,.ext (.t 24) 0,none⟩,⟨0,some 28,.ext (.t 24) 1,
 none⟩,⟨0,some 3,.mv (.t 27),none⟩,⟨0,some 4,.mv (.t 28),none⟩]) (.seq (.reg [] false [⟨0,some 30,(.callf false (.c (.fn (.func 44) []
 [])) [.c (.int .i64 0)] []),none⟩,⟨0,some 31,(.callf false (.c (.fn (.func 29) [] [])) [.t 30] []),none⟩,⟨0,some 29,.mv (.t 31),none⟩,
 ⟨0,some 32,.ext (.t 29) 0,none⟩,⟨0,some 33,.ext (.t 29) 1,none⟩,⟨0,some 5,.mv (.t 32),none⟩,⟨0,some 6,.mv (.t 33),none⟩])
 (.seq (.reg [] false [⟨0,some 35,(.callf false (.c (.fn (.func 44) [] [])) [.c (.int .i64 9)] []),none⟩,⟨0,some 36,(.callf false (.c (.fn (.func
 29) [] [])) [.t 35] []),none⟩,⟨0,some 34,.mv (.t 36),none⟩,⟨0,some 37,.ext (.t 34) 0,none⟩,⟨0,some 38,.ext (.t 34) 1,none⟩,⟨0,
 (some 7),.mv (.t 37),none⟩,⟨0,some 8,.mv (.t 38),none⟩]) (.seq (.reg [] false [⟨0,some 40,(.callf false (.c (.fn (.func 44) [] [])) [(.c
 (.int .i64 79))] []),none⟩,⟨0,some 41,(.callf false (.c (.fn (.func 29) [] [])) [.t 40] []),none⟩,⟨0,some 39,.mv (.t 41),none⟩,⟨0,(some
 42),.ext (.t 39) 0,none⟩,⟨0,some 43,.ext (.t 39) 1,none⟩,⟨0,some 9,.mv (.t 42),none⟩,⟨0,some 10,.mv (.t 43),none⟩]) (.seq (.reg
 [] false [⟨0,some 45,(.callf false (.c (.fn (.func 44) [] [])) [.c (.int .i64 15)] []),none⟩,⟨0,some 46,(.callf false (.c (.fn (.func 31) []
 [])) [.t 45] []),none⟩,⟨0,some 44,.mv (.t 46),none⟩,⟨0,some 47,.ext (.t 44) 0,none⟩,⟨0,some 48,.ext (.t 44) 1,none⟩,⟨0,(some
 11),.mv (.t 47),none⟩,⟨0,some 12,.mv (.t 48),none⟩]) (.seq (.reg [] false [⟨0,some 50,(.callf false (.c (.fn (.func 44) [] [])) [.c (.int
 .i64 9)] []),none⟩,⟨0,some 51,(.callf false (.c (.fn (.func 31) [] [])) [.t 50] []),none⟩,⟨0,some 49,.mv (.t 51),none⟩,⟨0,some 52,
 (.ext (.t 49) 0),none⟩,⟨0,some 53,.ext (.t 49) 1,none⟩,⟨0,some 13,.mv (.t 52),none⟩,⟨0,some 14,.mv (.t 53),none⟩]) (.seq (.reg []
 false [⟨0,some 55,(.callf false (.c (.fn (.func 44) [] [])) [.c (.int .i64 9)] []),none⟩,⟨0,some 56,(.callf false (.c (.fn (.func 33) [] []))
 [.t 55] []),none⟩,⟨0,some 54,.mv (.t 56),none⟩,⟨0,some 57,.ext (.t 54) 0,none⟩,⟨0,some 58,.ext (.t 54) 1,none⟩,⟨0,some 15,
 (.mv (.t 57)),none⟩,⟨0,some 16,.mv (.t 58),none⟩]) (.seq (.reg [] false [⟨0,some 60,(.callf false (.c (.fn (.func 44) [] [])) [.c (.int .i64
 0)] []),none⟩,⟨0,some 61,(.bslice 1 2 [.int .i64 0] [(0,(1,(.c (.int .i64 2)))),(1,(1,(.c (.int .i64 3))))]),none⟩,⟨0,some 62,(.callf
 false (.c (.fn (.func 25) [] [])) [.t 60,.t 61,.c (.int .i64 4)] []),none⟩,⟨0,some 59,.mv (.t 62),none⟩,⟨0,some 63,.ext (.t 59) 0,
 none⟩,⟨0,some 64,.ext (.t 59) 1,none⟩,⟨0,some 17,.mv (.t 63),none⟩,⟨0,some 18,.mv (.t 64),none⟩]) (.seq (.seq (.reg [] false [⟨0,
 (some 65),.mv (.t 2),none⟩,⟨0,some 66,.bin .neq (.t 65) (.c (.int .i64 0)),none⟩,⟨0,some 67,.mv (.t 66),none⟩,⟨0,some 68,.mv (.t
 4),some (67,false)⟩,⟨0,some 69,.bin .neq (.t 68) (.c (.int .i64 0)),some (67,false)⟩,⟨0,some 70,.pick (.t 67) (.c (.bool true)) (.t
 69),none⟩,⟨0,some 71,.mv (.t 70),none⟩,⟨0,some 72,.mv (.t 6),some (71,false)⟩,⟨0,some 73,.bin .neq (.t 72) (.c (.int .i64 0)),
 (some (71,false))⟩,⟨0,some 74,.pick (.t 71) (.c (.bool true)) (.t 73),none⟩,⟨0,some 75,.mv (.t 74),none⟩,⟨0,some 76,.mv (.t 8),
 (some (75,false))⟩,⟨0,some 77,.bin .neq (.t 76) (.c (.int .i64 0)),some (75,false)⟩,⟨0,some 78,.pick (.t 75) (.c (.bool true)) (.t 77),
 none⟩,⟨0,some 79,.mv (.t 78),none⟩,⟨0,some 80,.mv (.t 10),some (79,false)⟩,⟨0,some 81,.bin .neq (.t 80) (.c (.int .i64 0)),(some
 (79,false))⟩,⟨0,some 82,.pick (.t 79) (.c (.bool true)) (.t 81),none⟩,⟨0,some 83,.mv (.t 82),none⟩,⟨0,some 84,.mv (.t 12),(some
 (83,false))⟩,⟨0,some 85,.bin .neq (.t 84) (.c (.int .i64 0)),some (83,false)⟩,⟨0,some 86,.pick (.t 83) (.c (.bool true)) (.t 85),none⟩,
 ⟨0,some 87,.mv (.t 86),none⟩,⟨0,some 88,.mv (.t 14),some (87,false)⟩,⟨0,some 89,.bin .neq (.t 88) (.c (.int .i64 0)),some (87,
 false)⟩,⟨0,some 90,.pick (.t 87) (.c (.bool true)) (.t 89),none⟩,⟨0,some 91,.mv (.t 90),none⟩,⟨0,some 92,.mv (.t 16),some (91,
 false)⟩,⟨0,some 93,.bin .neq (.t 92) (.c (.int .i64 0)),some (91,false)⟩,⟨0,some 94,.pick (.t 91) (.c (.bool true)) (.t 93),none⟩,⟨0,
 (some 95),.mv (.t 94),none⟩,⟨0,some 96,.mv (.t 18),some (95,false)⟩,⟨0,some 97,.bin .neq (.t 96) (.c (.int .i64 0)),some (95,
 false)⟩,⟨0,some 98,.pick (.t 95) (.c (.bool true)) (.t 97),none⟩]) (.cond (.t 98) (.seq (.reg [] false [⟨0,some 0,.mv (.c (.bool false)),
 none⟩]) .ret) .skip)) (.seq (.reg [(1,false),(3,false),(5,false),(7,false),(9,false),(11,false),(15,false),(17,false)] false [⟨0,some 99,
 (.mv (.t 1)),none⟩,⟨0,some 100,(.bslice 1 5 [.int .i64 0] [(0,(1,(.c (.int .i64 0)))),(1,(1,(.c (.int .i64 1)))),(2,(1,(.c (.int .i64 2)))),
 (3,(1,(.c (.int .i64 3)))),(4,(1,(.c (.int .i64 7))))]),none⟩,⟨0,some 101,(.callf false (.c (.fn (.func 22) [] [])) [.t 99,.t 100] []),
 none⟩,⟨0,some 102,.mv (.t 101),none⟩,⟨0,some 103,.mv (.t 3),some (102,true)⟩,⟨0,some 104,(.bslice 1 8 [.int .i64 0] [(0,(1,(.c
 (.int .i64 0)))),(1,(1,(.c (.int .i64 1)))),(2,(1,(.c (.int .i64 1)))),(3,(1,(.c (.int .i64 2)))),(4,(1,(.c (.int .i64 3)))),(5,(1,(.c (.int
 .i64 3)))),(6,(1,(.c (.int .i64 4)))),(7,(1,(.c (.int .i64 1))))]),some (102,true)⟩,⟨0,some 105,(.callf false (.c (.fn (.func 22) [] []))
 [.t 103,.t 104] []),some (102,true)⟩,⟨0,some 106,.pick (.t 102) (.t 105) (.c (.bool false)),none⟩,⟨0,some 107,.mv (.t 106),none⟩,
 ⟨0,some 108,.mv (.t 5),some (107,true)⟩,⟨0,some 109,(.bslice 1 1 [.int .i64 0] [(0,(1,(.c (.int .i64 0))))]),some (107,true)⟩,⟨0,
 (some 110),(.callf false (.c (.fn (.func 22) [] [])) [.t 108,.t 109] []),some (107,true)⟩,⟨0,some 111,.pick (.t 107) (.t 110) (.c (.bool
 false)),none⟩,⟨0,some 112,.mv (.t 111),none⟩,⟨0,some 113,.mv (.t 7),some (112,true)⟩,⟨0,some 114,(.bslice 1 2 [.int .i64 0] [(0,
 (1,(.c (.int .i64 1)))),(1,(1,(.c (.int .i64 2))))]),some (112,true)⟩,⟨0,some 115,(.callf false (.c (.fn (.func 22) [] [])) [.t 113,(.t
 114)] []),some (112,true)⟩,⟨0,some 116,.pick (.t 112) (.t 115) (.c (.bool false)),none⟩,⟨0,some 117,.mv (.t 116),none⟩,⟨0,some 118,
 (.mv (.t 9)),some (117,true)⟩,⟨0,some 119,(.bslice 1 3 [.int .i64 0] [(0,(1,(.c (.int .i64 4)))),(1,(1,(.c (.int .i64 5)))),(2,(1,(.c
 (.int .i64 7))))]),some (117,true)⟩,⟨0,some 120,(.callf false (.c (.fn (.func 22) [] [])) [.t 118,.t 119] []),some (117,true)⟩,⟨0,(some
 121),.pick (.t 117) (.t 120) (.c (.bool false)),none⟩,⟨0,some 122,.mv (.t 121),none⟩,⟨0,some 123,.mv (.t 11),some (122,true)⟩,⟨0,
 (some 124),(.bslice 1 2 [.int .i64 0] [(0,(1,(.c (.int .i64 6)))),(1,(1,(.c (.int .i64 7))))]),some (122,true)⟩,⟨0,some 125,(.callf false
 (.c (.fn (.func 22) [] [])) [.t 123,.t 124] []),some (122,true)⟩,⟨0,some 126,.pick (.t 122) (.t 125) (.c (.bool false)),none⟩,⟨0,(some
 127),.mv (.t 126),none⟩,⟨0,some 128,.mv (.t 13),some (127,true)⟩,⟨0,some 129,.len false (.t 128),some (127,true)⟩,⟨0,some 130,
 (.bin .eql (.t 129) (.c (.int .i64 0))),some (127,true)⟩,⟨0,some 131,.pick (.t 127) (.t 130) (.c (.bool false)),none⟩,⟨0,some 132,.mv (.t
 131),none⟩,⟨0,some 133,.mv (.t 15),some (132,true)⟩,⟨0,some 134,.len false (.t 133),some (132,true)⟩,⟨0,some 135,.bin .eql (.t
 134) (.c (.int .i64 2)),some (132,true)⟩,⟨0,some 136,.pick (.t 132) (.t 135) (.c (.bool false)),none⟩,⟨0,some 137,.mv (.t 136),none⟩,
 ⟨0,some 138,(.callf false (.c (.fn (.func 44) [] [])) [.c (.int .i64 9)] []),some (137,true)⟩,⟨0,some 139,.mv (.t 15),some (137,true)⟩,
 ⟨0,some 140,(.callf false (.c (.fn (.func 35) [] [])) [.t 138,.t 139] []),some (137,true)⟩,⟨0,some 141,.bin .eql (.t 140) (.c (.int .i64
 0)),some (137,true)⟩,⟨0,some 142,.pick (.t 137) (.t 141) (.c (.bool false)),none⟩,⟨0,some 143,.mv (.t 142),none⟩,⟨0,some 144,(.mv
 (.t 17)),some (143,true)⟩,⟨0,some 145,(.bslice 1 2 [.int .i64 0] [(0,(1,(.c (.int .i64 0)))),(1,(1,(.c (.int .i64 1))))]),some (143,
 true)⟩,⟨0,some 146,(.callf false (.c (.fn (.func 22) [] [])) [.t 144,.t 145] []),some (143,true)⟩,⟨0,some 147,(.pick (.t 143) (.t 146)
 (.c (.bool false))),none⟩,⟨0,some 148,.mv (.t 147),none⟩,⟨0,some 149,(.callf false (.c (.fn (.func 44) [] [])) [.c (.int .i64 0)] []),(some
 (148,true))⟩,⟨0,some 150,(.bslice 1 2 [.int .i64 0] [(0,(1,(.c (.int .i64 3)))),(1,(1,(.c (.int .i64 7))))]),some (148,true)⟩,⟨0,(some
 151),(.callf false (.c (.fn (.func 27) [] [])) [.t 149,.t 150] []),some (148,true)⟩,⟨0,some 152,.bin .eql (.t 151) (.c (.int .i64 0)),
 (some (148,true))⟩,⟨0,some 153,.pick (.t 148) (.t 152) (.c (.bool false)),none⟩,⟨0,some 154,.mv (.t 153),none⟩,⟨0,some 155,(.callf
 false (.c (.fn (.func 44) [] [])) [.c (.int .i64 0)] []),some (154,true)⟩,⟨0,some 156,(.bslice 1 2 [.int .i64 0] [(0,(1,(.c (.int .i64 3)))),
 (1,(1,(.c (.int .i64 4))))]),some (154,true)⟩,⟨0,some 157,(.callf false (.c (.fn (.func 27) [] [])) [.t 155,.t 156] []),some (154,
 true)⟩,⟨0,some 158,.bin .eql (.t 157) (.c (.int .i64 11)),some (154,true)⟩,⟨0,some 159,.pick (.t 154) (.t 158) (.c (.bool false)),none⟩,
 ⟨0,some 160,.mv (.t 159),none⟩,⟨0,some 161,(.callf false (.c (.fn (.func 44) [] [])) [.c (.int .i64 9)] []),some (160,true)⟩,⟨0,(some
 162),(.bslice 1 3 [.int .i64 0] [(0,(1,(.c (.int .i64 0)))),(1,(1,(.c (.int .i64 2)))),(2,(1,(.c (.int .i64 7))))]),some (160,true)⟩,⟨0,
 (some 163),(.bslice 1 5 [.int .i64 0] [(0,(1,(.c (.int .i64 0)))),(1,(1,(.c (.int .i64 1)))),(2,(1,(.c (.int .i64 3)))),(3,(1,(.c (.int .i64
 4)))),(4,(1,(.c (.int .i64 7))))]),some (160,true)⟩,⟨0,some 164,(.bslice 1 2 [.nilsl] [(0,(1,(.t 162))),(1,(1,(.t 163)))]),some (160,
 true)⟩,⟨0,some 165,(.callf false (.c (.fn (.func 35) [] [])) [.t 161,.t 164] []),some (160,true)⟩,⟨0,some 166,.bin .eql (.t 165) (.c
 (.int .i64 6)),some (160,true)⟩,⟨0,some 167,.pick (.t 160) (.t 166) (.c (.bool false)),none⟩,⟨0,some 0,.mv (.t 167),none⟩])
 .ret)))))))))))),none⟩
theorem aRP:cW prog 16 x16.fn:=⟨fun vs w=>call16 vs w,_,_,func16,rfl,rfl,by kernel_rfl,by kernel_rfl⟩
theorem aQK:iA x16=true:=by kernel_rfl
theorem aPD:aQ x16 x16.body:=(aB rfl)

def x18:XFn:=⟨18,[(4,none),(5,none)],false,false,
 (.seq (.reg [] false [⟨0,some 2,.box (.t 0),none⟩,⟨0,some 4,.mv (.c .nilsl),none⟩,⟨0,some 5,.mv (.c (.int .i64 0)),none⟩]) (.seq (.seq
 (.reg [(2,true)] false [⟨0,some 7,.load true 6 (.t 2),none⟩,⟨0,some 8,(.callf false (.c (.fn (.func 23) [] [])) [.t 7] []),none⟩,⟨0,(some
 6),.mv (.t 8),none⟩]) (.seq (.reg [] false [⟨0,some 9,.mv (.t 6),none⟩,⟨0,some 10,.bin .neq (.t 9) (.c (.int .i64 0)),none⟩]) (.cond (.t
 10) (.seq (.reg [] false [⟨0,some 11,.mv (.t 6),none⟩,⟨0,some 4,.mv (.c .nilsl),none⟩,⟨0,some 5,.mv (.t 11),none⟩]) .ret) .skip)))
 (.seq (.seq (.reg [(1,false)] false [⟨0,some 12,.mv (.t 1),none⟩,⟨0,some 13,(.callf false (.c (.fn (.func 45) [] [])) [.c (.int .i64 0),(.t
 12),.c (.int .i64 100)] []),none⟩,⟨0,some 14,.not (.t 13),none⟩]) (.cond (.t 14) (.seq (.reg [] false [⟨0,some 4,.mv (.c .nilsl),none⟩,
 ⟨0,some 5,.mv (.c (.int .i64 2)),none⟩]) .ret) .skip)) (.seq (.reg [(2,true),(1,false)] false [⟨0,some 15,.load true 6 (.t 2),none⟩,⟨0,
 (some 16),.mv (.t 1),none⟩,⟨0,some 17,(.callf false (.c (.fn (.func 46) [] [])) [.t 15,.c (.int .i64 0),.t 16] []),none⟩,⟨0,some 4,
 (.mv (.t 17)),none⟩,⟨0,some 5,.mv (.c (.int .i64 0)),none⟩]) .ret)))),none⟩
theorem aRO:cW prog 18 x18.fn:=⟨fun vs w=>call18 vs w,_,_,func18,rfl,rfl,by kernel_rfl,by kernel_rfl⟩
theorem aQJ:iA x18=true:=by kernel_rfl
theorem aPC:aQ x18 x18.body:=(aB rfl)

def x20:XFn:=⟨26,[(2,none),(3,none)],false,false,
 (.seq (.reg [] false [⟨0,some 1,.box (.t 0),none⟩,⟨0,some 2,.mv (.c .nilsl),none⟩,⟨0,some 3,.mv (.c (.int .i64 0)),none⟩]) (.seq (.seq
 (.reg [(1,true)] false [⟨0,some 7,.load true 6 (.t 1),none⟩,⟨0,some 8,(.callf false (.c (.fn (.func 23) [] [])) [.t 7] []),none⟩,⟨0,(some
 4),.mv (.t 8),none⟩]) (.seq (.reg [] false [⟨0,some 9,.mv (.t 4),none⟩,⟨0,some 10,.bin .neq (.t 9) (.c (.int .i64 0)),none⟩]) (.cond (.t
 10) (.seq (.reg [] false [⟨0,some 11,.mv (.t 4),none⟩,⟨0,some 2,.mv (.c .nilsl),none⟩,⟨0,some 3,.mv (.t 11),none⟩]) .ret) .skip)))
 (.seq (.reg [(1,true)] false [⟨0,some 12,(.bslice 1 1 [.int .i64 0] [(0,(1,(.c (.int .i64 1125899906842624))))]),none⟩,⟨0,some 13,.fld 0 (.t
 1),none⟩,⟨0,some 14,.load false 1 (.t 13),none⟩,⟨0,some 15,(.callf false (.c (.fn (.func 50) [] [])) [.t 12,.t 14] []),none⟩,⟨0,(some
 5),(.alloc [.nilsl]),none⟩,⟨0,none,(.store 1 (.t 5) (.t 15) []),none⟩]) (.seq (.seq (.reg [(1,true)] false [⟨0,some 16,.load true 6 (.t 1),
 none⟩,⟨0,some 17,(.callf false (.c (.fn (.func 51) [] [])) [.t 16,.c (.int .i64 0),.c (.int .i64 117)] []),none⟩]) (.block 0 (.rng 0 [5] (.t
 17) [18] (.reg [] false [⟨0,some 6,(.alloc [.int .i64 0,.int .i64 0]),none⟩,⟨0,none,(.store 2 (.t 6) (.t 18) []),none⟩]) (.block 1 (.reg []
 false [⟨0,some 19,.load false 1 (.t 5),none⟩,⟨0,some 20,.fld 0 (.t 6),none⟩,⟨0,some 21,.load false 1 (.t 20),none⟩,⟨0,some 22,
 (.fld 1 (.t 6)),none⟩,⟨0,some 23,.load false 1 (.t 22),none⟩,⟨0,some 24,.idx 1 (.t 19) (.t 21),none⟩,⟨0,none,(.store 1 (.t 24) (.t 23)
 []),none⟩]))))) (.seq (.reg [] false [⟨0,some 25,.load false 1 (.t 5),none⟩,⟨0,some 2,.mv (.t 25),none⟩,⟨0,some 3,.mv (.c (.int .i64
 0)),none⟩]) .ret))))),none⟩
theorem aRN:cW prog 20 x20.fn:=⟨fun vs w=>call20 vs w,_,_,func20,rfl,rfl,by kernel_rfl,by kernel_rfl⟩
theorem aQI:iA x20=true:=by kernel_rfl
theorem aPB:aQ x20 x20.body:=⟨aB rfl,⟨aB rfl,⟨aB rfl,⟨⟨aB rfl,⟨by kernel_rfl,aB rfl,aB rfl⟩⟩,aB rfl⟩⟩⟩⟩

def aMW:XCode :=
 (.loop [0,1,5] (.seq (.seq (.reg [] false [⟨0,some 11,.mv (.t 5),none⟩,⟨0,some 12,.mv (.t 0),none⟩,⟨0,some 13,.len false (.t 12),
 none⟩,⟨0,some 14,.bin .lss (.t 11) (.t 13),none⟩]) (.cond (.t 14) .skip (.exit 0))) (.seq (.block 1 (.seq (.reg [] true [⟨0,some 17,.mv (.t
 0),none⟩,⟨1,some 18,.mv (.t 5),none⟩,⟨2,some 19,.idx 1 (.t 17) (.t 18),none⟩,⟨3,some 20,.load false 1 (.t 19),none⟩,⟨4,(some
 21),.mv (.t 1),none⟩,⟨5,some 22,.mv (.t 5),none⟩,⟨6,some 23,.idx 1 (.t 21) (.t 22),none⟩,⟨7,some 24,.load false 1 (.t 23),none⟩,
 ⟨8,some 25,.bin .neq (.t 20) (.t 24),none⟩]) (.cond (.t 25) (.seq (.reg [] false [⟨0,some 4,.mv (.c (.bool false)),none⟩]) .ret) .skip)))
 (.reg [] false [⟨0,some 15,.mv (.t 5),none⟩,⟨0,some 16,.bin .add (.t 15) (.c (.int .i64 1)),none⟩,⟨0,some 5,.mv (.t 16),none⟩]))))
def x22:XFn:=⟨26,[(4,none)],false,false,
 (.seq (.reg [] false [⟨0,some 4,.mv (.c (.bool false)),none⟩]) (.seq (.seq (.reg [] false [⟨0,some 6,.mv (.t 0),none⟩,⟨0,some 7,(.len false
 (.t 6)),none⟩,⟨0,some 8,.mv (.t 1),none⟩,⟨0,some 9,.len false (.t 8),none⟩,⟨0,some 10,.bin .neq (.t 7) (.t 9),none⟩]) (.cond (.t
 10) (.seq (.reg [] false [⟨0,some 4,.mv (.c (.bool false)),none⟩]) .ret) .skip)) (.seq (.seq (.reg [] false [⟨0,some 5,.mv (.c (.int .i64 0)),
 none⟩]) (.block 0 aMW)) (.seq (.reg [] false [⟨0,some 4,.mv (.c (.bool true)),none⟩]) .ret)))),none⟩
theorem aRM:cW prog 22 x22.fn:=⟨fun vs w=>call22 vs w,_,_,func22,rfl,rfl,by kernel_rfl,by kernel_rfl⟩
theorem aQH:iA x22=true:=by kernel_rfl
theorem aPA:aQ x22 x22.body:=(aB rfl)

def qY:XCode :=
 (.loop [1,22,23,24] (.seq (.reg [] false [⟨0,some 25,.bin .lss (.t 24) (.t 23),none⟩]) (.seq (.cond (.t 25) .skip (.exit 1)) (.seq (.block 2 (.seq
 (.reg [] false [⟨0,some 26,.idx 2 (.t 22) (.t 24),none⟩,⟨0,some 27,.load true 2 (.t 26),none⟩,⟨0,some 4,(.alloc [.int .i64 0,(.int
 .i64 0)]),none⟩,⟨0,none,(.store 2 (.t 4) (.t 27) []),none⟩]) (.seq (.reg [(1,true)] false [⟨0,some 28,.load true 6 (.t 1),none⟩,⟨0,some 29,
 (.idxa 2 1 (.t 4) (.c (.int .i64 0))),none⟩,⟨0,some 30,.load false 1 (.t 29),none⟩,⟨0,some 31,.idxa 2 1 (.t 4) (.c (.int .i64 1)),none⟩,
 ⟨0,some 32,.load false 1 (.t 31),none⟩,⟨0,some 33,(.callf false (.c (.fn (.func 53) [] [])) [.t 28,.t 30,.t 32] []),none⟩,⟨0,(some
 5),.mv (.t 33),none⟩]) (.seq (.reg [] false [⟨0,some 34,.mv (.t 5),none⟩,⟨0,some 35,.bin .neq (.t 34) (.c (.int .i64 0)),none⟩]) (.cond
 (.t 35) (.seq (.reg [] false [⟨0,some 36,.mv (.t 5),none⟩,⟨0,some 2,.mv (.t 36),none⟩]) .ret) .skip))))) (.reg [] false [⟨0,some 37,(.bin
 .add (.t 24) (.c (.int .i64 1))),none⟩,⟨0,some 24,.mv (.t 37),none⟩])))))
def pP:XCode :=
 (.loop [1,43,44,45] (.seq (.reg [] false [⟨0,some 46,.bin .lss (.t 45) (.t 44),none⟩]) (.seq (.cond (.t 46) .skip (.exit 3)) (.seq (.block 4 (.seq
 (.reg [] false [⟨0,some 47,.idx 3 (.t 43) (.t 45),none⟩,⟨0,some 48,.load true 3 (.t 47),none⟩,⟨0,some 7,(.alloc [.int .i64 0,(.int
 .i64 0),.int .i64 0]),none⟩,⟨0,none,(.store 3 (.t 7) (.t 48) []),none⟩]) (.seq (.seq (.reg [(1,true),(7,true)] false [⟨0,some 49,(.load true
 6 (.t 1)),none⟩,⟨0,some 50,.fld 1 (.t 7),none⟩,⟨0,some 51,.load false 1 (.t 50),none⟩,⟨0,some 52,.fld 2 (.t 7),none⟩,⟨0,(some
 53),.load false 1 (.t 52),none⟩,⟨0,some 54,(.callf false (.c (.fn (.func 53) [] [])) [.t 49,.t 51,.t 53] []),none⟩,⟨0,some 8,.mv (.t
 54),none⟩]) (.seq (.reg [] false [⟨0,some 55,.mv (.t 8),none⟩,⟨0,some 56,.bin .neq (.t 55) (.c (.int .i64 0)),none⟩]) (.cond (.t 56) (.seq
 (.reg [] false [⟨0,some 57,.mv (.t 8),none⟩,⟨0,some 2,.mv (.t 57),none⟩]) .ret) .skip))) (.seq (.reg [(7,true)] false [⟨0,some 58,(.fld
 0 (.t 7)),none⟩,⟨0,some 59,.load false 1 (.t 58),none⟩,⟨0,some 60,(.callf false (.c (.fn (.func 45) [] [])) [.c (.int .i64 0),.t 59,(.c
 (.int .i64 100))] []),none⟩,⟨0,some 61,.not (.t 60),none⟩]) (.cond (.t 61) (.seq (.reg [] false [⟨0,some 2,.mv (.c (.int .i64 2)),none⟩])
 .ret) .skip))))) (.reg [] false [⟨0,some 62,.bin .add (.t 45) (.c (.int .i64 1)),none⟩,⟨0,some 45,.mv (.t 62),none⟩])))))
def wM:XCode :=
 (.loop [1,69,70,71] (.seq (.reg [] false [⟨0,some 72,.bin .lss (.t 71) (.t 70),none⟩]) (.seq (.cond (.t 72) .skip (.exit 5)) (.seq (.block 6 (.seq
 (.reg [] false [⟨0,some 73,.idx 1 (.t 69) (.t 71),none⟩,⟨0,some 74,.load false 1 (.t 73),none⟩,⟨0,some 10,.mv (.t 74),none⟩]) (.seq
 (.reg [(10,false)] false [⟨0,some 75,.mv (.t 10),none⟩,⟨0,some 76,.fld 0 (.t 1),none⟩,⟨0,some 77,.load false 1 (.t 76),none⟩,⟨0,
 (some 78),.bin .shl (.c (.int .i64 1)) (.t 77),none⟩,⟨0,some 79,.bin .sub (.t 78) (.c (.int .i64 1)),none⟩,⟨0,some 80,(.callf false (.c
 (.fn (.func 45) [] [])) [.c (.int .i64 0),.t 75,.t 79] []),none⟩,⟨0,some 81,.not (.t 80),none⟩]) (.cond (.t 81) (.seq (.reg [] false [⟨0,
 (some 2),.mv (.c (.int .i64 2)),none⟩]) .ret) .skip)))) (.reg [] false [⟨0,some 82,.bin .add (.t 71) (.c (.int .i64 1)),none⟩,⟨0,some 71,
 (.mv (.t 82)),none⟩])))))
def x23:XFn:=⟨83,[(2,none)],false,false,
 (.seq (.reg [] false [⟨0,some 1,.box (.t 0),none⟩,⟨0,some 2,.mv (.c (.int .i64 0)),none⟩]) (.seq (.block 0 (.seq (.reg [(1,true)] false [⟨0,
 (some 12),.fld 0 (.t 1),none⟩,⟨0,some 13,.load false 1 (.t 12),none⟩,⟨0,some 14,(.callf false (.c (.fn (.func 45) [] [])) [.c (.int .i64
 1),.t 13,.c (.int .i64 16)] []),none⟩,⟨0,some 15,.not (.t 14),none⟩,⟨0,some 11,.mv (.t 15),none⟩]) (.cond (.t 11) (.seq (.reg []
 false [⟨0,some 2,.mv (.c (.int .i64 2)),none⟩]) .ret) (.seq (.reg [] false [⟨0,some 17,.fld 1 (.t 1),none⟩,⟨0,some 18,.load false 1 (.t
 17),none⟩,⟨0,some 19,.len false (.t 18),none⟩,⟨0,some 20,.bin .gtr (.t 19) (.c (.int .i64 60)),none⟩,⟨0,some 16,.mv (.t 20),
 none⟩]) (.cond (.t 16) (.seq (.reg [] false [⟨0,some 2,.mv (.c (.int .i64 1)),none⟩]) .ret) .skip))))) (.seq (.seq (.reg [] false [⟨0,some 21,
 (.fld 1 (.t 1)),none⟩,⟨0,some 22,.load false 1 (.t 21),none⟩,⟨0,some 23,.len false (.t 22),none⟩,⟨0,some 24,.mv (.c (.int .i64 0)),
 none⟩]) (.block 1 qY)) (.seq (.seq (.reg [] false [⟨0,some 38,.fld 2 (.t 1),none⟩,⟨0,some 39,.load false 1 (.t 38),none⟩,⟨0,some 40,
 (.len false (.t 39)),none⟩,⟨0,some 41,.bin .gtr (.t 40) (.c (.int .i64 20)),none⟩]) (.cond (.t 41) (.seq (.reg [] false [⟨0,some 2,.mv (.c
 (.int .i64 1)),none⟩]) .ret) .skip)) (.seq (.seq (.reg [] false [⟨0,some 42,.fld 2 (.t 1),none⟩,⟨0,some 43,.load false 1 (.t 42),none⟩,⟨0,
 (some 44),.len false (.t 43),none⟩,⟨0,some 45,.mv (.c (.int .i64 0)),none⟩]) (.block 3 pP)) (.seq (.seq (.reg [(1,true)] false [⟨0,(some
 63),.fld 3 (.t 1),none⟩,⟨0,some 64,.load false 1 (.t 63),none⟩,⟨0,some 65,.fld 4 (.t 1),none⟩,⟨0,some 66,.load false 1 (.t 65),
 none⟩,⟨0,some 67,.fld 5 (.t 1),none⟩,⟨0,some 68,.load false 1 (.t 67),none⟩,⟨0,some 69,(.bslice 1 3 [.int .i64 0] [(0,(1,(.t 64))),
 (1,(1,(.t 66))),(2,(1,(.t 68)))]),none⟩,⟨0,some 70,.len false (.t 69),none⟩,⟨0,some 71,.mv (.c (.int .i64 0)),none⟩]) (.block 5
 wM)) (.seq (.reg [] false [⟨0,some 2,.mv (.c (.int .i64 0)),none⟩]) .ret))))))),none⟩
theorem aRL:cW prog 23 x23.fn:=⟨fun vs w=>call23 vs w,_,_,func23,rfl,rfl,by kernel_rfl,by kernel_rfl⟩
theorem aQG:iA x23=true:=by kernel_rfl
theorem aPz:aQ x23 x23.body:=(aB rfl)

def x25:XFn:=⟨28,[(6,none),(7,none)],false,false,
 (.seq (.reg [] false [⟨0,some 3,.box (.t 0),none⟩,⟨0,some 6,.mv (.c .nilsl),none⟩,⟨0,some 7,.mv (.c (.int .i64 0)),none⟩]) (.seq (.reg
 [(3,true),(1,false)] false [⟨0,some 11,.load true 6 (.t 3),none⟩,⟨0,some 12,.mv (.t 1),none⟩,⟨0,some 13,(.callf false (.c (.fn (.func
 54) [] [])) [.t 11,.t 12] []),none⟩,⟨0,some 10,.mv (.t 13),none⟩,⟨0,some 14,.ext (.t 10) 0,none⟩,⟨0,some 15,.ext (.t 10) 1,
 none⟩,⟨0,some 8,.mv (.t 14),none⟩,⟨0,some 9,.mv (.t 15),none⟩]) (.seq (.block 0 (.seq (.reg [] false [⟨0,some 17,.mv (.t 9),none⟩,
 ⟨0,some 18,.bin .neq (.t 17) (.c (.int .i64 0)),none⟩,⟨0,some 16,.mv (.t 18),none⟩]) (.cond (.t 16) (.seq (.reg [] false [⟨0,some 19,(.mv
 (.t 9)),none⟩,⟨0,some 6,.mv (.c .nilsl),none⟩,⟨0,some 7,.mv (.t 19),none⟩]) .ret) (.seq (.reg [(2,false)] false [⟨0,some 21,.mv (.t
 2),none⟩,⟨0,some 22,(.callf false (.c (.fn (.func 45) [] [])) [.c (.int .i64 0),.t 21,.c (.int .i64 100)] []),none⟩,⟨0,some 23,(.not
 (.t 22)),none⟩,⟨0,some 20,.mv (.t 23),none⟩]) (.cond (.t 20) (.seq (.reg [] false [⟨0,some 6,.mv (.c .nilsl),none⟩,⟨0,some 7,.mv (.c
 (.int .i64 2)),none⟩]) .ret) .skip))))) (.seq (.reg [(3,true),(8,false),(2,false)] false [⟨0,some 24,.load true 6 (.t 3),none⟩,⟨0,some 25,
 (.mv (.t 8)),none⟩,⟨0,some 26,.mv (.t 2),none⟩,⟨0,some 27,(.callf false (.c (.fn (.func 46) [] [])) [.t 24,.t 25,.t 26] []),none⟩,
 ⟨0,some 6,.mv (.t 27),none⟩,⟨0,some 7,.mv (.c (.int .i64 0)),none⟩]) .ret)))),none⟩
theorem aRK:cW prog 25 x25.fn:=⟨fun vs w=>call25 vs w,_,_,func25,rfl,rfl,by kernel_rfl,by kernel_rfl⟩
theorem aQF:iA x25=true:=by kernel_rfl
theorem aPy:aQ x25 x25.body:=(aB rfl)

def x27:XFn:=⟨29,[(4,none)],false,false,
 (.seq (.reg [] false [⟨0,some 2,.box (.t 0),none⟩,⟨0,some 4,.mv (.c (.int .i64 0)),none⟩]) (.seq (.reg [(2,true),(1,false)] false [⟨0,(some
 9),.load true 6 (.t 2),none⟩,⟨0,some 10,.mv (.t 1),none⟩,⟨0,some 11,(.callf false (.c (.fn (.func 54) [] [])) [.t 9,.t 10] []),none⟩,
 ⟨0,some 8,.mv (.t 11),none⟩,⟨0,some 12,.ext (.t 8) 0,none⟩,⟨0,some 13,.ext (.t 8) 1,none⟩,⟨0,some 5,.mv (.t 12),none⟩,⟨0,
 (some 6),.mv (.t 13),none⟩]) (.seq (.seq (.reg [] false [⟨0,some 14,.mv (.t 6),none⟩,⟨0,some 15,.bin .neq (.t 14) (.c (.int .i64 0)),
 none⟩]) (.cond (.t 15) (.seq (.reg [] false [⟨0,some 16,.mv (.t 6),none⟩,⟨0,some 4,.mv (.t 16),none⟩]) .ret) .skip)) (.seq (.reg [(2,true)]
 false [⟨0,some 18,.load true 6 (.t 2),none⟩,⟨0,some 19,(.callf false (.c (.fn (.func 56) [] [])) [.t 18] []),none⟩,⟨0,some 17,.mv (.t
 19),none⟩,⟨0,some 20,.ext (.t 17) 0,none⟩,⟨0,some 21,.ext (.t 17) 1,none⟩,⟨0,some 7,.mv (.t 20),none⟩,⟨0,some 6,.mv (.t
 21),none⟩]) (.seq (.seq (.reg [] false [⟨0,some 22,.mv (.t 6),none⟩,⟨0,some 23,.bin .neq (.t 22) (.c (.int .i64 0)),none⟩]) (.cond (.t 23)
 (.seq (.reg [] false [⟨0,some 24,.mv (.t 6),none⟩,⟨0,some 4,.mv (.t 24),none⟩]) .ret) .skip)) (.seq (.seq (.reg [(7,false),(5,false)]
 false [⟨0,some 25,.mv (.t 7),none⟩,⟨0,some 26,.mv (.t 5),none⟩,⟨0,some 27,(.callf false (.c (.fn (.func 57) [] [])) [.t 25,.t 26]
 []),none⟩,⟨0,some 28,.not (.t 27),none⟩]) (.cond (.t 28) (.seq (.reg [] false [⟨0,some 4,.mv (.c (.int .i64 11)),none⟩]) .ret) .skip)) (.seq
 (.reg [] false [⟨0,some 4,.mv (.c (.int .i64 0)),none⟩]) .ret))))))),none⟩
theorem aRJ:cW prog 27 x27.fn:=⟨fun vs w=>call27 vs w,_,_,func27,rfl,rfl,by kernel_rfl,by kernel_rfl⟩
theorem aQE:iA x27=true:=by kernel_rfl
theorem aPx:aQ x27 x27.body:=(aB rfl)

def nF:XCode :=
 (.loop [1,4,5,7,19,20] (.seq (.reg [] false [⟨0,some 21,.bin .lss (.t 20) (.t 19),none⟩]) (.seq (.cond (.t 21) .skip (.exit 0)) (.seq (.block 1
 (.seq (.reg [] false [⟨0,some 22,.mv (.t 20),none⟩,⟨0,some 8,.mv (.t 22),none⟩]) (.seq (.block 2 (.seq (.reg [] false [⟨0,some 24,(.mv
 (.t 5)),none⟩,⟨0,some 25,.bin .eql (.t 24) (.c (.int .i64 0)),none⟩,⟨0,some 23,.mv (.t 25),none⟩]) (.cond (.t 23) (.exit 0) (.seq (.reg
 [(1,true),(4,false)] false [⟨0,some 27,.fld 5 (.t 1),none⟩,⟨0,some 28,.load false 1 (.t 27),none⟩,⟨0,some 29,.mv (.t 8),none⟩,⟨0,
 (some 30),(.callf false (.c (.fn (.func 60) [] [])) [.t 28,.t 29] []),none⟩,⟨0,some 31,.mv (.t 30),none⟩,⟨0,some 32,.mv (.t 4),(some
 (31,false))⟩,⟨0,some 33,.mv (.t 7),some (31,false)⟩,⟨0,some 34,.mv (.t 8),some (31,false)⟩,⟨0,some 35,(.callf false (.c (.fn
 (.func 62) [] [])) [.t 34] []),some (31,false)⟩,⟨0,some 36,.bin .or (.t 33) (.t 35),some (31,false)⟩,⟨0,some 37,(.callf false (.c (.fn
 (.func 61) [] [])) [.t 32,.t 36] []),some (31,false)⟩,⟨0,some 38,.mv (.t 5),some (31,false)⟩,⟨0,some 39,.bin .geq (.t 37) (.t
 38),some (31,false)⟩,⟨0,some 40,.pick (.t 31) (.c (.bool true)) (.t 39),none⟩,⟨0,some 26,.mv (.t 40),none⟩]) (.cond (.t 26) (.exit 1)
 .skip))))) (.seq (.reg [] false [⟨0,some 41,.mv (.t 7),none⟩,⟨0,some 42,.mv (.t 8),none⟩,⟨0,some 43,(.callf false (.c (.fn (.func 62) []
 [])) [.t 42] []),none⟩,⟨0,some 44,.bin .or (.t 41) (.t 43),none⟩,⟨0,some 7,.mv (.t 44),none⟩]) (.reg [] false [⟨0,some 45,.mv (.t
 5),none⟩,⟨0,some 46,.bin .sub (.t 45) (.c (.int .i64 1)),none⟩,⟨0,some 5,.mv (.t 46),none⟩]))))) (.reg [] false [⟨0,some 47,(.bin .add
 (.t 20) (.c (.int .i64 1))),none⟩,⟨0,some 20,.mv (.t 47),none⟩])))))
def x29:XFn:=⟨50,[(2,none),(3,none)],false,false,
 (.seq (.reg [] false [⟨0,some 1,.box (.t 0),none⟩,⟨0,some 2,.mv (.c .nilsl),none⟩,⟨0,some 3,.mv (.c (.int .i64 0)),none⟩]) (.scope
 (.seq (.reg [(1,true)] false [⟨0,some 10,.load true 6 (.t 1),none⟩,⟨0,some 11,(.callf false (.c (.fn (.func 59) [] [])) [.t 10] []),none⟩,
 ⟨0,some 9,.mv (.t 11),none⟩,⟨0,some 12,.ext (.t 9) 0,none⟩,⟨0,some 13,.ext (.t 9) 1,none⟩,⟨0,some 14,.ext (.t 9) 2,none⟩,⟨0,
 (some 4),.mv (.t 12),none⟩,⟨0,some 5,.mv (.t 13),none⟩,⟨0,some 6,.mv (.t 14),none⟩]) (.seq (.seq (.reg [] false [⟨0,some 15,.mv (.t
 6),none⟩,⟨0,some 16,.bin .neq (.t 15) (.c (.int .i64 0)),none⟩]) (.cond (.t 16) (.seq (.reg [] false [⟨0,some 17,.mv (.t 6),none⟩,⟨0,
 (some 2),.mv (.c .nilsl),none⟩,⟨0,some 3,.mv (.t 17),none⟩]) .ret) .skip)) (.seq (.reg [] false [⟨0,some 7,.mv (.c (.int .i64 0)),none⟩])
 (.seq .skip (.seq (.seq (.reg [] false [⟨0,some 18,.fld 0 (.t 1),none⟩,⟨0,some 19,.load false 1 (.t 18),none⟩,⟨0,some 20,.mv (.c (.int
 .i64 0)),none⟩]) (.block 0 nF)) (.seq (.reg [] false [⟨0,some 48,.mv (.t 7),none⟩,⟨0,some 49,(.callf false (.c (.fn (.func 63) [] [])) [(.t
 48)] []),none⟩,⟨0,some 2,.mv (.t 49),none⟩,⟨0,some 3,.mv (.c (.int .i64 0)),none⟩]) .ret)))))))),none⟩
theorem aRI:cW prog 29 x29.fn:=⟨fun vs w=>call29 vs w,_,_,func29,rfl,rfl,by kernel_rfl,by kernel_rfl⟩
theorem aQD:iA x29=true:=by kernel_rfl
theorem aPw:aQ x29 x29.body:=(aB rfl)

def nE:XCode :=
 (.loop [1,5,7,23,24] (.seq (.reg [] false [⟨0,some 25,.bin .lss (.t 24) (.t 23),none⟩]) (.seq (.cond (.t 25) .skip (.exit 0)) (.seq (.block 1 (.seq
 (.reg [] false [⟨0,some 26,.mv (.t 24),none⟩,⟨0,some 8,.mv (.t 26),none⟩]) (.seq (.seq (.reg [(1,true)] false [⟨0,some 27,.fld 5 (.t
 1),none⟩,⟨0,some 28,.load false 1 (.t 27),none⟩,⟨0,some 29,.mv (.t 8),none⟩,⟨0,some 30,(.callf false (.c (.fn (.func 60) [] [])) [(.t
 28),.t 29] []),none⟩]) (.cond (.t 30) (.exit 1) .skip)) (.seq (.reg [] false [⟨0,some 31,.load true 6 (.t 1),none⟩,⟨0,some 9,(.alloc [(.int
 .i64 0),.nilsl,.nilsl,.int .i64 0,.int .i64 0,.int .i64 0]),none⟩,⟨0,none,(.store 6 (.t 9) (.t 31) []),none⟩]) (.seq (.reg [] true [⟨0,
 (some 32),.fld 5 (.t 9),none⟩,⟨1,some 33,.load false 1 (.t 32),none⟩,⟨2,some 34,.mv (.t 8),none⟩,⟨3,some 35,(.callf false (.c (.fn
 (.func 62) [] [])) [.t 34] [1]),none⟩,⟨4,some 36,.bin .or (.t 33) (.t 35),none⟩,⟨5,some 37,.fld 5 (.t 9),none⟩,⟨6,none,(.store 1 (.t
 37) (.t 36) []),none⟩]) (.seq (.reg [(9,true)] false [⟨0,some 39,.load true 6 (.t 9),none⟩,⟨0,some 40,(.callf false (.c (.fn (.func 59) []
 [])) [.t 39] []),none⟩,⟨0,some 38,.mv (.t 40),none⟩,⟨0,some 41,.ext (.t 38) 0,none⟩,⟨0,some 42,.ext (.t 38) 1,none⟩,⟨0,(some
 43),.ext (.t 38) 2,none⟩,⟨0,some 10,.mv (.t 41),none⟩,⟨0,some 11,.mv (.t 42),none⟩,⟨0,some 12,.mv (.t 43),none⟩]) (.seq (.reg []
 false [⟨0,some 44,.mv (.t 12),none⟩,⟨0,some 45,.bin .neq (.t 44) (.c (.int .i64 0)),none⟩,⟨0,some 46,.mv (.t 45),none⟩,⟨0,(some
 47),.mv (.t 11),some (46,false)⟩,⟨0,some 48,.mv (.t 5),some (46,false)⟩,⟨0,some 49,.bin .gtr (.t 47) (.t 48),some (46,false)⟩,
 ⟨0,some 50,.pick (.t 46) (.c (.bool true)) (.t 49),none⟩]) (.cond (.t 50) (.reg [] false [⟨0,some 51,.mv (.t 7),none⟩,⟨0,some 52,.mv (.t
 8),none⟩,⟨0,some 53,(.bslice 1 1 [.int .i64 0] [(0,(1,(.t 52)))]),none⟩,⟨0,some 54,.app 1 8 (.t 51) (.t 53),none⟩,⟨0,some 7,(.mv
 (.t 54)),none⟩]) .skip)))))))) (.reg [] false [⟨0,some 55,.bin .add (.t 24) (.c (.int .i64 1)),none⟩,⟨0,some 24,.mv (.t 55),none⟩])))))
def x31:XFn:=⟨57,[(2,none),(3,none)],false,false,
 (.seq (.reg [] false [⟨0,some 1,.box (.t 0),none⟩,⟨0,some 2,.mv (.c .nilsl),none⟩,⟨0,some 3,.mv (.c (.int .i64 0)),none⟩]) (.seq (.reg
 [(1,true)] false [⟨0,some 14,.load true 6 (.t 1),none⟩,⟨0,some 15,(.callf false (.c (.fn (.func 59) [] [])) [.t 14] []),none⟩,⟨0,(some
 13),.mv (.t 15),none⟩,⟨0,some 16,.ext (.t 13) 0,none⟩,⟨0,some 17,.ext (.t 13) 1,none⟩,⟨0,some 18,.ext (.t 13) 2,none⟩,⟨0,(some
 4),.mv (.t 16),none⟩,⟨0,some 5,.mv (.t 17),none⟩,⟨0,some 6,.mv (.t 18),none⟩]) (.seq (.seq (.reg [] false [⟨0,some 19,.mv (.t 6),
 none⟩,⟨0,some 20,.bin .neq (.t 19) (.c (.int .i64 0)),none⟩]) (.cond (.t 20) (.seq (.reg [] false [⟨0,some 21,.mv (.t 6),none⟩,⟨0,some 2,
 (.mv (.c .nilsl)),none⟩,⟨0,some 3,.mv (.t 21),none⟩]) .ret) .skip)) (.seq (.reg [] false [⟨0,some 7,.mv (.c .nilsl),none⟩]) (.seq (.seq
 (.reg [] false [⟨0,some 22,.fld 0 (.t 1),none⟩,⟨0,some 23,.load false 1 (.t 22),none⟩,⟨0,some 24,.mv (.c (.int .i64 0)),none⟩])
 (.block 0 nE)) (.seq (.reg [] false [⟨0,some 56,.mv (.t 7),none⟩,⟨0,some 2,.mv (.t 56),none⟩,⟨0,some 3,.mv (.c (.int .i64 0)),
 none⟩]) .ret)))))),none⟩
theorem aRH:cW prog 31 x31.fn:=⟨fun vs w=>call31 vs w,_,_,func31,rfl,rfl,by kernel_rfl,by kernel_rfl⟩
theorem aQC:iA x31=true:=by kernel_rfl
theorem aPv:aQ x31 x31.body:=(aB rfl)

def jN:XCode :=
 (.loop [7,9,10,11,29,30] (.seq (.seq (.reg [] false [⟨0,some 32,.mv (.t 11),none⟩,⟨0,some 33,.bin .neq (.t 32) (.c (.int .i64 33)),none⟩])
 (.cond (.t 33) .skip (.exit 2))) (.block 3 (.seq (.reg [] false [⟨0,some 34,.mv (.t 7),none⟩,⟨0,some 35,.mv (.t 11),none⟩,⟨0,some 36,
 (.nilck (.t 34)),none⟩,⟨0,some 37,.fld 1 (.t 36),none⟩,⟨0,some 38,.idxa 34 34 (.t 37) (.t 35),none⟩,⟨0,some 39,(.slarr 34 1 (.t 38)
 none none),none⟩,⟨0,some 40,(.callf false (.c (.fn (.func 66) [] [])) [.t 39,.c (.fn (.func 67) [] [])] []),none⟩,⟨0,some 12,.mv (.t 40),
 none⟩]) (.seq (.reg [] true [⟨0,some 41,.mv (.t 7),none⟩,⟨1,some 42,.mv (.t 11),none⟩,⟨2,some 43,.mv (.t 12),none⟩,⟨3,some 44,
 (.nilck (.t 41)),none⟩,⟨4,some 45,.fld 1 (.t 44),none⟩,⟨5,some 46,.idxa 34 34 (.t 45) (.t 42),none⟩,⟨6,some 47,.idxa 34 1 (.t 46) (.t
 43),none⟩,⟨7,some 48,.load false 1 (.t 47),none⟩,⟨8,some 49,.bin .sub (.t 48) (.c (.int .i64 1)),none⟩,⟨9,some 50,.nilck (.t 41),
 none⟩,⟨10,some 51,.fld 1 (.t 50),none⟩,⟨11,some 52,.idxa 34 34 (.t 51) (.t 42),none⟩,⟨12,some 53,.idxa 34 1 (.t 52) (.t 43),none⟩,
 ⟨13,none,(.store 1 (.t 53) (.t 49) []),none⟩]) (.seq (.reg [] false [⟨0,some 54,.mv (.t 12),none⟩,⟨0,some 11,.mv (.t 54),none⟩]) (.seq
 (.reg [] false [⟨0,some 55,.mv (.t 11),none⟩,⟨0,some 56,.bin .quo (.t 55) (.c (.int .i64 2)),none⟩,⟨0,some 13,.mv (.t 56),none⟩])
 (.seq (.reg [] false [⟨0,some 57,.mv (.t 11),none⟩,⟨0,some 58,.bin .lss (.t 57) (.c (.int .i64 32)),none⟩,⟨0,some 59,.mv (.t 58),
 none⟩,⟨0,some 60,.mv (.t 11),some (59,true)⟩,⟨0,some 61,.bin .rem (.t 60) (.c (.int .i64 2)),some (59,true)⟩,⟨0,some 62,(.bin
 .eql (.t 61) (.c (.int .i64 0))),some (59,true)⟩,⟨0,some 63,.pick (.t 59) (.t 62) (.c (.bool false)),none⟩]) (.cond (.t 63) (.seq (.seq (.reg []
 false [⟨0,some 64,.mv (.t 10),none⟩,⟨0,some 65,.mv (.t 13),none⟩,⟨0,some 66,(.callf false (.c (.fn (.func 68) [] [])) [.t 64,.t 65]
 []),none⟩,⟨0,some 14,.mv (.t 66),none⟩]) (.seq (.reg [] false [⟨0,some 67,.mv (.t 14),none⟩,⟨0,some 68,.bin .geq (.t 67) (.c (.int
 .i64 0)),none⟩]) (.cond (.t 68) (.reg [] false [⟨0,some 69,.mv (.t 10),none⟩,⟨0,some 70,.mv (.t 14),none⟩,⟨0,some 71,(.slsl 1 (.t 69)
 none (some (.t 70))),none⟩,⟨0,some 10,.mv (.t 71),none⟩]) .skip))) (.reg [(1000010,false)] false [⟨0,some 72,.mv (.t 10),none⟩,⟨0,(some
 73),.mv (.t 13),none⟩,⟨0,some 74,(.bslice 1 1 [.int .i64 0] [(0,(1,(.t 73)))]),none⟩,⟨0,some 75,.app 1 8 (.t 72) (.t 74),none⟩,⟨0,
 (some 10),.mv (.t 75),none⟩])) .skip)))))))))
def zQ:XCode :=
 (.loop [7,9,29,30] (.seq (.reg [] false [⟨0,some 31,.bin .lss (.t 30) (.t 29),none⟩]) (.seq (.cond (.t 31) .skip (.exit 0)) (.seq (.block 1 (.seq
 (.reg [] false [⟨0,some 10,.mv (.c .nilsl),none⟩]) (.seq (.seq (.reg [] false [⟨0,some 11,.mv (.c (.int .i64 32)),none⟩]) (.block 2 jN))
 (.reg [(10,false)] false [⟨0,some 76,.mv (.t 9),none⟩,⟨0,some 77,.mv (.t 10),none⟩,⟨0,some 78,(.bslice 1 1 [.nilsl] [(0,(1,(.t
 77)))]),none⟩,⟨0,some 79,.app 1 24 (.t 76) (.t 78),none⟩,⟨0,some 9,.mv (.t 79),none⟩])))) (.reg [] false [⟨0,some 80,(.bin .add (.t 30)
 (.c (.int .i64 1))),none⟩,⟨0,some 30,.mv (.t 80),none⟩])))))
def x33:XFn:=⟨82,[(2,none),(3,none)],false,false,
 (.seq (.reg [] false [⟨0,some 1,.box (.t 0),none⟩,⟨0,some 2,.mv (.c .nilsl),none⟩,⟨0,some 3,.mv (.c (.int .i64 0)),none⟩]) (.seq (.reg
 [(1,true)] false [⟨0,some 16,.load true 6 (.t 1),none⟩,⟨0,some 17,(.callf false (.c (.fn (.func 59) [] [])) [.t 16] []),none⟩,⟨0,(some
 15),.mv (.t 17),none⟩,⟨0,some 18,.ext (.t 15) 0,none⟩,⟨0,some 19,.ext (.t 15) 1,none⟩,⟨0,some 20,.ext (.t 15) 2,none⟩,⟨0,(some
 4),.mv (.t 18),none⟩,⟨0,some 5,.mv (.t 19),none⟩,⟨0,some 6,.mv (.t 20),none⟩]) (.seq (.seq (.reg [] false [⟨0,some 21,.mv (.t 6),
 none⟩,⟨0,some 22,.bin .neq (.t 21) (.c (.int .i64 0)),none⟩]) (.cond (.t 22) (.seq (.reg [] false [⟨0,some 23,.mv (.t 6),none⟩,⟨0,some 2,
 (.mv (.c .nilsl)),none⟩,⟨0,some 3,.mv (.t 23),none⟩]) .ret) .skip)) (.seq (.reg [(4,false)] false [⟨0,some 25,.mv (.t 4),none⟩,⟨0,(some
 26),(.callf false (.c (.fn (.func 65) [] [])) [.t 25] []),none⟩,⟨0,some 24,.mv (.t 26),none⟩,⟨0,some 27,.ext (.t 24) 0,none⟩,⟨0,(some
 28),.ext (.t 24) 1,none⟩,⟨0,some 7,.mv (.t 27),none⟩,⟨0,some 8,.mv (.t 28),none⟩]) (.seq (.reg [] false [⟨0,some 9,.mv (.c
 .nilsl),none⟩]) (.seq (.seq (.reg [] false [⟨0,some 29,.mv (.t 5),none⟩,⟨0,some 30,.mv (.c (.int .i64 0)),none⟩]) (.block 0 zQ)) (.seq
 (.reg [] false [⟨0,some 81,.mv (.t 9),none⟩,⟨0,some 2,.mv (.t 81),none⟩,⟨0,some 3,.mv (.c (.int .i64 0)),none⟩]) .ret))))))),none⟩
theorem aRG:cW prog 33 x33.fn:=⟨fun vs w=>call33 vs w,_,_,func33,rfl,rfl,by kernel_rfl,by kernel_rfl⟩
theorem aQB:iA x33=true:=by kernel_rfl
theorem aPu:aQ x33 x33.body:=(aB rfl)

def lJ:XCode :=
 (.loop [2,5,7,9,27,28,29,46,47,48] (.seq (.reg [] false [⟨0,some 49,.bin .lss (.t 48) (.t 47),none⟩]) (.seq (.cond (.t 49) .skip (.exit 4))
 (.seq (.block 5 (.seq (.reg [] false [⟨0,some 50,.idx 1 (.t 46) (.t 48),none⟩,⟨0,some 51,.load false 1 (.t 50),none⟩,⟨0,some 11,.mv (.t
 51),none⟩]) (.seq (.reg [(11,false),(2,true)] false [⟨0,some 52,.mv (.t 7),none⟩,⟨0,some 53,.mv (.t 11),none⟩,⟨0,some 54,(.callf
 false (.c (.fn (.func 60) [] [])) [.t 52,.t 53] []),none⟩,⟨0,some 55,.mv (.t 54),none⟩,⟨0,some 56,.fld 5 (.t 2),some (55,true)⟩,
 ⟨0,some 57,.load false 1 (.t 56),some (55,true)⟩,⟨0,some 58,.mv (.t 11),some (55,true)⟩,⟨0,some 59,(.callf false (.c (.fn (.func
 60) [] [])) [.t 57,.t 58] []),some (55,true)⟩,⟨0,some 60,.not (.t 59),some (55,true)⟩,⟨0,some 61,.pick (.t 55) (.t 60) (.c (.bool
 false)),none⟩]) (.cond (.t 61) (.seq (.reg [] false [⟨0,some 4,.mv (.c (.int .i64 6)),none⟩]) .ret) .skip)))) (.reg [] false [⟨0,some 62,(.bin
 .add (.t 48) (.c (.int .i64 1))),none⟩,⟨0,some 48,.mv (.t 62),none⟩])))))
def aEf:XCode :=
 (.loop [2,5,7,27,28,29,63,64,65] (.seq (.reg [] false [⟨0,some 66,.bin .lss (.t 65) (.t 64),none⟩]) (.seq (.cond (.t 66) .skip (.exit 6)) (.seq
 (.block 7 (.seq (.reg [] false [⟨0,some 67,.idx 1 (.t 63) (.t 65),none⟩,⟨0,some 68,.load false 1 (.t 67),none⟩,⟨0,some 13,.mv (.t 68),
 none⟩]) (.reg [(13,false)] false [⟨0,some 69,.mv (.t 7),none⟩,⟨0,some 70,.mv (.t 13),none⟩,⟨0,some 71,(.callf false (.c (.fn (.func 62)
 [] [])) [.t 70] []),none⟩,⟨0,some 72,.bin .or (.t 69) (.t 71),none⟩,⟨0,some 7,.mv (.t 72),none⟩]))) (.reg [] false [⟨0,some 73,(.bin
 .add (.t 65) (.c (.int .i64 1))),none⟩,⟨0,some 65,.mv (.t 73),none⟩])))))
def jB:XCode :=
 (.loop [2,5,7,27,28,29] (.seq (.reg [] false [⟨0,some 30,.bin .lss (.t 29) (.t 28),none⟩]) (.seq (.cond (.t 30) .skip (.exit 1)) (.seq (.block 2
 (.seq (.reg [] false [⟨0,some 31,.idx 1 (.t 27) (.t 29),none⟩,⟨0,some 32,.load false 1 (.t 31),none⟩,⟨0,some 9,.mv (.t 32),none⟩])
 (.seq (.block 3 (.seq (.reg [] false [⟨0,some 34,.mv (.t 9),none⟩,⟨0,some 35,.len false (.t 34),none⟩,⟨0,some 36,.bin .eql (.t 35) (.c
 (.int .i64 0)),none⟩,⟨0,some 33,.mv (.t 36),none⟩]) (.cond (.t 33) (.seq (.reg [] false [⟨0,some 4,.mv (.c (.int .i64 4)),none⟩]) .ret)
 (.seq (.reg [(9,false)] false [⟨0,some 38,.mv (.t 9),none⟩,⟨0,some 39,(.mkf (.func 71) [] [.t 2]),none⟩,⟨0,some 40,(.callf false (.c
 (.fn (.func 70) [] [])) [.t 38,.t 39] []),none⟩,⟨0,some 37,.mv (.t 40),none⟩]) (.cond (.t 37) (.seq (.reg [] false [⟨0,some 4,.mv (.c
 (.int .i64 5)),none⟩]) .ret) (.seq (.reg [(5,false),(9,false)] false [⟨0,some 42,.mv (.t 5),none⟩,⟨0,some 43,.mv (.t 9),none⟩,⟨0,(some
 44),(.callf false (.c (.fn (.func 72) [] [])) [.t 42,.t 43] []),none⟩,⟨0,some 45,.not (.t 44),none⟩,⟨0,some 41,.mv (.t 45),none⟩])
 (.cond (.t 41) (.seq (.reg [] false [⟨0,some 4,.mv (.c (.int .i64 21)),none⟩]) .ret) .skip))))))) (.seq (.seq (.reg [] false [⟨0,some 46,.mv (.t
 9),none⟩,⟨0,some 47,.len false (.t 46),none⟩,⟨0,some 48,.mv (.c (.int .i64 0)),none⟩]) (.block 4 lJ)) (.seq (.reg [] false [⟨0,(some
 63),.mv (.t 9),none⟩,⟨0,some 64,.len false (.t 63),none⟩,⟨0,some 65,.mv (.c (.int .i64 0)),none⟩]) (.block 6 aEf)))))) (.reg [] false
 [⟨0,some 74,.bin .add (.t 29) (.c (.int .i64 1)),none⟩,⟨0,some 29,.mv (.t 74),none⟩])))))
def x35:XFn:=⟨75,[(4,none)],false,false,
 (.seq (.reg [] false [⟨0,some 2,.box (.t 0),none⟩,⟨0,some 4,.mv (.c (.int .i64 0)),none⟩]) (.seq (.reg [(2,true)] false [⟨0,some 15,(.load
 true 6 (.t 2)),none⟩,⟨0,some 16,(.callf false (.c (.fn (.func 56) [] [])) [.t 15] []),none⟩,⟨0,some 14,.mv (.t 16),none⟩,⟨0,some 17,
 (.ext (.t 14) 0),none⟩,⟨0,some 18,.ext (.t 14) 1,none⟩,⟨0,some 5,.mv (.t 17),none⟩,⟨0,some 6,.mv (.t 18),none⟩]) (.seq (.block 0
 (.seq (.reg [] false [⟨0,some 20,.mv (.t 6),none⟩,⟨0,some 21,.bin .neq (.t 20) (.c (.int .i64 0)),none⟩,⟨0,some 19,.mv (.t 21),
 none⟩]) (.cond (.t 19) (.seq (.reg [] false [⟨0,some 22,.mv (.t 6),none⟩,⟨0,some 4,.mv (.t 22),none⟩]) .ret) (.seq (.reg [] false [⟨0,(some
 24),.mv (.t 1),none⟩,⟨0,some 25,.len false (.t 24),none⟩,⟨0,some 26,.bin .gtr (.t 25) (.c (.int .i64 16)),none⟩,⟨0,some 23,.mv (.t
 26),none⟩]) (.cond (.t 23) (.seq (.reg [] false [⟨0,some 4,.mv (.c (.int .i64 1)),none⟩]) .ret) .skip))))) (.seq (.reg [] false [⟨0,some 7,(.mv
 (.c (.int .i64 0))),none⟩]) (.seq (.seq (.reg [] false [⟨0,some 27,.mv (.t 1),none⟩,⟨0,some 28,.len false (.t 27),none⟩,⟨0,some 29,(.mv
 (.c (.int .i64 0))),none⟩]) (.block 1 jB)) (.seq (.reg [] false [⟨0,some 4,.mv (.c (.int .i64 0)),none⟩]) .ret)))))),none⟩
theorem aRF:cW prog 35 x35.fn:=⟨fun vs w=>call35 vs w,_,_,func35,rfl,rfl,by kernel_rfl,by kernel_rfl⟩
theorem aQA:iA x35=true:=by kernel_rfl
theorem aPt:aQ x35 x35.body:=(aB rfl)

def aEe:XCode :=
 (.loop [1,2,3,4,5] (.seq (.seq (.reg [] false [⟨0,some 35,.mv (.t 5),none⟩,⟨0,some 36,.fld 1 (.t 1),none⟩,⟨0,some 37,(.load false 1
 (.t 36)),none⟩,⟨0,some 38,.len false (.t 37),none⟩,⟨0,some 39,.bin .lss (.t 35) (.t 38),none⟩,⟨0,some 40,.mv (.t 39),none⟩,⟨0,
 (some 41),.mv (.t 5),some (40,true)⟩,⟨0,some 42,.bin .lss (.t 41) (.c (.int .i64 12)),some (40,true)⟩,⟨0,some 43,.pick (.t 40) (.t
 42) (.c (.bool false)),none⟩]) (.cond (.t 43) .skip (.exit 0))) (.seq (.block 1 (.seq (.reg [] true [⟨0,some 46,.fld 1 (.t 1),none⟩,⟨1,some 47,
 (.load false 1 (.t 46)),none⟩,⟨2,some 48,.mv (.t 5),none⟩,⟨3,some 49,.idx 2 (.t 47) (.t 48),none⟩,⟨4,some 50,.idxa 2 1 (.t 49) (.c
 (.int .i64 0)),none⟩,⟨5,some 51,.load false 1 (.t 50),none⟩,⟨6,some 52,.conv .i64 (.t 51),none⟩,⟨7,some 53,.mv (.t 3),none⟩,⟨8,
 (some 54),.bin .rem (.t 52) (.t 53),none⟩,⟨9,some 55,.fld 1 (.t 1),none⟩,⟨10,some 56,.load false 1 (.t 55),none⟩,⟨11,some 57,(.mv
 (.t 5)),none⟩,⟨12,some 58,.idx 2 (.t 56) (.t 57),none⟩,⟨13,some 59,.idxa 2 1 (.t 58) (.c (.int .i64 1)),none⟩,⟨14,some 60,(.load false
 1 (.t 59)),none⟩,⟨15,some 61,.conv .i64 (.t 60),none⟩,⟨16,some 62,.mv (.t 3),none⟩,⟨17,some 63,.bin .rem (.t 61) (.t 62),none⟩,
 ⟨18,some 6,.mv (.t 54),none⟩,⟨19,some 7,.mv (.t 63),none⟩]) (.seq (.seq (.reg [] false [⟨0,some 64,.mv (.t 6),none⟩,⟨0,some 65,
 (.mv (.t 7)),none⟩,⟨0,some 66,.bin .eql (.t 64) (.t 65),none⟩]) (.cond (.t 66) (.reg [] false [⟨0,some 67,.mv (.t 6),none⟩,⟨0,some 68,
 (.bin .add (.t 67) (.c (.int .i64 1))),none⟩,⟨0,some 69,.mv (.t 3),none⟩,⟨0,some 70,.bin .rem (.t 68) (.t 69),none⟩,⟨0,some 7,.mv (.t
 70),none⟩]) .skip)) (.reg [] false [⟨0,some 71,.fld 1 (.t 4),none⟩,⟨0,some 72,.load false 1 (.t 71),none⟩,⟨0,some 73,.mv (.t 6),
 none⟩,⟨0,some 74,.mv (.t 7),none⟩,⟨0,some 75,(.build [.int .i64 0,.int .i64 0] [(0,(1,(.t 73))),(1,(1,(.t 74)))]),none⟩,⟨0,(some
 76),(.bslice 2 1 [.int .i64 0,.int .i64 0] [(0,(2,(.t 75)))]),none⟩,⟨0,some 77,.app 2 16 (.t 72) (.t 76),none⟩,⟨0,some 78,.fld 1 (.t
 4),none⟩,⟨0,none,(.store 1 (.t 78) (.t 77) []),none⟩])))) (.reg [] false [⟨0,some 44,.mv (.t 5),none⟩,⟨0,some 45,.bin .add (.t 44) (.c
 (.int .i64 1)),none⟩,⟨0,some 5,.mv (.t 45),none⟩]))))
def wK:XCode :=
 (.loop [1,2,3,4,8] (.seq (.seq (.reg [] false [⟨0,some 79,.mv (.t 8),none⟩,⟨0,some 80,.fld 2 (.t 1),none⟩,⟨0,some 81,(.load false 1
 (.t 80)),none⟩,⟨0,some 82,.len false (.t 81),none⟩,⟨0,some 83,.bin .lss (.t 79) (.t 82),none⟩,⟨0,some 84,.mv (.t 83),none⟩,⟨0,
 (some 85),.mv (.t 8),some (84,true)⟩,⟨0,some 86,.bin .lss (.t 85) (.c (.int .i64 5)),some (84,true)⟩,⟨0,some 87,.pick (.t 84) (.t
 86) (.c (.bool false)),none⟩]) (.cond (.t 87) .skip (.exit 2))) (.seq (.block 3 (.seq (.reg [] true [⟨0,some 90,.fld 2 (.t 1),none⟩,⟨1,some 91,
 (.load false 1 (.t 90)),none⟩,⟨2,some 92,.mv (.t 8),none⟩,⟨3,some 93,.idx 3 (.t 91) (.t 92),none⟩,⟨4,some 94,.idxa 3 1 (.t 93) (.c
 (.int .i64 0)),none⟩,⟨5,some 95,.load false 1 (.t 94),none⟩,⟨6,some 96,.conv .i64 (.t 95),none⟩,⟨7,some 97,.bin .rem (.t 96) (.c
 (.int .i64 5)),none⟩,⟨8,some 98,.fld 2 (.t 1),none⟩,⟨9,some 99,.load false 1 (.t 98),none⟩,⟨10,some 100,.mv (.t 8),none⟩,⟨11,
 (some 101),.idx 3 (.t 99) (.t 100),none⟩,⟨12,some 102,.idxa 3 1 (.t 101) (.c (.int .i64 1)),none⟩,⟨13,some 103,.load false 1 (.t 102),
 none⟩,⟨14,some 104,.conv .i64 (.t 103),none⟩,⟨15,some 105,.mv (.t 3),none⟩,⟨16,some 106,.bin .rem (.t 104) (.t 105),none⟩,⟨17,
 (some 107),.fld 2 (.t 1),none⟩,⟨18,some 108,.load false 1 (.t 107),none⟩,⟨19,some 109,.mv (.t 8),none⟩,⟨20,some 110,.idx 3 (.t
 108) (.t 109),none⟩,⟨21,some 111,.idxa 3 1 (.t 110) (.c (.int .i64 2)),none⟩,⟨22,some 112,.load false 1 (.t 111),none⟩,⟨23,some 113,
 (.conv .i64 (.t 112)),none⟩,⟨24,some 114,.mv (.t 3),none⟩,⟨25,some 115,.bin .rem (.t 113) (.t 114),none⟩,⟨26,some 116,(.build [(.int
 .i64 0),.int .i64 0,.int .i64 0] [(0,(1,(.t 97))),(1,(1,(.t 106))),(2,(1,(.t 115)))]),none⟩,⟨27,some 9,(.alloc [.int .i64 0,(.int
 .i64 0),.int .i64 0]),none⟩,⟨28,none,(.store 3 (.t 9) (.t 116) []),none⟩]) (.seq (.seq (.reg [] false [⟨0,some 117,.fld 1 (.t 9),none⟩,⟨0,
 (some 118),.load false 1 (.t 117),none⟩,⟨0,some 119,.fld 2 (.t 9),none⟩,⟨0,some 120,.load false 1 (.t 119),none⟩,⟨0,some 121,(.bin
 .eql (.t 118) (.t 120)),none⟩]) (.cond (.t 121) (.reg [] false [⟨0,some 122,.fld 1 (.t 9),none⟩,⟨0,some 123,.load false 1 (.t 122),none⟩,
 ⟨0,some 124,.bin .add (.t 123) (.c (.int .i64 1)),none⟩,⟨0,some 125,.mv (.t 3),none⟩,⟨0,some 126,.bin .rem (.t 124) (.t 125),none⟩,
 ⟨0,some 127,.fld 2 (.t 9),none⟩,⟨0,none,(.store 1 (.t 127) (.t 126) []),none⟩]) .skip)) (.reg [(9,true)] false [⟨0,some 128,.fld 2 (.t 4),
 none⟩,⟨0,some 129,.load false 1 (.t 128),none⟩,⟨0,some 130,.load true 3 (.t 9),none⟩,⟨0,some 131,(.bslice 3 1 [.int .i64 0,(.int
 .i64 0),.int .i64 0] [(0,(3,(.t 130)))]),none⟩,⟨0,some 132,.app 3 24 (.t 129) (.t 131),none⟩,⟨0,some 133,.fld 2 (.t 4),none⟩,⟨0,
 none,(.store 1 (.t 133) (.t 132) []),none⟩])))) (.reg [] false [⟨0,some 88,.mv (.t 8),none⟩,⟨0,some 89,.bin .add (.t 88) (.c (.int .i64 1)),
 none⟩,⟨0,some 8,.mv (.t 89),none⟩]))))
def x36:XFn:=⟨135,[(2,(some (true,6)))],false,false,
 (.seq (.reg [] false [⟨0,some 1,.box (.t 0),none⟩,⟨0,some 2,(.alloc [.int .i64 0,.nilsl,.nilsl,.int .i64 0,.int .i64 0,.int .i64 0]),
 none⟩]) (.seq (.reg [] false [⟨0,some 10,.fld 0 (.t 1),none⟩,⟨0,some 11,.load false 1 (.t 10),none⟩,⟨0,some 12,.conv .i64 (.t 11),
 none⟩,⟨0,some 13,.bin .rem (.t 12) (.c (.int .i64 7)),none⟩,⟨0,some 14,.bin .add (.c (.int .i64 2)) (.t 13),none⟩,⟨0,some 3,.mv (.t
 14),none⟩]) (.seq (.reg [] true [⟨0,some 15,.mv (.t 3),none⟩,⟨1,some 16,.fld 3 (.t 1),none⟩,⟨2,some 17,.load false 1 (.t 16),none⟩,
 ⟨3,some 18,.conv .i64 (.t 17),none⟩,⟨4,some 19,.mv (.t 3),none⟩,⟨5,some 20,.bin .shl (.c (.int .i64 1)) (.t 19),none⟩,⟨6,some 21,
 (.bin .rem (.t 18) (.t 20)),none⟩,⟨7,some 22,.fld 4 (.t 1),none⟩,⟨8,some 23,.load false 1 (.t 22),none⟩,⟨9,some 24,.conv .i64 (.t
 23),none⟩,⟨10,some 25,.mv (.t 3),none⟩,⟨11,some 26,.bin .shl (.c (.int .i64 1)) (.t 25),none⟩,⟨12,some 27,.bin .rem (.t 24) (.t
 26),none⟩,⟨13,some 28,.fld 5 (.t 1),none⟩,⟨14,some 29,.load false 1 (.t 28),none⟩,⟨15,some 30,.conv .i64 (.t 29),none⟩,⟨16,(some
 31),.mv (.t 3),none⟩,⟨17,some 32,.bin .shl (.c (.int .i64 1)) (.t 31),none⟩,⟨18,some 33,.bin .rem (.t 30) (.t 32),none⟩,⟨19,some 34,
 (.build [.int .i64 0,.nilsl,.nilsl,.int .i64 0,.int .i64 0,.int .i64 0] [(0,(1,(.t 15))),(3,(1,(.t 21))),(4,(1,(.t 27))),(5,(1,(.t
 33)))]),none⟩,⟨20,some 4,(.alloc [.int .i64 0,.nilsl,.nilsl,.int .i64 0,.int .i64 0,.int .i64 0]),none⟩,⟨21,none,(.store 6 (.t 4) (.t
 34) []),none⟩]) (.seq (.seq (.reg [] false [⟨0,some 5,.mv (.c (.int .i64 0)),none⟩]) (.block 0 aEe)) (.seq (.seq (.reg [] false [⟨0,some 8,
 (.mv (.c (.int .i64 0))),none⟩]) (.block 2 wK)) (.seq (.reg [] false [⟨0,some 134,.load true 6 (.t 4),none⟩,⟨0,none,(.store 6 (.t 2) (.t 134)
 []),none⟩]) .ret)))))),none⟩
theorem aRE:cW prog 36 x36.fn:=⟨fun vs w=>call36 vs w,_,_,func36,rfl,rfl,by kernel_rfl,by kernel_rfl⟩
theorem aQz:iA x36=true:=by kernel_rfl
theorem aPs:aQ x36 x36.body:=(aB rfl)

def aEd:XCode :=
 (.loop [1,2,3,4,5,6,43,44] (.seq (.reg [] false [⟨0,some 45,.bin .lss (.t 44) (.t 43),none⟩]) (.seq (.cond (.t 45) .skip (.exit 4)) (.seq
 (.block 5 (.seq (.reg [] false [⟨0,some 46,.mv (.t 44),none⟩,⟨0,some 7,.mv (.t 46),none⟩]) (.reg [] true [⟨0,some 47,.mv (.t 4),none⟩,
 ⟨1,some 48,.mv (.t 7),none⟩,⟨2,some 49,.idx 1 (.t 47) (.t 48),none⟩,⟨3,some 50,.load false 1 (.t 49),none⟩,⟨4,some 51,.mv (.t
 6),none⟩,⟨5,some 52,.mv (.t 7),none⟩,⟨6,some 53,.bin .shr (.t 51) (.t 52),none⟩,⟨7,some 54,.bin .and (.t 53) (.c (.int .i64 1)),
 none⟩,⟨8,some 55,.bin .add (.t 50) (.t 54),none⟩,⟨9,some 56,.idx 1 (.t 47) (.t 48),none⟩,⟨10,none,(.store 1 (.t 56) (.t 55) []),
 none⟩]))) (.reg [] false [⟨0,some 57,.bin .add (.t 44) (.c (.int .i64 1)),none⟩,⟨0,some 44,.mv (.t 57),none⟩])))))
def qX:XCode :=
 (.loop [1,2,3,4,5,6] (.seq (.seq (.reg [] false [⟨0,some 17,.mv (.t 6),none⟩,⟨0,some 18,.fld 0 (.t 1),none⟩,⟨0,some 19,(.load false 1
 (.t 18)),none⟩,⟨0,some 20,.bin .shl (.c (.int .i64 1)) (.t 19),none⟩,⟨0,some 21,.bin .lss (.t 17) (.t 20),none⟩]) (.cond (.t 21) .skip
 (.exit 2))) (.seq (.block 3 (.seq (.seq (.reg [(1,true)] false [⟨0,some 24,.mv (.t 6),none⟩,⟨0,some 25,(.callf false (.c (.fn (.func 42) []
 [])) [.t 24] []),none⟩,⟨0,some 26,.mv (.t 5),none⟩,⟨0,some 27,.bin .neq (.t 25) (.t 26),none⟩,⟨0,some 28,.mv (.t 27),none⟩,⟨0,
 (some 29),.mv (.t 6),some (28,false)⟩,⟨0,some 30,.fld 5 (.t 1),some (28,false)⟩,⟨0,some 31,.load false 1 (.t 30),some (28,
 false)⟩,⟨0,some 32,.bin .and (.t 29) (.t 31),some (28,false)⟩,⟨0,some 33,.bin .neq (.t 32) (.c (.int .i64 0)),some (28,false)⟩,⟨0,
 (some 34),.pick (.t 28) (.c (.bool true)) (.t 33),none⟩,⟨0,some 35,.mv (.t 34),none⟩,⟨0,some 36,.load true 6 (.t 1),some (35,false)⟩,
 ⟨0,some 37,.mv (.t 6),some (35,false)⟩,⟨0,some 38,(.callf false (.c (.fn (.func 40) [] [])) [.t 36,.t 37] []),some (35,false)⟩,⟨0,
 (some 39),.pick (.t 35) (.c (.bool true)) (.t 38),none⟩]) (.cond (.t 39) (.exit 3) .skip)) (.seq (.reg [] false [⟨0,some 40,.mv (.t 3),none⟩,⟨0,
 (some 41),.bin .add (.t 40) (.c (.int .i64 1)),none⟩,⟨0,some 3,.mv (.t 41),none⟩]) (.seq (.reg [] false [⟨0,some 42,.mv (.t 4),none⟩,⟨0,
 (some 43),.len false (.t 42),none⟩,⟨0,some 44,.mv (.c (.int .i64 0)),none⟩]) (.block 4 aEd))))) (.reg [] false [⟨0,some 22,.mv (.t 6),
 none⟩,⟨0,some 23,.bin .add (.t 22) (.c (.int .i64 1)),none⟩,⟨0,some 6,.mv (.t 23),none⟩]))))
def aBw:XCode :=
 (.loop [1,2,3,5] (.seq (.seq (.reg [] false [⟨0,some 8,.mv (.t 5),none⟩,⟨0,some 9,.fld 0 (.t 1),none⟩,⟨0,some 10,.load false 1 (.t
 9),none⟩,⟨0,some 11,.bin .leq (.t 8) (.t 10),none⟩]) (.cond (.t 11) .skip (.exit 0))) (.seq (.block 1 (.seq (.reg [] false [⟨0,some 14,(.fld 0
 (.t 1)),none⟩,⟨0,some 15,.load false 1 (.t 14),none⟩,⟨0,some 16,(.mksl 1 8 [.int .i64 0] (.t 15) (.t 15)),none⟩,⟨0,some 4,.mv (.t
 16),none⟩]) (.seq (.seq (.reg [] false [⟨0,some 6,.mv (.c (.int .i64 0)),none⟩]) (.block 2 qX)) (.seq (.reg [] false [⟨0,some 58,.mv (.t
 3),none⟩,⟨0,some 59,.bin .gtr (.t 58) (.c (.int .i64 0)),none⟩]) (.cond (.t 59) (.seq (.reg [] false [⟨0,some 60,.mv (.t 5),none⟩,⟨0,
 (some 61),.mv (.t 3),none⟩,⟨0,some 62,.mv (.t 4),none⟩,⟨0,some 2,.mv (.t 60),none⟩,⟨0,some 3,.mv (.t 61),none⟩,⟨0,some 4,
 (.mv (.t 62)),none⟩]) .ret) .skip))))) (.reg [] false [⟨0,some 12,.mv (.t 5),none⟩,⟨0,some 13,.bin .add (.t 12) (.c (.int .i64 1)),none⟩,
 ⟨0,some 5,.mv (.t 13),none⟩]))))
def x39:XFn:=⟨64,[(2,none),(3,none),(4,none)],false,false,
 (.seq (.reg [] false [⟨0,some 1,.box (.t 0),none⟩,⟨0,some 2,.mv (.c (.int .i64 0)),none⟩,⟨0,some 3,.mv (.c (.int .i64 0)),none⟩,⟨0,
 (some 4),.mv (.c .nilsl),none⟩]) (.seq (.reg [] false [⟨0,some 2,.mv (.c (.int .i64 (-1))),none⟩]) (.seq (.seq (.reg [] false [⟨0,some 5,(.mv
 (.c (.int .i64 0))),none⟩]) (.block 0 aBw)) (.seq (.reg [] false [⟨0,some 63,.mv (.t 2),none⟩,⟨0,some 2,.mv (.t 63),none⟩,⟨0,some 3,
 (.mv (.c (.int .i64 0))),none⟩,⟨0,some 4,.mv (.c .nilsl),none⟩]) .ret)))),none⟩
theorem aRD:cW prog 39 x39.fn:=⟨fun vs w=>call39 vs w,_,_,func39,rfl,rfl,by kernel_rfl,by kernel_rfl⟩
theorem aQy:iA x39=true:=by kernel_rfl
theorem aPr:aQ x39 x39.body:=(aB rfl)

def aBv:XCode :=
 (.loop [1,2,5,18,19,20] (.seq (.reg [] false [⟨0,some 21,.bin .lss (.t 20) (.t 19),none⟩]) (.seq (.cond (.t 21) .skip (.exit 0)) (.seq (.block 1
 (.seq (.reg [] false [⟨0,some 22,.idx 2 (.t 18) (.t 20),none⟩,⟨0,some 23,.load true 2 (.t 22),none⟩,⟨0,some 7,(.alloc [.int .i64 0,
 (.int .i64 0)]),none⟩,⟨0,none,(.store 2 (.t 7) (.t 23) []),none⟩]) (.seq (.reg [] true [⟨0,some 24,.mv (.t 5),none⟩,⟨1,some 25,(.idxa 2 1
 (.t 7) (.c (.int .i64 0))),none⟩,⟨2,some 26,.load false 1 (.t 25),none⟩,⟨3,some 27,.idx 1 (.t 24) (.t 26),none⟩,⟨4,some 28,(.load
 false 1 (.t 27)),none⟩,⟨5,some 29,.idxa 2 1 (.t 7) (.c (.int .i64 1)),none⟩,⟨6,some 30,.load false 1 (.t 29),none⟩,⟨7,some 31,(.bin
 .shl (.c (.int .i64 1)) (.t 30)),none⟩,⟨8,some 32,.bin .or (.t 28) (.t 31),none⟩,⟨9,some 33,.idx 1 (.t 24) (.t 26),none⟩,⟨10,none,
 (.store 1 (.t 33) (.t 32) []),none⟩]) (.reg [] true [⟨0,some 34,.mv (.t 5),none⟩,⟨1,some 35,.idxa 2 1 (.t 7) (.c (.int .i64 1)),none⟩,⟨2,
 (some 36),.load false 1 (.t 35),none⟩,⟨3,some 37,.idx 1 (.t 34) (.t 36),none⟩,⟨4,some 38,.load false 1 (.t 37),none⟩,⟨5,some 39,
 (.idxa 2 1 (.t 7) (.c (.int .i64 0))),none⟩,⟨6,some 40,.load false 1 (.t 39),none⟩,⟨7,some 41,.bin .shl (.c (.int .i64 1)) (.t 40),none⟩,
 ⟨8,some 42,.bin .or (.t 38) (.t 41),none⟩,⟨9,some 43,.idx 1 (.t 34) (.t 36),none⟩,⟨10,none,(.store 1 (.t 43) (.t 42) []),none⟩])))) (.reg
 [] false [⟨0,some 44,.bin .add (.t 20) (.c (.int .i64 1)),none⟩,⟨0,some 20,.mv (.t 44),none⟩])))))
def aBu:XCode :=
 (.loop [1,2,5,46,47,48] (.seq (.reg [] false [⟨0,some 49,.bin .lss (.t 48) (.t 47),none⟩]) (.seq (.cond (.t 49) .skip (.exit 2)) (.seq (.block 3
 (.seq (.reg [] false [⟨0,some 50,.idx 3 (.t 46) (.t 48),none⟩,⟨0,some 51,.load true 3 (.t 50),none⟩,⟨0,some 9,(.alloc [.int .i64 0,
 (.int .i64 0),.int .i64 0]),none⟩,⟨0,none,(.store 3 (.t 9) (.t 51) []),none⟩]) (.reg [] true [⟨0,some 52,.mv (.t 5),none⟩,⟨1,some 53,
 (.fld 1 (.t 9)),none⟩,⟨2,some 54,.load false 1 (.t 53),none⟩,⟨3,some 55,.idx 1 (.t 52) (.t 54),none⟩,⟨4,some 56,.load false 1 (.t
 55),none⟩,⟨5,some 57,.fld 2 (.t 9),none⟩,⟨6,some 58,.load false 1 (.t 57),none⟩,⟨7,some 59,.bin .shl (.c (.int .i64 1)) (.t 58),
 none⟩,⟨8,some 60,.bin .or (.t 56) (.t 59),none⟩,⟨9,some 61,.idx 1 (.t 52) (.t 54),none⟩,⟨10,none,(.store 1 (.t 61) (.t 60) []),none⟩])))
 (.reg [] false [⟨0,some 62,.bin .add (.t 48) (.c (.int .i64 1)),none⟩,⟨0,some 48,.mv (.t 62),none⟩])))))
def aEc:XCode :=
 (.loop [1,2,5,10,11,73,74,75] (.seq (.reg [] false [⟨0,some 76,.bin .lss (.t 75) (.t 74),none⟩]) (.seq (.cond (.t 76) .skip (.exit 6)) (.seq
 (.block 7 (.seq (.reg [] false [⟨0,some 77,.mv (.t 75),none⟩,⟨0,some 78,.idx 1 (.t 73) (.t 75),none⟩,⟨0,some 79,.load false 1 (.t 78),
 none⟩,⟨0,some 12,.mv (.t 77),none⟩,⟨0,some 13,.mv (.t 79),none⟩]) (.seq (.reg [] false [⟨0,some 80,.mv (.t 10),none⟩,⟨0,some 81,
 (.mv (.t 12)),none⟩,⟨0,some 82,.bin .shr (.t 80) (.t 81),none⟩,⟨0,some 83,.bin .and (.t 82) (.c (.int .i64 1)),none⟩,⟨0,some 84,(.bin
 .eql (.t 83) (.c (.int .i64 1))),none⟩]) (.cond (.t 84) (.reg [] false [⟨0,some 85,.mv (.t 10),none⟩,⟨0,some 86,.mv (.t 13),none⟩,⟨0,(some
 87),.mv (.t 1),none⟩,⟨0,some 88,.bin .andNot (.t 86) (.t 87),none⟩,⟨0,some 89,.bin .or (.t 85) (.t 88),none⟩,⟨0,some 10,.mv (.t
 89),none⟩]) .skip)))) (.reg [] false [⟨0,some 90,.bin .add (.t 75) (.c (.int .i64 1)),none⟩,⟨0,some 75,.mv (.t 90),none⟩])))))
def aBt:XCode :=
 (.loop [1,2,5,10,11] (.seq (.seq (.reg [] false [⟨0,some 67,.mv (.t 11),none⟩,⟨0,some 68,.fld 0 (.t 2),none⟩,⟨0,some 69,(.load false 1
 (.t 68)),none⟩,⟨0,some 70,.bin .lss (.t 67) (.t 69),none⟩]) (.cond (.t 70) .skip (.exit 4))) (.seq (.block 5 (.seq (.reg [] false [⟨0,some 73,
 (.mv (.t 5)),none⟩,⟨0,some 74,.len false (.t 73),none⟩,⟨0,some 75,.mv (.c (.int .i64 0)),none⟩]) (.block 6 aEc))) (.reg [] false [⟨0,
 (some 71),.mv (.t 11),none⟩,⟨0,some 72,.bin .add (.t 71) (.c (.int .i64 1)),none⟩,⟨0,some 11,.mv (.t 72),none⟩]))))
def x40:XFn:=⟨96,[(4,none)],false,false,
 (.seq (.reg [] false [⟨0,some 2,.box (.t 0),none⟩,⟨0,some 4,.mv (.c (.bool false)),none⟩]) (.seq (.reg [] false [⟨0,some 14,.fld 0 (.t
 2),none⟩,⟨0,some 15,.load false 1 (.t 14),none⟩,⟨0,some 16,(.mksl 1 8 [.int .i64 0] (.t 15) (.t 15)),none⟩,⟨0,some 5,.mv (.t 16),
 none⟩]) (.seq (.seq (.reg [] false [⟨0,some 17,.fld 1 (.t 2),none⟩,⟨0,some 18,.load false 1 (.t 17),none⟩,⟨0,some 19,.len false (.t
 18),none⟩,⟨0,some 20,.mv (.c (.int .i64 0)),none⟩]) (.block 0 aBv)) (.seq (.seq (.reg [] false [⟨0,some 45,.fld 2 (.t 2),none⟩,⟨0,(some
 46),.load false 1 (.t 45),none⟩,⟨0,some 47,.len false (.t 46),none⟩,⟨0,some 48,.mv (.c (.int .i64 0)),none⟩]) (.block 2 aBu)) (.seq
 (.reg [] false [⟨0,some 63,.fld 3 (.t 2),none⟩,⟨0,some 64,.load false 1 (.t 63),none⟩,⟨0,some 65,.mv (.t 1),none⟩,⟨0,some 66,
 (.bin .andNot (.t 64) (.t 65)),none⟩,⟨0,some 10,.mv (.t 66),none⟩]) (.seq (.seq (.reg [] false [⟨0,some 11,.mv (.c (.int .i64 0)),none⟩])
 (.block 4 aBt)) (.seq (.reg [] false [⟨0,some 91,.mv (.t 10),none⟩,⟨0,some 92,.fld 4 (.t 2),none⟩,⟨0,some 93,.load false 1 (.t 92),
 none⟩,⟨0,some 94,.bin .and (.t 91) (.t 93),none⟩,⟨0,some 95,.bin .neq (.t 94) (.c (.int .i64 0)),none⟩,⟨0,some 4,.mv (.t 95),none⟩])
 .ret))))))),none⟩
theorem aRC:cW prog 40 x40.fn:=⟨fun vs w=>call40 vs w,_,_,func40,rfl,rfl,by kernel_rfl,by kernel_rfl⟩
theorem aQx:iA x40=true:=by kernel_rfl
theorem aPq:aQ x40 x40.body:=(aB rfl)

def aBs:XCode :=
 (.loop [2,5,7,8,14,15,16,23,24,25] (.seq (.reg [] false [⟨0,some 26,.bin .lss (.t 25) (.t 24),none⟩]) (.seq (.cond (.t 26) .skip (.exit 2))
 (.seq (.block 3 (.seq (.reg [] false [⟨0,some 27,.mv (.t 25),none⟩,⟨0,some 28,.idx 1 (.t 23) (.t 25),none⟩,⟨0,some 29,.load false 1 (.t
 28),none⟩,⟨0,some 9,.mv (.t 27),none⟩,⟨0,some 10,.mv (.t 29),none⟩]) (.seq (.seq (.reg [(2,true)] true [⟨0,some 30,.mv (.t 10),
 none⟩,⟨1,some 31,.bin .lss (.t 30) (.c (.int .i64 0)),none⟩,⟨2,some 32,.mv (.t 31),none⟩,⟨3,some 33,.mv (.t 10),some (32,false)⟩,
 ⟨4,some 34,.fld 0 (.t 2),some (32,false)⟩,⟨5,some 35,.load false 1 (.t 34),some (32,false)⟩,⟨6,some 36,.bin .geq (.t 33) (.t
 35),some (32,false)⟩,⟨7,some 37,.pick (.t 32) (.c (.bool true)) (.t 36),none⟩,⟨8,some 38,.mv (.t 37),none⟩,⟨9,some 39,.mv (.t
 9),some (38,false)⟩,⟨10,some 40,.bin .gtr (.t 39) (.c (.int .i64 0)),some (38,false)⟩,⟨11,some 41,.mv (.t 40),some (38,false)⟩,
 ⟨12,some 42,.load true 6 (.t 2),some (41,true)⟩,⟨13,some 43,.mv (.t 7),some (41,true)⟩,⟨14,some 44,.mv (.t 9),some (41,
 true)⟩,⟨15,some 45,.bin .sub (.t 44) (.c (.int .i64 1)),some (41,true)⟩,⟨16,some 46,.idx 1 (.t 43) (.t 45),some (41,true)⟩,⟨17,
 (some 47),.load false 1 (.t 46),some (41,true)⟩,⟨18,some 48,.mv (.t 10),some (41,true)⟩,⟨19,some 49,(.callf false (.c (.fn (.func 73)
 [] [])) [.t 42,.t 47,.t 48] []),some (41,true)⟩,⟨20,some 50,.not (.t 49),some (41,true)⟩,⟨21,some 51,.pick (.t 41) (.t 50) (.c
 (.bool false)),some (38,false)⟩,⟨22,some 52,.pick (.t 38) (.c (.bool true)) (.t 51),none⟩]) (.cond (.t 52) (.seq (.reg [] false [⟨0,some 4,
 (.mv (.c (.bool false))),none⟩]) .ret) .skip)) (.seq (.reg [] false [⟨0,some 53,.mv (.t 8),none⟩,⟨0,some 54,.mv (.t 10),none⟩,⟨0,(some
 55),.idx 1 (.t 53) (.t 54),none⟩,⟨0,some 56,.load false 1 (.t 55),none⟩,⟨0,some 57,.bin .add (.t 56) (.c (.int .i64 1)),none⟩,⟨0,(some
 58),.idx 1 (.t 53) (.t 54),none⟩,⟨0,none,(.store 1 (.t 58) (.t 57) []),none⟩]) (.seq (.reg [] false [⟨0,some 59,.mv (.t 5),none⟩,⟨0,(some
 60),.mv (.t 10),none⟩,⟨0,some 61,.idx 1 (.t 59) (.t 60),none⟩,⟨0,some 62,.load false 1 (.t 61),none⟩,⟨0,some 63,(.bin .add (.t 62)
 (.c (.int .i64 1))),none⟩,⟨0,some 64,.idx 1 (.t 59) (.t 60),none⟩,⟨0,none,(.store 1 (.t 64) (.t 63) []),none⟩]) (.seq (.reg [] false [⟨0,(some
 65),.mv (.t 8),none⟩,⟨0,some 66,.mv (.t 10),none⟩,⟨0,some 67,.idx 1 (.t 65) (.t 66),none⟩,⟨0,some 68,.load false 1 (.t 67),
 none⟩,⟨0,some 69,.bin .gtr (.t 68) (.c (.int .i64 1)),none⟩,⟨0,some 70,.mv (.t 69),none⟩,⟨0,some 71,.mv (.t 5),some (70,false)⟩,
 ⟨0,some 72,.mv (.t 10),some (70,false)⟩,⟨0,some 73,.idx 1 (.t 71) (.t 72),some (70,false)⟩,⟨0,some 74,.load false 1 (.t 73),
 (some (70,false))⟩,⟨0,some 75,.bin .gtr (.t 74) (.c (.int .i64 1)),some (70,false)⟩,⟨0,some 76,.mv (.t 75),some (70,false)⟩,⟨0,
 (some 77),.fld 5 (.t 2),some (76,true)⟩,⟨0,some 78,.load false 1 (.t 77),some (76,true)⟩,⟨0,some 79,.mv (.t 10),some (76,
 true)⟩,⟨0,some 80,.bin .shr (.t 78) (.t 79),some (76,true)⟩,⟨0,some 81,.bin .and (.t 80) (.c (.int .i64 1)),some (76,true)⟩,⟨0,
 (some 82),.bin .eql (.t 81) (.c (.int .i64 0)),some (76,true)⟩,⟨0,some 83,.pick (.t 76) (.t 82) (.c (.bool false)),some (70,false)⟩,⟨0,
 (some 84),.pick (.t 70) (.c (.bool true)) (.t 83),none⟩]) (.cond (.t 84) (.seq (.reg [] false [⟨0,some 4,.mv (.c (.bool false)),none⟩]) .ret)
 .skip))))))) (.reg [] false [⟨0,some 85,.bin .add (.t 25) (.c (.int .i64 1)),none⟩,⟨0,some 25,.mv (.t 85),none⟩])))))
def aEb:XCode :=
 (.loop [2,5,14,15,16] (.seq (.reg [] false [⟨0,some 17,.bin .lss (.t 16) (.t 15),none⟩]) (.seq (.cond (.t 17) .skip (.exit 0)) (.seq (.block 1
 (.seq (.reg [] false [⟨0,some 18,.idx 1 (.t 14) (.t 16),none⟩,⟨0,some 19,.load false 1 (.t 18),none⟩,⟨0,some 7,.mv (.t 19),none⟩])
 (.seq (.reg [] false [⟨0,some 20,.fld 0 (.t 2),none⟩,⟨0,some 21,.load false 1 (.t 20),none⟩,⟨0,some 22,(.mksl 1 8 [.int .i64 0] (.t
 21) (.t 21)),none⟩,⟨0,some 8,.mv (.t 22),none⟩]) (.seq (.seq (.reg [] false [⟨0,some 23,.mv (.t 7),none⟩,⟨0,some 24,.len false (.t
 23),none⟩,⟨0,some 25,.mv (.c (.int .i64 0)),none⟩]) (.block 2 aBs)) (.seq (.reg [] true [⟨0,some 86,.mv (.t 7),none⟩,⟨1,some 87,
 (.len false (.t 86)),none⟩,⟨2,some 88,.bin .eql (.t 87) (.c (.int .i64 0)),none⟩,⟨3,some 89,.mv (.t 88),none⟩,⟨4,some 90,.fld 3 (.t
 2),some (89,false)⟩,⟨5,some 91,.load false 1 (.t 90),some (89,false)⟩,⟨6,some 92,.mv (.t 7),some (89,false)⟩,⟨7,some 93,
 (.idx 1 (.t 92) (.c (.int .i64 0))),some (89,false)⟩,⟨8,some 94,.load false 1 (.t 93),some (89,false)⟩,⟨9,some 95,.bin .shr (.t 91) (.t
 94),some (89,false)⟩,⟨10,some 96,.bin .and (.t 95) (.c (.int .i64 1)),some (89,false)⟩,⟨11,some 97,.bin .eql (.t 96) (.c (.int .i64
 0)),some (89,false)⟩,⟨12,some 98,.pick (.t 89) (.c (.bool true)) (.t 97),none⟩,⟨13,some 99,.mv (.t 98),none⟩,⟨14,some 100,(.fld 4
 (.t 2)),some (99,false)⟩,⟨15,some 101,.load false 1 (.t 100),some (99,false)⟩,⟨16,some 102,.mv (.t 7),some (99,false)⟩,⟨17,(some
 103),.mv (.t 7),some (99,false)⟩,⟨18,some 104,.len false (.t 103),some (99,false)⟩,⟨19,some 105,.bin .sub (.t 104) (.c (.int .i64
 1)),some (99,false)⟩,⟨20,some 106,.idx 1 (.t 102) (.t 105),some (99,false)⟩,⟨21,some 107,.load false 1 (.t 106),some (99,false)⟩,
 ⟨22,some 108,.bin .shr (.t 101) (.t 107),some (99,false)⟩,⟨23,some 109,.bin .and (.t 108) (.c (.int .i64 1)),some (99,false)⟩,⟨24,
 (some 110),.bin .eql (.t 109) (.c (.int .i64 0)),some (99,false)⟩,⟨25,some 111,.pick (.t 99) (.c (.bool true)) (.t 110),none⟩]) (.cond (.t
 111) (.seq (.reg [] false [⟨0,some 4,.mv (.c (.bool false)),none⟩]) .ret) .skip)))))) (.reg [] false [⟨0,some 112,.bin .add (.t 16) (.c (.int
 .i64 1)),none⟩,⟨0,some 16,.mv (.t 112),none⟩])))))
def x41:XFn:=⟨113,[(4,none)],false,false,
 (.seq (.reg [] false [⟨0,some 2,.box (.t 0),none⟩,⟨0,some 4,.mv (.c (.bool false)),none⟩]) (.seq (.reg [] false [⟨0,some 11,.fld 0 (.t
 2),none⟩,⟨0,some 12,.load false 1 (.t 11),none⟩,⟨0,some 13,(.mksl 1 8 [.int .i64 0] (.t 12) (.t 12)),none⟩,⟨0,some 5,.mv (.t 13),
 none⟩]) (.seq (.seq (.reg [] false [⟨0,some 14,.mv (.t 1),none⟩,⟨0,some 15,.len false (.t 14),none⟩,⟨0,some 16,.mv (.c (.int .i64 0)),
 none⟩]) (.block 0 aEb)) (.seq (.reg [] false [⟨0,some 4,.mv (.c (.bool true)),none⟩]) .ret)))),none⟩
theorem aRB:cW prog 41 x41.fn:=⟨fun vs w=>call41 vs w,_,_,func41,rfl,rfl,by kernel_rfl,by kernel_rfl⟩
theorem aQw:iA x41=true:=by kernel_rfl
theorem aPp:aQ x41 x41.body:=(aB rfl)

end Go.Proofs.YtiabjdfdkiijmaaDoor
end
section
set_option maxRecDepth 100000
namespace Go.Proofs.YtiabjdfdkiijmaaDoor
open Go Go.DL Go.Proofs.Tryd

def aEa:XCode :=
 (.loop [0,3] (.seq (.seq (.reg [] false [⟨0,some 4,.mv (.t 0),none⟩,⟨0,some 5,.bin .neq (.t 4) (.c (.int .i64 0)),none⟩]) (.cond (.t 5) .skip
 (.exit 0))) (.seq (.block 1 (.reg [] false [⟨0,some 10,.mv (.t 3),none⟩,⟨0,some 11,.bin .add (.t 10) (.c (.int .i64 1)),none⟩,⟨0,some 3,
 (.mv (.t 11)),none⟩])) (.reg [] false [⟨0,some 6,.mv (.t 0),none⟩,⟨0,some 7,.mv (.t 0),none⟩,⟨0,some 8,.bin .sub (.t 7) (.c (.int .i64
 1)),none⟩,⟨0,some 9,.bin .and (.t 6) (.t 8),none⟩,⟨0,some 0,.mv (.t 9),none⟩]))))
def x42:XFn:=⟨13,[(2,none)],false,false,
 (.seq (.reg [] false [⟨0,some 2,.mv (.c (.int .i64 0)),none⟩]) (.seq (.reg [] false [⟨0,some 3,.mv (.c (.int .i64 0)),none⟩]) (.seq (.block 0
 aEa) (.seq (.reg [] false [⟨0,some 12,.mv (.t 3),none⟩,⟨0,some 2,.mv (.t 12),none⟩]) .ret)))),none⟩
theorem aRA:cW prog 42 x42.fn:=⟨fun vs w=>call42 vs w,_,_,func42,rfl,rfl,by kernel_rfl,by kernel_rfl⟩
theorem aQv:iA x42=true:=by kernel_rfl
theorem aPo:aQ x42 x42.body:=(aB rfl)

def x44:XFn:=⟨17,[(2,(some (true,6)))],false,false,
 (.seq (.reg [] false [⟨0,some 2,(.alloc [.int .i64 0,.nilsl,.nilsl,.int .i64 0,.int .i64 0,.int .i64 0]),none⟩]) (.seq (.reg [] false [⟨0,
 (some 3),(.build [.int .i64 0,.int .i64 0] [(0,(1,(.c (.int .i64 0)))),(1,(1,(.c (.int .i64 1))))]),none⟩,⟨0,some 4,(.build [.int .i64 0,
 (.int .i64 0)] [(0,(1,(.c (.int .i64 0)))),(1,(1,(.c (.int .i64 2))))]),none⟩,⟨0,some 5,(.build [.int .i64 0,.int .i64 0] [(0,(1,(.c (.int
 .i64 1)))),(1,(1,(.c (.int .i64 3))))]),none⟩,⟨0,some 6,(.build [.int .i64 0,.int .i64 0] [(0,(1,(.c (.int .i64 2)))),(1,(1,(.c (.int
 .i64 3))))]),none⟩,⟨0,some 7,(.build [.int .i64 0,.int .i64 0] [(0,(1,(.c (.int .i64 3)))),(1,(1,(.c (.int .i64 4))))]),none⟩,⟨0,(some
 8),(.build [.int .i64 0,.int .i64 0] [(0,(1,(.c (.int .i64 3)))),(1,(1,(.c (.int .i64 5))))]),none⟩,⟨0,some 9,(.build [.int .i64 0,(.int
 .i64 0)] [(0,(1,(.c (.int .i64 4)))),(1,(1,(.c (.int .i64 6))))]),none⟩,⟨0,some 10,(.build [.int .i64 0,.int .i64 0] [(0,(1,(.c (.int .i64
 5)))),(1,(1,(.c (.int .i64 6))))]),none⟩,⟨0,some 11,(.bslice 2 8 [.int .i64 0,.int .i64 0] [(0,(2,(.t 3))),(2,(2,(.t 4))),(4,(2,(.t
 5))),(6,(2,(.t 6))),(8,(2,(.t 7))),(10,(2,(.t 8))),(12,(2,(.t 9))),(14,(2,(.t 10)))]),none⟩,⟨0,some 12,(.build [.int .i64 0,(.int
 .i64 0),.int .i64 0] [(0,(1,(.c (.int .i64 0)))),(1,(1,(.c (.int .i64 2)))),(2,(1,(.c (.int .i64 7))))]),none⟩,⟨0,some 13,(.build [(.int
 .i64 0),.int .i64 0,.int .i64 0] [(0,(1,(.c (.int .i64 3)))),(1,(1,(.c (.int .i64 4)))),(2,(1,(.c (.int .i64 7))))]),none⟩,⟨0,some 14,
 (.bslice 3 2 [.int .i64 0,.int .i64 0,.int .i64 0] [(0,(3,(.t 12))),(3,(3,(.t 13)))]),none⟩,⟨0,some 15,.mv (.t 0),none⟩,⟨0,(some
 16),(.build [.int .i64 0,.nilsl,.nilsl,.int .i64 0,.int .i64 0,.int .i64 0] [(0,(1,(.c (.int .i64 8)))),(1,(1,(.t 11))),(2,(1,(.t
 14))),(3,(1,(.c (.int .i64 1)))),(4,(1,(.c (.int .i64 192)))),(5,(1,(.t 15)))]),none⟩,⟨0,none,(.store 6 (.t 2) (.t 16) []),none⟩]) .ret)),none⟩
theorem aRz:cW prog 44 x44.fn:=⟨fun vs w=>call44 vs w,_,_,func44,rfl,rfl,by kernel_rfl,by kernel_rfl⟩
theorem aQu:iA x44=true:=by kernel_rfl
theorem aPn:aQ x44 x44.body:=(aB rfl)

def x45:XFn:=⟨15,[(6,none)],false,false,
 (.seq (.reg [] false [⟨0,some 6,.mv (.c (.bool false)),none⟩]) (.seq (.reg [] false [⟨0,some 7,.mv (.t 0),none⟩,⟨0,some 8,.mv (.t 1),
 none⟩,⟨0,some 9,.bin .leq (.t 7) (.t 8),none⟩,⟨0,some 10,.mv (.t 9),none⟩,⟨0,some 11,.mv (.t 1),some (10,true)⟩,⟨0,some 12,
 (.mv (.t 2)),some (10,true)⟩,⟨0,some 13,.bin .leq (.t 11) (.t 12),some (10,true)⟩,⟨0,some 14,.pick (.t 10) (.t 13) (.c (.bool false)),
 none⟩,⟨0,some 6,.mv (.t 14),none⟩]) .ret)),none⟩
theorem aRy:cW prog 45 x45.fn:=⟨fun vs w=>call45 vs w,_,_,func45,rfl,rfl,by kernel_rfl,by kernel_rfl⟩
theorem aQt:iA x45=true:=by kernel_rfl
theorem aPm:aQ x45 x45.body:=(aB rfl)

def x46:XFn:=⟨21,[(6,none)],false,false,
 (.seq (.reg [] false [⟨0,some 3,.box (.t 0),none⟩,⟨0,some 6,.mv (.c .nilsl),none⟩]) (.seq (.reg [] false [⟨0,some 7,(.alloc [(.int .i64
 0)]),none⟩]) (.seq (.seq (.reg [(3,true),(1,false),(2,false)] false [⟨0,some 9,.load true 6 (.t 3),none⟩,⟨0,some 10,.mv (.t 1),none⟩,
 ⟨0,some 11,.mv (.t 2),none⟩,⟨0,some 12,(.callf false (.c (.fn (.func 51) [] [])) [.t 9,.t 10,.t 11] []),none⟩]) (.block 0 (.rng 0 [7]
 (.t 12) [13] (.reg [] false [⟨0,some 8,(.alloc [.int .i64 0,.int .i64 0]),none⟩,⟨0,none,(.store 2 (.t 8) (.t 13) []),none⟩]) (.block 1 (.reg
 [(8,true)] true [⟨0,some 14,.load false 1 (.t 7),none⟩,⟨1,some 15,.fld 0 (.t 8),none⟩,⟨2,some 16,.load false 1 (.t 15),none⟩,⟨3,
 (some 17),(.callf false (.c (.fn (.func 62) [] [])) [.t 16] [0]),none⟩,⟨4,some 18,.bin .or (.t 14) (.t 17),none⟩,⟨5,none,(.store 1 (.t 7) (.t
 18) []),none⟩]))))) (.seq (.reg [(7,true)] false [⟨0,some 19,.load false 1 (.t 7),none⟩,⟨0,some 20,(.callf false (.c (.fn (.func 63) [] []))
 [.t 19] []),none⟩,⟨0,some 6,.mv (.t 20),none⟩]) .ret)))),none⟩
theorem aRx:cW prog 46 x46.fn:=⟨fun vs w=>call46 vs w,_,_,func46,rfl,rfl,by kernel_rfl,by kernel_rfl⟩
theorem aQs:iA x46=true:=by kernel_rfl
theorem aPl:aQ x46 x46.body:=⟨aB rfl,⟨aB rfl,⟨⟨aB rfl,⟨by kernel_rfl,aB rfl,aB rfl⟩⟩,aB rfl⟩⟩⟩

def aMV:XCode :=
 (.loop [7,8] (.seq (.seq (.reg [] false [⟨0,some 34,.mv (.t 8),none⟩,⟨0,some 35,.mv (.t 7),none⟩,⟨0,some 36,.len false (.t 35),none⟩,
 ⟨0,some 37,.bin .lss (.t 34) (.t 36),none⟩]) (.cond (.t 37) .skip (.exit 0))) (.block 1 (.reg [] true [⟨0,some 38,.mv (.t 8),none⟩,⟨1,(some
 39),.mv (.t 7),none⟩,⟨2,some 40,.mv (.t 8),none⟩,⟨3,some 41,.slsl 1 (.t 39) (some (.t 40)) none,none⟩,⟨4,some 42,.mv (.t 7),
 none⟩,⟨5,some 43,.mv (.t 8),none⟩,⟨6,some 44,.slsl 1 (.t 42) none (some (.t 43)),none⟩,⟨7,some 45,.copy 1 (.t 41) (.t 44),none⟩,⟨8,
 (some 46),.bin .add (.t 38) (.t 45),none⟩,⟨9,some 8,.mv (.t 46),none⟩]))))
def x50:XFn:=⟨48,[(4,none)],false,true,
 (.seq (.reg [] false [⟨0,some 4,.mv (.c .nilsl),none⟩]) (.seq (.seq (.reg [] false [⟨0,some 9,.mv (.t 1),none⟩,⟨0,some 10,(.bin .lss (.t 9)
 (.c (.int .i64 0))),none⟩]) (.cond (.t 10) (.reg [] false [⟨0,some 11,.mkifc 9 (.c (.str ⟨#[99,97,110,110,111,116,32,98,101,32,110,101,
 103,97,116,105,118,101]⟩)),none⟩,⟨0,none,.stuck,none⟩]) .skip)) (.seq (.reg [] false [⟨0,some 13,.mv (.t 0),none⟩,⟨0,some 14,(.len
 false (.t 13)),none⟩,⟨0,some 15,.conv .u64 (.t 14),none⟩,⟨0,some 16,.mv (.t 1),none⟩,⟨0,some 17,.conv .u64 (.t 16),none⟩,⟨0,(some
 18),(.callf false (.c (.fn (.func 75) [] [])) [.t 15,.t 17] []),none⟩,⟨0,some 12,.mv (.t 18),none⟩,⟨0,some 19,.ext (.t 12) 0,none⟩,
 ⟨0,some 20,.ext (.t 12) 1,none⟩,⟨0,some 5,.mv (.t 19),none⟩,⟨0,some 6,.mv (.t 20),none⟩]) (.seq (.seq (.reg [] false [⟨0,some 21,
 (.mv (.t 5)),none⟩,⟨0,some 22,.bin .gtr (.t 21) (.c (.int .u64 0)),none⟩,⟨0,some 23,.mv (.t 22),none⟩,⟨0,some 24,.mv (.t 6),(some
 (23,false))⟩,⟨0,some 25,.bin .gtr (.t 24) (.c (.int .u64 9223372036854775807)),some (23,false)⟩,⟨0,some 26,(.pick (.t 23) (.c (.bool true))
 (.t 25)),none⟩]) (.cond (.t 26) (.reg [] false [⟨0,some 27,.mkifc 9 (.c (.str ⟨#[116,104,101,32,114,101,115,117,108,116,32,111,102,32,
 40,108,101,110,40,120,41,32,42,32,99,111,117,110,116,41,32,111,118,101,114,102,108,111,119,115]⟩)),none⟩,⟨0,none,.stuck,
 none⟩]) .skip)) (.seq (.reg [] false [⟨0,some 28,.mv (.t 6),none⟩,⟨0,some 29,.conv .i64 (.t 28),none⟩,⟨0,some 30,(.mksl 1 8 [(.int .i64
 0)] (.t 29) (.t 29)),none⟩,⟨0,some 7,.mv (.t 30),none⟩]) (.seq (.reg [] false [⟨0,some 31,.mv (.t 7),none⟩,⟨0,some 32,.mv (.t 0),
 none⟩,⟨0,some 33,.copy 1 (.t 31) (.t 32),none⟩,⟨0,some 8,.mv (.t 33),none⟩]) (.seq (.block 0 aMV) (.seq (.reg [] false [⟨0,some 47,
 (.mv (.t 7)),none⟩,⟨0,some 4,.mv (.t 47),none⟩]) .ret)))))))),none⟩
theorem aRw:cW prog 50 x50.fn:=⟨fun vs w=>call50 vs w,_,_,func50,rfl,rfl,by kernel_rfl,by kernel_rfl⟩
theorem aQr:iA x50=true:=by kernel_rfl
theorem aPk:aQ x50 x50.body:=(aB rfl)

def x51:XFn:=⟨8,[(6,none)],false,false,
 (.seq (.reg [] false [⟨0,some 3,.box (.t 0),none⟩,⟨0,some 4,.box (.t 1),none⟩,⟨0,some 5,.box (.t 2),none⟩,⟨0,some 6,.mv (.c
 .nilfn),none⟩]) (.seq (.reg [] false [⟨0,some 7,(.mkf (.func 76) [] [.t 3,.t 4,.t 5]),none⟩,⟨0,some 6,.mv (.t 7),none⟩]) .ret)),none⟩
theorem aRv:cW prog 51 x51.fn:=⟨fun vs w=>call51 vs w,_,_,func51,rfl,rfl,by kernel_rfl,by kernel_rfl⟩
theorem aQq:iA x51=true:=by kernel_rfl
theorem aPj:aQ x51 x51.body:=(aB rfl)

def x53:XFn:=⟨26,[(6,none)],false,false,
 (.seq (.reg [] false [⟨0,some 3,.box (.t 0),none⟩,⟨0,some 6,.mv (.c (.int .i64 0)),none⟩]) (.seq (.block 0 (.seq (.reg [] false [⟨0,some 8,
 (.mv (.t 1)),none⟩,⟨0,some 9,.fld 0 (.t 3),none⟩,⟨0,some 10,.load false 1 (.t 9),none⟩,⟨0,some 11,.bin .sub (.t 10) (.c (.int .i64
 1)),none⟩,⟨0,some 12,(.callf false (.c (.fn (.func 45) [] [])) [.c (.int .i64 0),.t 8,.t 11] []),none⟩,⟨0,some 13,.not (.t 12),
 none⟩,⟨0,some 14,.mv (.t 13),none⟩,⟨0,some 15,.mv (.t 2),some (14,false)⟩,⟨0,some 16,.fld 0 (.t 3),some (14,false)⟩,⟨0,(some
 17),.load false 1 (.t 16),some (14,false)⟩,⟨0,some 18,.bin .sub (.t 17) (.c (.int .i64 1)),some (14,false)⟩,⟨0,some 19,(.callf false
 (.c (.fn (.func 45) [] [])) [.c (.int .i64 0),.t 15,.t 18] []),some (14,false)⟩,⟨0,some 20,.not (.t 19),some (14,false)⟩,⟨0,(some
 21),.pick (.t 14) (.c (.bool true)) (.t 20),none⟩,⟨0,some 7,.mv (.t 21),none⟩]) (.cond (.t 7) (.seq (.reg [] false [⟨0,some 6,.mv (.c (.int
 .i64 5)),none⟩]) .ret) (.seq (.reg [] false [⟨0,some 23,.mv (.t 1),none⟩,⟨0,some 24,.mv (.t 2),none⟩,⟨0,some 25,.bin .eql (.t 23) (.t
 24),none⟩,⟨0,some 22,.mv (.t 25),none⟩]) (.cond (.t 22) (.seq (.reg [] false [⟨0,some 6,.mv (.c (.int .i64 22)),none⟩]) .ret) .skip)))))
 (.seq (.reg [] false [⟨0,some 6,.mv (.c (.int .i64 0)),none⟩]) .ret))),none⟩
theorem aRu:cW prog 53 x53.fn:=⟨fun vs w=>call53 vs w,_,_,func53,rfl,rfl,by kernel_rfl,by kernel_rfl⟩
theorem aQp:iA x53=true:=by kernel_rfl
theorem aPi:aQ x53 x53.body:=(aB rfl)

def mW:XCode :=
 (.loop [2,7,8,16,17,18] (.seq (.reg [] false [⟨0,some 19,.bin .lss (.t 18) (.t 17),none⟩]) (.seq (.cond (.t 19) .skip (.exit 0)) (.seq (.block 1
 (.seq (.reg [] false [⟨0,some 20,.idx 1 (.t 16) (.t 18),none⟩,⟨0,some 21,.load false 1 (.t 20),none⟩,⟨0,some 10,.mv (.t 21),none⟩])
 (.seq (.block 2 (.seq (.reg [] false [⟨0,some 23,.mv (.t 10),none⟩,⟨0,some 24,.fld 0 (.t 2),none⟩,⟨0,some 25,.load false 1 (.t 24),
 none⟩,⟨0,some 26,.bin .sub (.t 25) (.c (.int .i64 1)),none⟩,⟨0,some 27,(.callf false (.c (.fn (.func 45) [] [])) [.c (.int .i64 0),.t 23,
 (.t 26)] []),none⟩,⟨0,some 28,.not (.t 27),none⟩,⟨0,some 22,.mv (.t 28),none⟩]) (.cond (.t 22) (.seq (.reg [] false [⟨0,some 4,.mv (.c
 (.int .i64 0)),none⟩,⟨0,some 5,.mv (.c (.int .i64 5)),none⟩]) .ret) (.seq (.reg [] false [⟨0,some 30,.mv (.t 10),none⟩,⟨0,some 31,(.mv
 (.t 8)),none⟩,⟨0,some 32,.bin .leq (.t 30) (.t 31),none⟩,⟨0,some 29,.mv (.t 32),none⟩]) (.cond (.t 29) (.seq (.reg [] false [⟨0,some 4,
 (.mv (.c (.int .i64 0))),none⟩,⟨0,some 5,.mv (.c (.int .i64 7)),none⟩]) .ret) (.seq (.reg [(2,true)] false [⟨0,some 34,.fld 5 (.t 2),none⟩,
 ⟨0,some 35,.load false 1 (.t 34),none⟩,⟨0,some 36,.mv (.t 10),none⟩,⟨0,some 37,(.callf false (.c (.fn (.func 60) [] [])) [.t 35,(.t
 36)] []),none⟩,⟨0,some 33,.mv (.t 37),none⟩]) (.cond (.t 33) (.seq (.reg [] false [⟨0,some 4,.mv (.c (.int .i64 0)),none⟩,⟨0,some 5,
 (.mv (.c (.int .i64 23))),none⟩]) .ret) .skip))))))) (.seq (.reg [] false [⟨0,some 38,.mv (.t 10),none⟩,⟨0,some 8,.mv (.t 38),none⟩]) (.reg
 [] false [⟨0,some 39,.mv (.t 7),none⟩,⟨0,some 40,.mv (.t 10),none⟩,⟨0,some 41,(.callf false (.c (.fn (.func 62) [] [])) [.t 40] []),
 none⟩,⟨0,some 42,.bin .or (.t 39) (.t 41),none⟩,⟨0,some 7,.mv (.t 42),none⟩]))))) (.reg [] false [⟨0,some 43,.bin .add (.t 18) (.c
 (.int .i64 1)),none⟩,⟨0,some 18,.mv (.t 43),none⟩])))))
def x54:XFn:=⟨45,[(4,none),(5,none)],false,false,
 (.seq (.reg [] false [⟨0,some 2,.box (.t 0),none⟩,⟨0,some 4,.mv (.c (.int .i64 0)),none⟩,⟨0,some 5,.mv (.c (.int .i64 0)),none⟩]) (.seq
 (.seq (.reg [(2,true)] false [⟨0,some 11,.load true 6 (.t 2),none⟩,⟨0,some 12,(.callf false (.c (.fn (.func 23) [] [])) [.t 11] []),none⟩,
 ⟨0,some 6,.mv (.t 12),none⟩]) (.seq (.reg [] false [⟨0,some 13,.mv (.t 6),none⟩,⟨0,some 14,.bin .neq (.t 13) (.c (.int .i64 0)),
 none⟩]) (.cond (.t 14) (.seq (.reg [] false [⟨0,some 15,.mv (.t 6),none⟩,⟨0,some 4,.mv (.c (.int .i64 0)),none⟩,⟨0,some 5,.mv (.t 15),
 none⟩]) .ret) .skip))) (.seq (.reg [] false [⟨0,some 7,.mv (.c (.int .i64 0)),none⟩]) (.seq (.reg [] false [⟨0,some 8,.mv (.c (.int .i64
 (-1))),none⟩]) (.seq (.seq (.reg [] false [⟨0,some 16,.mv (.t 1),none⟩,⟨0,some 17,.len false (.t 16),none⟩,⟨0,some 18,.mv (.c (.int
 .i64 0)),none⟩]) (.block 0 mW)) (.seq (.reg [] false [⟨0,some 44,.mv (.t 7),none⟩,⟨0,some 4,.mv (.t 44),none⟩,⟨0,some 5,.mv (.c
 (.int .i64 0)),none⟩]) .ret)))))),none⟩
theorem aRt:cW prog 54 x54.fn:=⟨fun vs w=>call54 vs w,_,_,func54,rfl,rfl,by kernel_rfl,by kernel_rfl⟩
theorem aQo:iA x54=true:=by kernel_rfl
theorem aPh:aQ x54 x54.body:=(aB rfl)

def aDZ:XCode :=
 (.loop [1,5,19,20,21] (.seq (.reg [] false [⟨0,some 22,.bin .lss (.t 21) (.t 20),none⟩]) (.seq (.cond (.t 22) .skip (.exit 0)) (.seq (.block 1
 (.seq (.reg [] false [⟨0,some 23,.idx 2 (.t 19) (.t 21),none⟩,⟨0,some 24,.load true 2 (.t 23),none⟩,⟨0,some 7,(.alloc [.int .i64 0,
 (.int .i64 0)]),none⟩,⟨0,none,(.store 2 (.t 7) (.t 24) []),none⟩]) (.seq (.reg [] true [⟨0,some 25,.mv (.t 5),none⟩,⟨1,some 26,(.idxa 2 1
 (.t 7) (.c (.int .i64 0))),none⟩,⟨2,some 27,.load false 1 (.t 26),none⟩,⟨3,some 28,.nilck (.t 25),none⟩,⟨4,some 29,.fld 6 (.t 28),
 none⟩,⟨5,some 30,.idxa 16 1 (.t 29) (.t 27),none⟩,⟨6,some 31,.load false 1 (.t 30),none⟩,⟨7,some 32,.idxa 2 1 (.t 7) (.c (.int .i64
 1)),none⟩,⟨8,some 33,.load false 1 (.t 32),none⟩,⟨11,some 36,.nilck (.t 25),none⟩,⟨12,some 37,.fld 6 (.t 36),none⟩,⟨9,some 34,
 (.callf false (.c (.fn (.func 62) [] [])) [.t 33] [2,6]),none⟩,⟨10,some 35,.bin .or (.t 31) (.t 34),none⟩,⟨13,some 38,(.idxa 16 1 (.t 37)
 (.t 27)),none⟩,⟨14,none,(.store 1 (.t 38) (.t 35) []),none⟩]) (.reg [] true [⟨0,some 39,.mv (.t 5),none⟩,⟨1,some 40,.idxa 2 1 (.t 7) (.c
 (.int .i64 1)),none⟩,⟨2,some 41,.load false 1 (.t 40),none⟩,⟨3,some 42,.nilck (.t 39),none⟩,⟨4,some 43,.fld 6 (.t 42),none⟩,⟨5,
 (some 44),.idxa 16 1 (.t 43) (.t 41),none⟩,⟨6,some 45,.load false 1 (.t 44),none⟩,⟨7,some 46,.idxa 2 1 (.t 7) (.c (.int .i64 0)),none⟩,
 ⟨8,some 47,.load false 1 (.t 46),none⟩,⟨11,some 50,.nilck (.t 39),none⟩,⟨12,some 51,.fld 6 (.t 50),none⟩,⟨9,some 48,(.callf
 false (.c (.fn (.func 62) [] [])) [.t 47] [2,6]),none⟩,⟨10,some 49,.bin .or (.t 45) (.t 48),none⟩,⟨13,some 52,.idxa 16 1 (.t 51) (.t 41),
 none⟩,⟨14,none,(.store 1 (.t 52) (.t 49) []),none⟩])))) (.reg [] false [⟨0,some 53,.bin .add (.t 21) (.c (.int .i64 1)),none⟩,⟨0,some 21,
 (.mv (.t 53)),none⟩])))))
def aDY:XCode :=
 (.loop [5,55,56,57] (.seq (.reg [] false [⟨0,some 58,.bin .lss (.t 57) (.t 56),none⟩]) (.seq (.cond (.t 58) .skip (.exit 2)) (.seq (.block 3 (.seq
 (.reg [] false [⟨0,some 59,.idx 3 (.t 55) (.t 57),none⟩,⟨0,some 60,.load true 3 (.t 59),none⟩,⟨0,some 9,(.alloc [.int .i64 0,(.int
 .i64 0),.int .i64 0]),none⟩,⟨0,none,(.store 3 (.t 9) (.t 60) []),none⟩]) (.reg [(9,true)] true [⟨0,some 61,.mv (.t 5),none⟩,⟨1,some 62,
 (.fld 1 (.t 9)),none⟩,⟨2,some 63,.load false 1 (.t 62),none⟩,⟨3,some 64,.nilck (.t 61),none⟩,⟨4,some 65,.fld 6 (.t 64),none⟩,⟨5,
 (some 66),.idxa 16 1 (.t 65) (.t 63),none⟩,⟨6,some 67,.load false 1 (.t 66),none⟩,⟨7,some 68,.fld 2 (.t 9),none⟩,⟨8,some 69,(.load
 false 1 (.t 68)),none⟩,⟨11,some 72,.nilck (.t 61),none⟩,⟨12,some 73,.fld 6 (.t 72),none⟩,⟨9,some 70,(.callf false (.c (.fn (.func 62)
 [] [])) [.t 69] [2,6]),none⟩,⟨10,some 71,.bin .or (.t 67) (.t 70),none⟩,⟨13,some 74,.idxa 16 1 (.t 73) (.t 63),none⟩,⟨14,none,(.store
 1 (.t 74) (.t 71) []),none⟩]))) (.reg [] false [⟨0,some 75,.bin .add (.t 57) (.c (.int .i64 1)),none⟩,⟨0,some 57,.mv (.t 75),none⟩])))))
def x56:XFn:=⟨77,[(2,none),(3,none)],false,false,
 (.seq (.reg [] false [⟨0,some 1,.box (.t 0),none⟩,⟨0,some 2,.mv (.c .nilpt),none⟩,⟨0,some 3,.mv (.c (.int .i64 0)),none⟩]) (.seq (.seq
 (.reg [(1,true)] false [⟨0,some 10,.load true 6 (.t 1),none⟩,⟨0,some 11,(.callf false (.c (.fn (.func 23) [] [])) [.t 10] []),none⟩,⟨0,
 (some 4),.mv (.t 11),none⟩]) (.seq (.reg [] false [⟨0,some 12,.mv (.t 4),none⟩,⟨0,some 13,.bin .neq (.t 12) (.c (.int .i64 0)),none⟩])
 (.cond (.t 13) (.seq (.reg [] false [⟨0,some 14,.mv (.t 4),none⟩,⟨0,some 2,.mv (.c .nilpt),none⟩,⟨0,some 3,.mv (.t 14),none⟩]) .ret)
 .skip))) (.seq (.reg [] false [⟨0,some 15,.load true 6 (.t 1),none⟩,⟨0,some 16,(.build [.int .i64 0,.nilsl,.nilsl,.int .i64 0,(.int .i64
 0),.int .i64 0,.int .i64 0,.int .i64 0,.int .i64 0,.int .i64 0,.int .i64 0,.int .i64 0,.int .i64 0,.int .i64 0,.int .i64 0,
 (.int .i64 0),.int .i64 0,.int .i64 0,.int .i64 0,.int .i64 0,.int .i64 0,.int .i64 0] [(0,(6,(.t 15)))]),none⟩,⟨0,some 17,(.box
 (.t 16)),none⟩,⟨0,some 5,.mv (.t 17),none⟩]) (.seq (.seq (.reg [] false [⟨0,some 18,.fld 1 (.t 1),none⟩,⟨0,some 19,.load false 1 (.t
 18),none⟩,⟨0,some 20,.len false (.t 19),none⟩,⟨0,some 21,.mv (.c (.int .i64 0)),none⟩]) (.block 0 aDZ)) (.seq (.seq (.reg [] false [⟨0,
 (some 54),.fld 2 (.t 1),none⟩,⟨0,some 55,.load false 1 (.t 54),none⟩,⟨0,some 56,.len false (.t 55),none⟩,⟨0,some 57,.mv (.c (.int
 .i64 0)),none⟩]) (.block 2 aDY)) (.seq (.reg [] false [⟨0,some 76,.mv (.t 5),none⟩,⟨0,some 2,.mv (.t 76),none⟩,⟨0,some 3,.mv (.c
 (.int .i64 0)),none⟩]) .ret)))))),none⟩
theorem aRs:cW prog 56 x56.fn:=⟨fun vs w=>call56 vs w,_,_,func56,rfl,rfl,by kernel_rfl,by kernel_rfl⟩
theorem aQn:iA x56=true:=by kernel_rfl
theorem aPg:aQ x56 x56.body:=(aB rfl)

def x57:XFn:=⟨15,[(4,none)],false,false,
 (.seq (.reg [] false [⟨0,some 4,.mv (.c (.bool false)),none⟩]) (.seq (.reg [(0,false),(1,false)] true [⟨0,some 5,.mv (.t 0),none⟩,⟨1,(some
 6),.mv (.t 1),none⟩,⟨3,some 8,.mv (.t 0),none⟩,⟨4,some 9,.nilck (.t 8),none⟩,⟨5,some 10,.fld 0 (.t 9),none⟩,⟨6,some 11,
 (.fld 4 (.t 10)),none⟩,⟨7,some 12,.load false 1 (.t 11),none⟩,⟨2,some 7,(.callf false (.c (.fn (.func 78) [] [])) [.t 5,.t 6] [7]),
 none⟩,⟨8,some 13,.bin .and (.t 7) (.t 12),none⟩,⟨9,some 14,.bin .eql (.t 13) (.c (.int .i64 0)),none⟩,⟨10,some 4,.mv (.t 14),none⟩])
 .ret)),none⟩
theorem aRr:cW prog 57 x57.fn:=⟨fun vs w=>call57 vs w,_,_,func57,rfl,rfl,by kernel_rfl,by kernel_rfl⟩
theorem aQm:iA x57=true:=by kernel_rfl
theorem aPf:aQ x57 x57.body:=(aB rfl)

def x59:XFn:=⟨24,[(2,none),(3,none),(4,none)],false,false,
 (.seq (.reg [] false [⟨0,some 1,.box (.t 0),none⟩,⟨0,some 2,.mv (.c .nilpt),none⟩,⟨0,some 3,.mv (.c (.int .i64 0)),none⟩,⟨0,some 4,
 (.mv (.c (.int .i64 0))),none⟩]) (.seq (.reg [(1,true)] false [⟨0,some 8,.load true 6 (.t 1),none⟩,⟨0,some 9,(.callf false (.c (.fn (.func 56)
 [] [])) [.t 8] []),none⟩,⟨0,some 7,.mv (.t 9),none⟩,⟨0,some 10,.ext (.t 7) 0,none⟩,⟨0,some 11,.ext (.t 7) 1,none⟩,⟨0,some 5,
 (.mv (.t 10)),none⟩,⟨0,some 6,.mv (.t 11),none⟩]) (.seq (.seq (.reg [] false [⟨0,some 12,.mv (.t 6),none⟩,⟨0,some 13,(.bin .neq (.t 12)
 (.c (.int .i64 0))),none⟩]) (.cond (.t 13) (.seq (.reg [] false [⟨0,some 14,.mv (.t 6),none⟩,⟨0,some 2,.mv (.c .nilpt),none⟩,⟨0,some 3,
 (.mv (.c (.int .i64 0))),none⟩,⟨0,some 4,.mv (.t 14),none⟩]) .ret) .skip)) (.seq (.seq (.reg [(5,false)] false [⟨0,some 15,.mv (.t 5),
 none⟩,⟨0,some 16,.fld 5 (.t 1),none⟩,⟨0,some 17,.load false 1 (.t 16),none⟩,⟨0,some 18,.cpl (.t 17),none⟩,⟨0,some 19,(.callf
 false (.c (.fn (.func 57) [] [])) [.t 15,.t 18] []),none⟩,⟨0,some 20,.not (.t 19),none⟩]) (.cond (.t 20) (.seq (.reg [] false [⟨0,some 2,
 (.mv (.c .nilpt)),none⟩,⟨0,some 3,.mv (.c (.int .i64 0)),none⟩,⟨0,some 4,.mv (.c (.int .i64 16)),none⟩]) .ret) .skip)) (.seq (.reg [(5,
 false)] false [⟨0,some 21,.mv (.t 5),none⟩,⟨0,some 22,.mv (.t 5),none⟩,⟨0,some 23,(.callf false (.c (.fn (.func 61) [] [])) [.t 22,
 (.c (.int .i64 0))] []),none⟩,⟨0,some 2,.mv (.t 21),none⟩,⟨0,some 3,.mv (.t 23),none⟩,⟨0,some 4,.mv (.c (.int .i64 0)),none⟩])
 .ret))))),none⟩
theorem aRq:cW prog 59 x59.fn:=⟨fun vs w=>call59 vs w,_,_,func59,rfl,rfl,by kernel_rfl,by kernel_rfl⟩
theorem aQl:iA x59=true:=by kernel_rfl
theorem aPe:aQ x59 x59.body:=(aB rfl)

def x60:XFn:=⟨10,[(4,none)],false,false,
 (.seq (.reg [] false [⟨0,some 4,.mv (.c (.bool false)),none⟩]) (.seq (.reg [] false [⟨0,some 5,.mv (.t 0),none⟩,⟨0,some 6,.mv (.t 1),
 none⟩,⟨0,some 7,.bin .shr (.t 5) (.t 6),none⟩,⟨0,some 8,.bin .and (.t 7) (.c (.int .i64 1)),none⟩,⟨0,some 9,.bin .eql (.t 8) (.c (.int
 .i64 1)),none⟩,⟨0,some 4,.mv (.t 9),none⟩]) .ret)),none⟩
theorem aRp:cW prog 60 x60.fn:=⟨fun vs w=>call60 vs w,_,_,func60,rfl,rfl,by kernel_rfl,by kernel_rfl⟩
theorem aQk:iA x60=true:=by kernel_rfl
theorem aPd:aQ x60 x60.body:=(aB rfl)

def aDX:XCode :=
 (.loop [1,5,19] (.seq (.reg [] false [⟨0,some 20,.bin .lss (.t 19) (.c (.int .i64 16)),none⟩]) (.seq (.cond (.t 20) .skip (.exit 0)) (.seq (.block 1
 (.seq (.reg [] false [⟨0,some 21,.mv (.t 19),none⟩,⟨0,some 6,.mv (.t 21),none⟩]) (.reg [] false [⟨0,some 22,.mv (.t 6),none⟩,⟨0,
 (some 23),.fld 6 (.t 5),none⟩,⟨0,some 24,.idxa 16 1 (.t 23) (.t 22),none⟩,⟨0,some 25,.load false 1 (.t 24),none⟩,⟨0,some 26,(.mv
 (.t 1)),none⟩,⟨0,some 27,.bin .andNot (.t 25) (.t 26),none⟩,⟨0,some 28,.fld 6 (.t 5),none⟩,⟨0,some 29,.idxa 16 1 (.t 28) (.t 22),
 none⟩,⟨0,none,(.store 1 (.t 29) (.t 27) []),none⟩]))) (.reg [] false [⟨0,some 30,.bin .add (.t 19) (.c (.int .i64 1)),none⟩,⟨0,some 19,(.mv
 (.t 30)),none⟩])))))
def x61:XFn:=⟨36,[(4,none)],false,false,
 (.seq (.reg [] false [⟨0,some 4,.mv (.c (.int .i64 0)),none⟩]) (.seq (.reg [] false [⟨0,some 9,.mv (.t 0),none⟩,⟨0,some 10,.nilck (.t 9),
 none⟩,⟨0,some 11,.load true 22 (.t 10),none⟩,⟨0,some 5,(.alloc [.int .i64 0,.nilsl,.nilsl,.int .i64 0,.int .i64 0,.int .i64 0,
 (.int .i64 0),.int .i64 0,.int .i64 0,.int .i64 0,.int .i64 0,.int .i64 0,.int .i64 0,.int .i64 0,.int .i64 0,.int .i64 0,(.int
 .i64 0),.int .i64 0,.int .i64 0,.int .i64 0,.int .i64 0,.int .i64 0]),none⟩,⟨0,none,(.store 22 (.t 5) (.t 11) []),none⟩]) (.seq (.reg []
 false [⟨0,some 12,.fld 0 (.t 5),none⟩,⟨0,some 13,.fld 3 (.t 12),none⟩,⟨0,some 14,.load false 1 (.t 13),none⟩,⟨0,some 15,.mv (.t
 1),none⟩,⟨0,some 16,.bin .andNot (.t 14) (.t 15),none⟩,⟨0,some 17,.fld 0 (.t 5),none⟩,⟨0,some 18,.fld 3 (.t 17),none⟩,⟨0,none,
 (.store 1 (.t 18) (.t 16) []),none⟩]) (.seq (.seq (.reg [] false [⟨0,some 19,.mv (.c (.int .i64 0)),none⟩]) (.block 0 aDX)) (.seq (.reg [(5,
 false)] false [⟨0,some 32,(.callf false (.c (.fn (.func 65) [] [])) [.t 5] []),none⟩,⟨0,some 31,.mv (.t 32),none⟩,⟨0,some 33,.ext (.t
 31) 0,none⟩,⟨0,some 34,.ext (.t 31) 1,none⟩,⟨0,some 7,.mv (.t 33),none⟩,⟨0,some 8,.mv (.t 34),none⟩]) (.seq (.reg [] false [⟨0,
 (some 35),.mv (.t 8),none⟩,⟨0,some 4,.mv (.t 35),none⟩]) .ret)))))),none⟩
theorem aRo:cW prog 61 x61.fn:=⟨fun vs w=>call61 vs w,_,_,func61,rfl,rfl,by kernel_rfl,by kernel_rfl⟩
theorem aQj:iA x61=true:=by kernel_rfl
theorem aPc:aQ x61 x61.body:=(aB rfl)

def x62:XFn:=⟨5,[(2,none)],false,false,
 (.seq (.reg [] false [⟨0,some 2,.mv (.c (.int .i64 0)),none⟩]) (.seq (.reg [] false [⟨0,some 3,.mv (.t 0),none⟩,⟨0,some 4,.bin .shl (.c
 (.int .i64 1)) (.t 3),none⟩,⟨0,some 2,.mv (.t 4),none⟩]) .ret)),none⟩
theorem aRn:cW prog 62 x62.fn:=⟨fun vs w=>call62 vs w,_,_,func62,rfl,rfl,by kernel_rfl,by kernel_rfl⟩
theorem aQi:iA x62=true:=by kernel_rfl
theorem aPb:aQ x62 x62.body:=(aB rfl)

def x63:XFn:=⟨6,[(2,none)],false,false,
 (.seq (.reg [] false [⟨0,some 2,.mv (.c .nilsl),none⟩]) (.seq (.reg [(0,false)] false [⟨0,some 3,.mv (.t 0),none⟩,⟨0,some 4,(.callf false
 (.c (.fn (.func 80) [] [])) [.t 3] []),none⟩,⟨0,some 5,(.callf false (.c (.fn (.func 79) [] [])) [.t 4] []),none⟩,⟨0,some 2,.mv (.t 5),
 none⟩]) .ret)),none⟩
theorem aRm:cW prog 63 x63.fn:=⟨fun vs w=>call63 vs w,_,_,func63,rfl,rfl,by kernel_rfl,by kernel_rfl⟩
theorem aQh:iA x63=true:=by kernel_rfl
theorem aPa:aQ x63 x63.body:=(aB rfl)

def uI:XCode :=
 (.loop [0,4,5,6] (.seq (.seq (.reg [] false [⟨0,some 12,.mv (.t 5),none⟩,⟨0,some 13,.mv (.t 0),none⟩,⟨0,some 14,.nilck (.t 13),
 none⟩,⟨0,some 15,.fld 0 (.t 14),none⟩,⟨0,some 16,.fld 0 (.t 15),none⟩,⟨0,some 17,.load false 1 (.t 16),none⟩,⟨0,some 18,(.bin
 .leq (.t 12) (.t 17)),none⟩,⟨0,some 19,.mv (.t 18),none⟩,⟨0,some 20,.mv (.t 6),some (19,true)⟩,⟨0,some 21,(.callf false (.t 20) []
 []),some (19,true)⟩,⟨0,some 22,.pick (.t 19) (.t 21) (.c (.bool false)),none⟩]) (.cond (.t 22) .skip (.exit 0))) (.block 1 (.reg [] false [⟨0,
 (some 23),.mv (.t 5),none⟩,⟨0,some 24,.bin .add (.t 23) (.c (.int .i64 1)),none⟩,⟨0,some 5,.mv (.t 24),none⟩]))))
def x65:XFn:=⟨27,[(2,none),(3,none)],false,false,
 (.seq (.reg [] false [⟨0,some 2,.mv (.c .nilpt),none⟩,⟨0,some 3,.mv (.c (.int .i64 0)),none⟩]) (.seq (.reg [] false [⟨0,some 7,.mv (.t
 0),none⟩,⟨0,some 8,(.build [.nilpt,.int .i64 0,.int .i64 0,.int .i64 0,.int .i64 0,.int .i64 0,.int .i64 0,.int .i64 0,(.int
 .i64 0),.int .i64 0,.int .i64 0,.int .i64 0,.int .i64 0,.int .i64 0,.int .i64 0,.int .i64 0,.int .i64 0,.int .i64 0,(.int .i64
 0),.int .i64 0,.int .i64 0,.int .i64 0,.int .i64 0,.int .i64 0,.int .i64 0,.int .i64 0,.int .i64 0,.int .i64 0,.int .i64 0,
 (.int .i64 0),.int .i64 0,.int .i64 0,.int .i64 0,.int .i64 0,.int .i64 0,.int .i64 0,.int .i64 0,.int .i64 0,.int .i64 0,(.int
 .i64 0),.int .i64 0,.int .i64 0,.int .i64 0,.int .i64 0,.int .i64 0,.int .i64 0,.int .i64 0,.int .i64 0,.int .i64 0,(.int .i64
 0),.int .i64 0,.int .i64 0,.int .i64 0,.int .i64 0,.int .i64 0,.int .i64 0,.int .i64 0,.int .i64 0,.int .i64 0,.int .i64 0,
 (.int .i64 0),.int .i64 0,.int .i64 0,.int .i64 0,.int .i64 0,.int .i64 0,.int .i64 0,.int .i64 0,.int .i64 0,.int .i64 0,(.int
 .i64 0),.int .i64 0,.int .i64 0,.int .i64 0,.int .i64 0,.int .i64 0,.int .i64 0,.int .i64 0,.int .i64 0,.int .i64 0,(.int .i64
 0),.int .i64 0,.int .i64 0,.int .i64 0,.int .i64 0,.int .i64 0,.int .i64 0,.int .i64 0,.int .i64 0,.int .i64 0,.int .i64 0,
 (.int .i64 0),.int .i64 0,.int .i64 0,.int .i64 0,.int .i64 0,.int .i64 0,.int .i64 0,.int .i64 0,.int .i64 0,.int .i64 0,(.int
 .i64 0),.int .i64 0,.int .i64 0,.int .i64 0,.int .i64 0,.int .i64 0,.int .i64 0,.int .i64 0,.int .i64 0,.int .i64 0,(.int .i64
 0),.int .i64 0,.int .i64 0,.int .i64 0,.int .i64 0,.int .i64 0,.int .i64 0,.int .i64 0,.int .i64 0,.int .i64 0,.int .i64 0,
 (.int .i64 0),.int .i64 0,.int .i64 0,.int .i64 0,.int .i64 0,.int .i64 0,.int .i64 0,.int .i64 0,.int .i64 0,.int .i64 0,(.int
 .i64 0),.int .i64 0,.int .i64 0,.int .i64 0,.int .i64 0,.int .i64 0,.int .i64 0,.int .i64 0,.int .i64 0,.int .i64 0,(.int .i64
 0),.int .i64 0,.int .i64 0,.int .i64 0,.int .i64 0,.int .i64 0,.int .i64 0,.int .i64 0,.int .i64 0,.int .i64 0,.int .i64 0,
 (.int .i64 0),.int .i64 0,.int .i64 0,.int .i64 0,.int .i64 0,.int .i64 0,.int .i64 0,.int .i64 0,.int .i64 0,.int .i64 0,(.int
 .i64 0),.int .i64 0,.int .i64 0,.int .i64 0,.int .i64 0,.int .i64 0,.int .i64 0,.int .i64 0,.int .i64 0,.int .i64 0,(.int .i64
 0),.int .i64 0,.int .i64 0,.int .i64 0,.int .i64 0,.int .i64 0,.int .i64 0,.int .i64 0,.int .i64 0,.int .i64 0,.int .i64 0,
 (.int .i64 0),.int .i64 0,.int .i64 0,.int .i64 0,.int .i64 0,.int .i64 0,.int .i64 0,.int .i64 0,.int .i64 0,.int .i64 0,(.int
 .i64 0),.int .i64 0,.int .i64 0,.int .i64 0,.int .i64 0,.int .i64 0,.int .i64 0,.int .i64 0,.int .i64 0,.int .i64 0,(.int .i64
 0),.int .i64 0,.int .i64 0,.int .i64 0,.int .i64 0,.int .i64 0,.int .i64 0,.int .i64 0,.int .i64 0,.int .i64 0,.int .i64 0,
 (.int .i64 0),.int .i64 0,.int .i64 0,.int .i64 0,.int .i64 0,.int .i64 0,.int .i64 0,.int .i64 0,.int .i64 0,.int .i64 0,(.int
 .i64 0),.int .i64 0,.int .i64 0,.int .i64 0,.int .i64 0,.int .i64 0,.int .i64 0,.int .i64 0,.int .i64 0,.int .i64 0,(.int .i64
 0),.int .i64 0,.int .i64 0,.int .i64 0,.int .i64 0,.int .i64 0,.int .i64 0,.int .i64 0,.int .i64 0,.int .i64 0,.int .i64 0,
 (.int .i64 0),.int .i64 0,.int .i64 0,.int .i64 0,.int .i64 0,.int .i64 0,.int .i64 0,.int .i64 0,.int .i64 0,.int .i64 0,(.int
 .i64 0),.int .i64 0,.int .i64 0,.int .i64 0,.int .i64 0,.int .i64 0,.int .i64 0,.int .i64 0,.int .i64 0,.int .i64 0,(.int .i64
 0),.int .i64 0,.int .i64 0,.int .i64 0,.int .i64 0,.int .i64 0,.int .i64 0,.int .i64 0,.int .i64 0,.int .i64 0,.int .i64 0,
 (.int .i64 0),.int .i64 0,.int .i64 0,.int .i64 0,.int .i64 0,.int .i64 0,.int .i64 0,.int .i64 0,.int .i64 0,.int .i64 0,(.int
 .i64 0),.int .i64 0,.int .i64 0,.int .i64 0,.int .i64 0,.int .i64 0,.int .i64 0,.int .i64 0,.int .i64 0,.int .i64 0,(.int .i64
 0),.int .i64 0,.int .i64 0,.int .i64 0,.int .i64 0,.int .i64 0,.int .i64 0,.int .i64 0,.int .i64 0,.int .i64 0,.int .i64 0,
 (.int .i64 0),.int .i64 0,.int .i64 0,.int .i64 0,.int .i64 0,.int .i64 0,.int .i64 0,.int .i64 0,.int .i64 0,.int .i64 0,(.int
 .i64 0),.int .i64 0,.int .i64 0,.int .i64 0,.int .i64 0,.int .i64 0,.int .i64 0,.int .i64 0,.int .i64 0,.int .i64 0,(.int .i64
 0),.int .i64 0,.int .i64 0,.int .i64 0,.int .i64 0,.int .i64 0,.int .i64 0,.int .i64 0,.int .i64 0,.int .i64 0,.int .i64 0,
 (.int .i64 0),.int .i64 0,.int .i64 0,.int .i64 0,.int .i64 0,.int .i64 0,.int .i64 0,.int .i64 0,.int .i64 0,.int .i64 0,(.int
 .i64 0),.int .i64 0,.int .i64 0,.int .i64 0,.int .i64 0,.int .i64 0,.int .i64 0,.int .i64 0,.int .i64 0,.int .i64 0,(.int .i64
 0),.int .i64 0,.int .i64 0,.int .i64 0,.int .i64 0,.int .i64 0,.int .i64 0,.int .i64 0,.int .i64 0,.int .i64 0,.int .i64 0,
 (.int .i64 0),.int .i64 0,.int .i64 0,.int .i64 0,.int .i64 0,.int .i64 0,.int .i64 0,.int .i64 0,.int .i64 0,.int .i64 0,(.int
 .i64 0),.int .i64 0,.int .i64 0,.int .i64 0,.int .i64 0,.int .i64 0,.int .i64 0,.int .i64 0,.int .i64 0,.int .i64 0,(.int .i64
 0),.int .i64 0,.int .i64 0,.int .i64 0,.int .i64 0,.int .i64 0,.int .i64 0,.int .i64 0,.int .i64 0,.int .i64 0,.int .i64 0,
 (.int .i64 0),.int .i64 0,.int .i64 0,.int .i64 0,.int .i64 0,.int .i64 0,.int .i64 0,.int .i64 0,.int .i64 0,.int .i64 0,(.int
 .i64 0),.int .i64 0,.int .i64 0,.int .i64 0,.int .i64 0,.int .i64 0,.int .i64 0,.int .i64 0,.int .i64 0,.int .i64 0,(.int .i64
 0),.int .i64 0,.int .i64 0,.int .i64 0,.int .i64 0,.int .i64 0,.int .i64 0,.int .i64 0,.int .i64 0,.int .i64 0,.int .i64 0,
 (.int .i64 0),.int .i64 0,.int .i64 0,.int .i64 0,.int .i64 0,.int .i64 0,.int .i64 0,.int .i64 0,.int .i64 0,.int .i64 0,(.int
 .i64 0),.int .i64 0,.int .i64 0,.int .i64 0,.int .i64 0,.int .i64 0,.int .i64 0,.int .i64 0,.int .i64 0,.int .i64 0,(.int .i64
 0),.int .i64 0,.int .i64 0,.int .i64 0,.int .i64 0,.int .i64 0,.int .i64 0,.int .i64 0,.int .i64 0,.int .i64 0,.int .i64 0,
 (.int .i64 0),.int .i64 0,.int .i64 0,.int .i64 0,.int .i64 0,.int .i64 0,.int .i64 0,.int .i64 0,.int .i64 0,.int .i64 0,(.int
 .i64 0),.int .i64 0,.int .i64 0,.int .i64 0,.int .i64 0,.int .i64 0,.int .i64 0,.int .i64 0,.int .i64 0,.int .i64 0,(.int .i64
 0),.int .i64 0,.int .i64 0,.int .i64 0,.int .i64 0,.int .i64 0,.int .i64 0,.int .i64 0,.int .i64 0,.int .i64 0,.int .i64 0,
 (.int .i64 0),.int .i64 0,.int .i64 0,.int .i64 0,.int .i64 0,.int .i64 0,.int .i64 0,.int .i64 0,.int .i64 0,.int .i64 0,(.int
 .i64 0),.int .i64 0,.int .i64 0,.int .i64 0,.int .i64 0,.int .i64 0,.int .i64 0,.int .i64 0,.int .i64 0,.int .i64 0,(.int .i64
 0),.int .i64 0,.int .i64 0,.int .i64 0,.int .i64 0,.int .i64 0,.int .i64 0,.int .i64 0,.int .i64 0,.int .i64 0,.int .i64 0,
 (.int .i64 0),.int .i64 0,.int .i64 0,.int .i64 0,.int .i64 0,.int .i64 0,.int .i64 0,.int .i64 0,.int .i64 0,.int .i64 0,(.int
 .i64 0),.int .i64 0,.int .i64 0,.int .i64 0,.int .i64 0,.int .i64 0,.int .i64 0,.int .i64 0,.int .i64 0,.int .i64 0,(.int .i64
 0),.int .i64 0,.int .i64 0,.int .i64 0,.int .i64 0,.int .i64 0,.int .i64 0,.int .i64 0,.int .i64 0,.int .i64 0,.int .i64 0,
 (.int .i64 0),.int .i64 0,.int .i64 0,.int .i64 0,.int .i64 0,.int .i64 0,.int .i64 0,.int .i64 0,.int .i64 0,.int .i64 0,(.int
 .i64 0),.int .i64 0,.int .i64 0,.int .i64 0,.int .i64 0,.int .i64 0,.int .i64 0,.int .i64 0,.int .i64 0,.int .i64 0,(.int .i64
 0),.int .i64 0,.int .i64 0,.int .i64 0,.int .i64 0,.int .i64 0,.int .i64 0,.int .i64 0,.int .i64 0,.int .i64 0,.int .i64 0,
 (.int .i64 0),.int .i64 0,.int .i64 0,.int .i64 0,.int .i64 0,.int .i64 0,.int .i64 0,.int .i64 0,.int .i64 0,.int .i64 0,(.int
 .i64 0),.int .i64 0,.int .i64 0,.int .i64 0,.int .i64 0,.int .i64 0,.int .i64 0,.int .i64 0,.int .i64 0,.int .i64 0,(.int .i64
 0),.int .i64 0,.int .i64 0,.int .i64 0,.int .i64 0,.int .i64 0,.int .i64 0,.int .i64 0,.int .i64 0,.int .i64 0,.int .i64 0,
 (.int .i64 0),.int .i64 0,.int .i64 0,.int .i64 0,.int .i64 0,.int .i64 0,.int .i64 0,.int .i64 0,.int .i64 0,.int .i64 0,(.int
 .i64 0),.int .i64 0,.int .i64 0,.int .i64 0,.int .i64 0,.int .i64 0,.int .i64 0,.int .i64 0,.int .i64 0,.int .i64 0,(.int .i64
 0),.int .i64 0,.int .i64 0,.int .i64 0,.int .i64 0,.int .i64 0,.int .i64 0,.int .i64 0,.int .i64 0,.int .i64 0,.int .i64 0,
 (.int .i64 0),.int .i64 0,.int .i64 0,.int .i64 0,.int .i64 0,.int .i64 0,.int .i64 0,.int .i64 0,.int .i64 0,.int .i64 0,(.int
 .i64 0),.int .i64 0,.int .i64 0,.int .i64 0,.int .i64 0,.int .i64 0,.int .i64 0,.int .i64 0,.int .i64 0,.int .i64 0,(.int .i64
 0),.int .i64 0,.int .i64 0,.int .i64 0,.int .i64 0,.int .i64 0,.int .i64 0,.int .i64 0,.int .i64 0,.int .i64 0,.int .i64 0,
 (.int .i64 0),.int .i64 0,.int .i64 0,.int .i64 0,.int .i64 0,.int .i64 0,.int .i64 0,.int .i64 0,.int .i64 0,.int .i64 0,(.int
 .i64 0),.int .i64 0,.int .i64 0,.int .i64 0,.int .i64 0,.int .i64 0,.int .i64 0,.int .i64 0,.int .i64 0,.int .i64 0,(.int .i64
 0),.int .i64 0,.int .i64 0,.int .i64 0,.int .i64 0,.int .i64 0,.int .i64 0,.int .i64 0,.int .i64 0,.int .i64 0,.int .i64 0,
 (.int .i64 0),.int .i64 0,.int .i64 0,.int .i64 0,.int .i64 0,.int .i64 0,.int .i64 0,.int .i64 0,.int .i64 0,.int .i64 0,(.int
 .i64 0),.int .i64 0,.int .i64 0,.int .i64 0,.int .i64 0,.int .i64 0,.int .i64 0,.int .i64 0,.int .i64 0,.int .i64 0,(.int .i64
 0),.int .i64 0,.int .i64 0,.int .i64 0,.int .i64 0,.int .i64 0,.int .i64 0,.int .i64 0,.int .i64 0,.int .i64 0,.int .i64 0,
 (.int .i64 0),.int .i64 0,.int .i64 0,.int .i64 0,.int .i64 0,.int .i64 0,.int .i64 0,.int .i64 0,.int .i64 0,.int .i64 0,(.int
 .i64 0),.int .i64 0,.int .i64 0,.int .i64 0,.int .i64 0,.int .i64 0,.int .i64 0,.int .i64 0,.int .i64 0,.int .i64 0,(.int .i64
 0),.int .i64 0,.int .i64 0,.int .i64 0,.int .i64 0,.int .i64 0,.int .i64 0,.int .i64 0,.int .i64 0,.int .i64 0,.int .i64 0,
 (.int .i64 0),.int .i64 0,.int .i64 0,.int .i64 0,.int .i64 0,.int .i64 0,.int .i64 0,.int .i64 0,.int .i64 0,.int .i64 0,(.int
 .i64 0),.int .i64 0,.int .i64 0,.int .i64 0,.int .i64 0,.int .i64 0,.int .i64 0,.int .i64 0,.int .i64 0,.int .i64 0,(.int .i64
 0),.int .i64 0,.int .i64 0,.int .i64 0,.int .i64 0,.int .i64 0,.int .i64 0,.int .i64 0,.int .i64 0,.int .i64 0,.int .i64 0,
 (.int .i64 0),.int .i64 0,.int .i64 0,.int .i64 0,.int .i64 0,.int .i64 0,.int .i64 0,.int .i64 0,.int .i64 0,.int .i64 0,(.int
 .i64 0),.int .i64 0,.int .i64 0,.int .i64 0,.int .i64 0,.int .i64 0,.int .i64 0,.int .i64 0,.int .i64 0,.int .i64 0,(.int .i64
 0),.int .i64 0,.int .i64 0,.int .i64 0,.int .i64 0,.int .i64 0,.int .i64 0,.int .i64 0,.int .i64 0,.int .i64 0,.int .i64 0,
 (.int .i64 0),.int .i64 0,.int .i64 0,.int .i64 0,.int .i64 0,.int .i64 0,.int .i64 0,.int .i64 0,.int .i64 0,.int .i64 0,(.int
 .i64 0),.int .i64 0,.int .i64 0,.int .i64 0,.int .i64 0,.int .i64 0,.int .i64 0,.int .i64 0,.int .i64 0,.int .i64 0,(.int .i64
 0),.int .i64 0,.int .i64 0,.int .i64 0,.int .i64 0,.int .i64 0,.int .i64 0,.int .i64 0,.int .i64 0,.int .i64 0,.int .i64 0,
 (.int .i64 0),.int .i64 0,.int .i64 0,.int .i64 0,.int .i64 0,.int .i64 0,.int .i64 0,.int .i64 0,.int .i64 0,.int .i64 0,(.int
 .i64 0),.int .i64 0,.int .i64 0,.int .i64 0,.int .i64 0,.int .i64 0,.int .i64 0,.int .i64 0,.int .i64 0,.int .i64 0,(.int .i64
 0),.int .i64 0,.int .i64 0,.int .i64 0,.int .i64 0,.int .i64 0,.int .i64 0,.int .i64 0,.int .i64 0,.int .i64 0,.int .i64 0,
 (.int .i64 0),.int .i64 0,.int .i64 0,.int .i64 0,.int .i64 0,.int .i64 0,.int .i64 0,.int .i64 0,.int .i64 0,.int .i64 0,(.int
 .i64 0),.int .i64 0,.int .i64 0,.int .i64 0,.int .i64 0,.int .i64 0,.int .i64 0,.int .i64 0,.int .i64 0,.int .i64 0,(.int .i64
 0),.int .i64 0,.int .i64 0,.int .i64 0,.int .i64 0,.int .i64 0,.int .i64 0,.int .i64 0,.int .i64 0,.int .i64 0,.int .i64 0,
 (.int .i64 0),.int .i64 0,.int .i64 0,.int .i64 0,.int .i64 0,.int .i64 0,.int .i64 0,.int .i64 0,.int .i64 0,.int .i64 0,(.int
 .i64 0),.int .i64 0,.int .i64 0,.int .i64 0,.int .i64 0,.int .i64 0,.int .i64 0,.int .i64 0,.int .i64 0,.int .i64 0,(.int .i64
 0),.int .i64 0,.int .i64 0,.int .i64 0,.int .i64 0,.int .i64 0,.int .i64 0,.int .i64 0,.int .i64 0,.int .i64 0,.int .i64 0,
 (.int .i64 0),.int .i64 0,.int .i64 0,.int .i64 0,.int .i64 0,.int .i64 0,.int .i64 0,.int .i64 0,.int .i64 0,.int .i64 0,(.int
 .i64 0),.int .i64 0,.int .i64 0,.int .i64 0,.int .i64 0,.int .i64 0,.int .i64 0,.int .i64 0,.int .i64 0,.int .i64 0,(.int .i64
 0),.int .i64 0,.int .i64 0,.int .i64 0,.int .i64 0,.int .i64 0,.int .i64 0,.int .i64 0,.int .i64 0,.int .i64 0,.int .i64 0,
 (.int .i64 0),.int .i64 0,.int .i64 0,.int .i64 0,.int .i64 0,.int .i64 0,.int .i64 0,.int .i64 0,.int .i64 0,.int .i64 0,(.int
 .i64 0),.int .i64 0,.int .i64 0,.int .i64 0,.int .i64 0,.int .i64 0,.int .i64 0,.int .i64 0,.int .i64 0,.int .i64 0,(.int .i64
 0),.int .i64 0,.int .i64 0,.int .i64 0,.int .i64 0,.int .i64 0,.int .i64 0,.int .i64 0,.int .i64 0,.int .i64 0,.int .i64 0,
 (.int .i64 0),.int .i64 0,.int .i64 0,.int .i64 0,.int .i64 0,.int .i64 0,.int .i64 0,.int .i64 0,.int .i64 0,.int .i64 0,(.int
 .i64 0),.int .i64 0,.int .i64 0,.int .i64 0,.int .i64 0,.int .i64 0,.int .i64 0,.int .i64 0,.int .i64 0,.int .i64 0,(.int .i64
 0),.int .i64 0,.int .i64 0,.int .i64 0,.int .i64 0,.int .i64 0,.int .i64 0,.int .i64 0,.int .i64 0,.int .i64 0,.int .i64 0,
 (.int .i64 0),.int .i64 0,.int .i64 0,.int .i64 0,.int .i64 0,.int .i64 0,.int .i64 0,.int .i64 0,.int .i64 0,.int .i64 0,(.int
 .i64 0),.int .i64 0,.int .i64 0,.int .i64 0,.int .i64 0,.int .i64 0,.int .i64 0,.int .i64 0,.int .i64 0,.int .i64 0,(.int .i64
 0),.int .i64 0,.int .i64 0,.int .i64 0,.int .i64 0,.int .i64 0,.int .i64 0,.int .i64 0,.int .i64 0,.int .i64 0,.int .i64 0,
 (.int .i64 0),.int .i64 0,.int .i64 0,.int .i64 0,.int .i64 0,.int .i64 0,.int .i64 0,.int .i64 0,.int .i64 0,.int .i64 0,(.int
 .i64 0),.int .i64 0,.int .i64 0,.int .i64 0,.int .i64 0,.int .i64 0,.int .i64 0,.int .i64 0,.int .i64 0,.int .i64 0,(.int .i64
 0),.int .i64 0,.int .i64 0,.int .i64 0,.int .i64 0,.int .i64 0,.int .i64 0,.int .i64 0,.int .i64 0,.int .i64 0,.int .i64 0,
 (.int .i64 0),.int .i64 0,.int .i64 0,.int .i64 0,.int .i64 0,.int .i64 0,.int .i64 0,.int .i64 0,.int .i64 0,.int .i64 0,(.int
 .i64 0),.int .i64 0,.int .i64 0,.int .i64 0,.int .i64 0,.int .i64 0,.int .i64 0,.int .i64 0,.int .i64 0,.int .i64 0,(.int .i64
 0),.int .i64 0,.int .i64 0,.int .i64 0,.int .i64 0,.int .i64 0,.int .i64 0,.int .i64 0,.int .i64 0,.int .i64 0,.int .i64 0,
 (.int .i64 0),.int .i64 0,.int .i64 0,.int .i64 0,.int .i64 0,.int .i64 0,.int .i64 0,.int .i64 0,.int .i64 0,.int .i64 0,(.int
 .i64 0),.int .i64 0] [(0,(1,(.t 7)))]),none⟩,⟨0,some 9,.box (.t 8),none⟩,⟨0,some 4,.mv (.t 9),none⟩]) (.seq (.reg [] false [⟨0,(some
 5),.mv (.c (.int .i64 0)),none⟩]) (.seq (.reg [] false [⟨0,some 10,.mv (.t 4),none⟩,⟨0,some 11,(.mkf (.func 81) [.t 10] []),none⟩,⟨0,
 (some 6),.mv (.t 11),none⟩]) (.seq (.block 0 uI) (.seq (.reg [] false [⟨0,some 25,.mv (.t 4),none⟩,⟨0,some 26,.mv (.t 5),none⟩,⟨0,
 (some 2),.mv (.t 25),none⟩,⟨0,some 3,.mv (.t 26),none⟩]) .ret)))))),none⟩
theorem aRl:cW prog 65 x65.fn:=⟨fun vs w=>call65 vs w,_,_,func65,rfl,rfl,by kernel_rfl,by kernel_rfl⟩
theorem aQg:iA x65=true:=by kernel_rfl
theorem aOZ:aQ x65 x65.body:=(aB rfl)

def iM:XCode :=
 (.loop [0,1,7,8] (.seq (.reg [] false [⟨0,some 9,.bin .lss (.t 8) (.t 7),none⟩]) (.seq (.cond (.t 9) .skip (.exit 0)) (.seq (.block 1 (.seq (.reg []
 false [⟨0,some 10,.mv (.t 8),none⟩,⟨0,some 5,.mv (.t 10),none⟩]) (.seq (.reg [] false [⟨0,some 11,.mv (.t 1),none⟩,⟨0,some 12,
 (.mv (.t 0)),none⟩,⟨0,some 13,.mv (.t 5),none⟩,⟨0,some 14,.idx 1 (.t 12) (.t 13),none⟩,⟨0,some 15,.load false 1 (.t 14),none⟩,⟨0,
 (some 16),(.callf false (.t 11) [.t 15] []),none⟩]) (.cond (.t 16) (.seq (.reg [] false [⟨0,some 17,.mv (.t 5),none⟩,⟨0,some 4,.mv (.t
 17),none⟩]) .ret) .skip)))) (.reg [] false [⟨0,some 18,.bin .add (.t 8) (.c (.int .i64 1)),none⟩,⟨0,some 8,.mv (.t 18),none⟩])))))
def x66:XFn:=⟨19,[(4,none)],false,false,
 (.seq (.reg [] false [⟨0,some 4,.mv (.c (.int .i64 0)),none⟩]) (.seq (.seq (.reg [] false [⟨0,some 6,.mv (.t 0),none⟩,⟨0,some 7,(.len false
 (.t 6)),none⟩,⟨0,some 8,.mv (.c (.int .i64 0)),none⟩]) (.block 0 iM)) (.seq (.reg [] false [⟨0,some 4,.mv (.c (.int .i64 (-1))),none⟩])
 .ret))),none⟩
theorem aRk:cW prog 66 x66.fn:=⟨fun vs w=>call66 vs w,_,_,func66,rfl,rfl,by kernel_rfl,by kernel_rfl⟩
theorem aQf:iA x66=true:=by kernel_rfl
theorem aOY:aQ x66 x66.body:=(aB rfl)

def x67:XFn:=⟨5,[(2,none)],false,false,
 (.seq (.reg [] false [⟨0,some 2,.mv (.c (.bool false)),none⟩]) (.seq (.reg [] false [⟨0,some 3,.mv (.t 0),none⟩,⟨0,some 4,(.bin .gtr (.t 3)
 (.c (.int .i64 0))),none⟩,⟨0,some 2,.mv (.t 4),none⟩]) .ret)),none⟩
theorem aRj:cW prog 67 x67.fn:=⟨fun vs w=>call67 vs w,_,_,func67,rfl,rfl,by kernel_rfl,by kernel_rfl⟩
theorem aQe:iA x67=true:=by kernel_rfl
theorem aOX:aQ x67 x67.body:=(aB rfl)

def nD:XCode :=
 (.loop [0,1,7,8] (.seq (.reg [] false [⟨0,some 9,.bin .lss (.t 8) (.t 7),none⟩]) (.seq (.cond (.t 9) .skip (.exit 0)) (.seq (.block 1 (.seq (.reg []
 false [⟨0,some 10,.mv (.t 8),none⟩,⟨0,some 5,.mv (.t 10),none⟩]) (.seq (.reg [] false [⟨0,some 11,.mv (.t 1),none⟩,⟨0,some 12,
 (.mv (.t 0)),none⟩,⟨0,some 13,.mv (.t 5),none⟩,⟨0,some 14,.idx 1 (.t 12) (.t 13),none⟩,⟨0,some 15,.load false 1 (.t 14),none⟩,⟨0,
 (some 16),.bin .eql (.t 11) (.t 15),none⟩]) (.cond (.t 16) (.seq (.reg [] false [⟨0,some 17,.mv (.t 5),none⟩,⟨0,some 4,.mv (.t 17),
 none⟩]) .ret) .skip)))) (.reg [] false [⟨0,some 18,.bin .add (.t 8) (.c (.int .i64 1)),none⟩,⟨0,some 8,.mv (.t 18),none⟩])))))
def x68:XFn:=⟨19,[(4,none)],false,false,
 (.seq (.reg [] false [⟨0,some 4,.mv (.c (.int .i64 0)),none⟩]) (.seq (.seq (.reg [] false [⟨0,some 6,.mv (.t 0),none⟩,⟨0,some 7,(.len false
 (.t 6)),none⟩,⟨0,some 8,.mv (.c (.int .i64 0)),none⟩]) (.block 0 nD)) (.seq (.reg [] false [⟨0,some 4,.mv (.c (.int .i64 (-1))),none⟩])
 .ret))),none⟩
theorem aRi:cW prog 68 x68.fn:=⟨fun vs w=>call68 vs w,_,_,func68,rfl,rfl,by kernel_rfl,by kernel_rfl⟩
theorem aQd:iA x68=true:=by kernel_rfl
theorem aOW:aQ x68 x68.body:=(aB rfl)

def x70:XFn:=⟨9,[(4,none)],false,false,
 (.seq (.reg [] false [⟨0,some 4,.mv (.c (.bool false)),none⟩]) (.seq (.reg [(0,false),(1,false)] false [⟨0,some 5,.mv (.t 0),none⟩,⟨0,(some
 6),.mv (.t 1),none⟩,⟨0,some 7,(.callf false (.c (.fn (.func 66) [] [])) [.t 5,.t 6] []),none⟩,⟨0,some 8,.bin .geq (.t 7) (.c (.int .i64
 0)),none⟩,⟨0,some 4,.mv (.t 8),none⟩]) .ret)),none⟩
theorem aRh:cW prog 70 x70.fn:=⟨fun vs w=>call70 vs w,_,_,func70,rfl,rfl,by kernel_rfl,by kernel_rfl⟩
theorem aQc:iA x70=true:=by kernel_rfl
theorem aOV:aQ x70 x70.body:=(aB rfl)

def x71:XFn:=⟨10,[(3,none)],false,false,
 (.seq (.reg [] false [⟨0,some 3,.mv (.c (.bool false)),none⟩]) (.seq (.reg [(0,false)] false [⟨0,some 4,.mv (.t 0),none⟩,⟨0,some 5,(.fld 0
 (.t 1)),none⟩,⟨0,some 6,.load false 1 (.t 5),none⟩,⟨0,some 7,.bin .sub (.t 6) (.c (.int .i64 1)),none⟩,⟨0,some 8,(.callf false (.c
 (.fn (.func 45) [] [])) [.c (.int .i64 0),.t 4,.t 7] []),none⟩,⟨0,some 9,.not (.t 8),none⟩,⟨0,some 3,.mv (.t 9),none⟩]) .ret)),none⟩
theorem aRg:cW prog 71 x71.fn:=⟨fun vs w=>call71 vs w,_,_,func71,rfl,rfl,by kernel_rfl,by kernel_rfl⟩
theorem aQb:iA x71=true:=by kernel_rfl
theorem aOU:aQ x71 x71.body:=(aB rfl)

def jM:XCode :=
 (.loop [0,1,5,8,9,10] (.seq (.reg [] false [⟨0,some 11,.bin .lss (.t 10) (.t 9),none⟩]) (.seq (.cond (.t 11) .skip (.exit 0)) (.seq (.block 1
 (.seq (.reg [] false [⟨0,some 12,.mv (.t 10),none⟩,⟨0,some 13,.idx 1 (.t 8) (.t 10),none⟩,⟨0,some 14,.load false 1 (.t 13),none⟩,⟨0,
 (some 6),.mv (.t 12),none⟩,⟨0,some 7,.mv (.t 14),none⟩]) (.seq (.seq (.reg [(7,false)] true [⟨0,some 15,.mv (.t 5),none⟩,⟨1,some 16,
 (.mv (.t 7)),none⟩,⟨2,some 17,(.callf false (.c (.fn (.func 60) [] [])) [.t 15,.t 16] []),none⟩,⟨3,some 18,.mv (.t 17),none⟩,⟨4,(some
 19),.mv (.t 6),some (18,false)⟩,⟨5,some 20,.bin .gtr (.t 19) (.c (.int .i64 0)),some (18,false)⟩,⟨6,some 21,.mv (.t 20),some (18,
 false)⟩,⟨7,some 22,.mv (.t 0),some (21,true)⟩,⟨8,some 23,.mv (.t 1),some (21,true)⟩,⟨9,some 24,.mv (.t 6),some (21,true)⟩,
 ⟨10,some 25,.bin .sub (.t 24) (.c (.int .i64 1)),some (21,true)⟩,⟨11,some 26,.idx 1 (.t 23) (.t 25),some (21,true)⟩,⟨12,some 27,
 (.load false 1 (.t 26)),some (21,true)⟩,⟨13,some 28,.nilck (.t 22),some (21,true)⟩,⟨14,some 29,.fld 6 (.t 28),some (21,true)⟩,
 ⟨15,some 30,.idxa 16 1 (.t 29) (.t 27),some (21,true)⟩,⟨16,some 31,.load false 1 (.t 30),some (21,true)⟩,⟨17,some 32,.mv (.t 7),
 (some (21,true))⟩,⟨18,some 33,(.callf false (.c (.fn (.func 60) [] [])) [.t 31,.t 32] []),some (21,true)⟩,⟨19,some 34,.not (.t 33),
 (some (21,true))⟩,⟨20,some 35,.pick (.t 21) (.t 34) (.c (.bool false)),some (18,false)⟩,⟨21,some 36,.pick (.t 18) (.c (.bool true)) (.t
 35),none⟩]) (.cond (.t 36) (.seq (.reg [] false [⟨0,some 4,.mv (.c (.bool false)),none⟩]) .ret) .skip)) (.reg [(7,false)] false [⟨0,some 37,
 (.mv (.t 5)),none⟩,⟨0,some 38,.mv (.t 7),none⟩,⟨0,some 39,(.callf false (.c (.fn (.func 62) [] [])) [.t 38] []),none⟩,⟨0,some 40,(.bin
 .or (.t 37) (.t 39)),none⟩,⟨0,some 5,.mv (.t 40),none⟩])))) (.reg [] false [⟨0,some 41,.bin .add (.t 10) (.c (.int .i64 1)),none⟩,⟨0,(some
 10),.mv (.t 41),none⟩])))))
def x72:XFn:=⟨65,[(4,none)],false,false,
 (.seq (.reg [] false [⟨0,some 4,.mv (.c (.bool false)),none⟩]) (.seq (.reg [] false [⟨0,some 5,.mv (.c (.int .i64 0)),none⟩]) (.seq (.seq (.reg
 [] false [⟨0,some 8,.mv (.t 1),none⟩,⟨0,some 9,.len false (.t 8),none⟩,⟨0,some 10,.mv (.c (.int .i64 0)),none⟩]) (.block 0 jM))
 (.seq (.reg [(0,true)] true [⟨0,some 42,.mv (.t 0),none⟩,⟨1,some 43,.nilck (.t 42),none⟩,⟨2,some 44,.fld 0 (.t 43),none⟩,⟨3,(some
 45),.fld 3 (.t 44),none⟩,⟨4,some 46,.load false 1 (.t 45),none⟩,⟨5,some 47,.mv (.t 1),none⟩,⟨6,some 48,.idx 1 (.t 47) (.c (.int
 .i64 0)),none⟩,⟨7,some 49,.load false 1 (.t 48),none⟩,⟨8,some 50,(.callf false (.c (.fn (.func 60) [] [])) [.t 46,.t 49] []),none⟩,⟨9,
 (some 51),.mv (.t 50),none⟩,⟨10,some 52,.mv (.t 0),some (51,true)⟩,⟨11,some 53,.nilck (.t 52),some (51,true)⟩,⟨12,some 54,
 (.fld 0 (.t 53)),some (51,true)⟩,⟨13,some 55,.fld 4 (.t 54),some (51,true)⟩,⟨14,some 56,.load false 1 (.t 55),some (51,true)⟩,
 ⟨15,some 57,.mv (.t 1),some (51,true)⟩,⟨16,some 58,.mv (.t 1),some (51,true)⟩,⟨17,some 59,.len false (.t 58),some (51,
 true)⟩,⟨18,some 60,.bin .sub (.t 59) (.c (.int .i64 1)),some (51,true)⟩,⟨19,some 61,.idx 1 (.t 57) (.t 60),some (51,true)⟩,⟨20,
 (some 62),.load false 1 (.t 61),some (51,true)⟩,⟨21,some 63,(.callf false (.c (.fn (.func 60) [] [])) [.t 56,.t 62] []),some (51,
 true)⟩,⟨22,some 64,.pick (.t 51) (.t 63) (.c (.bool false)),none⟩,⟨23,some 4,.mv (.t 64),none⟩]) .ret)))),none⟩
theorem aRf:cW prog 72 x72.fn:=⟨fun vs w=>call72 vs w,_,_,func72,rfl,rfl,by kernel_rfl,by kernel_rfl⟩
theorem aQa:iA x72=true:=by kernel_rfl
theorem aOT:aQ x72 x72.body:=(aB rfl)

def pO:XCode :=
 (.loop [1,2,3,12,13,14] (.seq (.reg [] false [⟨0,some 15,.bin .lss (.t 14) (.t 13),none⟩]) (.seq (.cond (.t 15) .skip (.exit 0)) (.seq (.block 1
 (.seq (.reg [] false [⟨0,some 16,.idx 2 (.t 12) (.t 14),none⟩,⟨0,some 17,.load true 2 (.t 16),none⟩,⟨0,some 8,(.alloc [.int .i64 0,
 (.int .i64 0)]),none⟩,⟨0,none,(.store 2 (.t 8) (.t 17) []),none⟩]) (.seq (.reg [] false [⟨0,some 18,.idxa 2 1 (.t 8) (.c (.int .i64 0)),none⟩,
 ⟨0,some 19,.load false 1 (.t 18),none⟩,⟨0,some 20,.mv (.t 1),none⟩,⟨0,some 21,.bin .eql (.t 19) (.t 20),none⟩,⟨0,some 22,(.mv
 (.t 21)),none⟩,⟨0,some 23,.idxa 2 1 (.t 8) (.c (.int .i64 1)),some (22,true)⟩,⟨0,some 24,.load false 1 (.t 23),some (22,true)⟩,⟨0,
 (some 25),.mv (.t 2),some (22,true)⟩,⟨0,some 26,.bin .eql (.t 24) (.t 25),some (22,true)⟩,⟨0,some 27,.pick (.t 22) (.t 26) (.c
 (.bool false)),none⟩,⟨0,some 28,.mv (.t 27),none⟩,⟨0,some 29,.idxa 2 1 (.t 8) (.c (.int .i64 0)),some (28,false)⟩,⟨0,some 30,
 (.load false 1 (.t 29)),some (28,false)⟩,⟨0,some 31,.mv (.t 2),some (28,false)⟩,⟨0,some 32,.bin .eql (.t 30) (.t 31),some (28,
 false)⟩,⟨0,some 33,.mv (.t 32),some (28,false)⟩,⟨0,some 34,.idxa 2 1 (.t 8) (.c (.int .i64 1)),some (33,true)⟩,⟨0,some 35,(.load
 false 1 (.t 34)),some (33,true)⟩,⟨0,some 36,.mv (.t 1),some (33,true)⟩,⟨0,some 37,.bin .eql (.t 35) (.t 36),some (33,true)⟩,⟨0,
 (some 38),.pick (.t 33) (.t 37) (.c (.bool false)),some (28,false)⟩,⟨0,some 39,.pick (.t 28) (.c (.bool true)) (.t 38),none⟩]) (.cond (.t 39)
 (.seq (.reg [] false [⟨0,some 6,.mv (.c (.bool true)),none⟩]) .ret) .skip)))) (.reg [] false [⟨0,some 40,.bin .add (.t 14) (.c (.int .i64 1)),
 none⟩,⟨0,some 14,.mv (.t 40),none⟩])))))
def qW:XCode :=
 (.loop [1,2,42,43,44] (.seq (.reg [] false [⟨0,some 45,.bin .lss (.t 44) (.t 43),none⟩]) (.seq (.cond (.t 45) .skip (.exit 2)) (.seq (.block 3
 (.seq (.reg [] false [⟨0,some 46,.idx 3 (.t 42) (.t 44),none⟩,⟨0,some 47,.load true 3 (.t 46),none⟩,⟨0,some 10,(.alloc [.int .i64 0,
 (.int .i64 0),.int .i64 0]),none⟩,⟨0,none,(.store 3 (.t 10) (.t 47) []),none⟩]) (.seq (.reg [] false [⟨0,some 48,.fld 1 (.t 10),none⟩,⟨0,
 (some 49),.load false 1 (.t 48),none⟩,⟨0,some 50,.mv (.t 1),none⟩,⟨0,some 51,.bin .eql (.t 49) (.t 50),none⟩,⟨0,some 52,.mv (.t
 51),none⟩,⟨0,some 53,.fld 2 (.t 10),some (52,true)⟩,⟨0,some 54,.load false 1 (.t 53),some (52,true)⟩,⟨0,some 55,.mv (.t 2),
 (some (52,true))⟩,⟨0,some 56,.bin .eql (.t 54) (.t 55),some (52,true)⟩,⟨0,some 57,.pick (.t 52) (.t 56) (.c (.bool false)),none⟩])
 (.cond (.t 57) (.seq (.reg [] false [⟨0,some 6,.mv (.c (.bool true)),none⟩]) .ret) .skip)))) (.reg [] false [⟨0,some 58,.bin .add (.t 44) (.c
 (.int .i64 1)),none⟩,⟨0,some 44,.mv (.t 58),none⟩])))))
def x73:XFn:=⟨59,[(6,none)],false,false,
 (.seq (.reg [] false [⟨0,some 3,.box (.t 0),none⟩,⟨0,some 6,.mv (.c (.bool false)),none⟩]) (.seq (.seq (.reg [] false [⟨0,some 11,(.fld 1
 (.t 3)),none⟩,⟨0,some 12,.load false 1 (.t 11),none⟩,⟨0,some 13,.len false (.t 12),none⟩,⟨0,some 14,.mv (.c (.int .i64 0)),none⟩])
 (.block 0 pO)) (.seq (.seq (.reg [] false [⟨0,some 41,.fld 2 (.t 3),none⟩,⟨0,some 42,.load false 1 (.t 41),none⟩,⟨0,some 43,(.len
 false (.t 42)),none⟩,⟨0,some 44,.mv (.c (.int .i64 0)),none⟩]) (.block 2 qW)) (.seq (.reg [] false [⟨0,some 6,.mv (.c (.bool false)),
 none⟩]) .ret)))),none⟩
theorem aRe:cW prog 73 x73.fn:=⟨fun vs w=>call73 vs w,_,_,func73,rfl,rfl,by kernel_rfl,by kernel_rfl⟩
theorem aPZ:iA x73=true:=by kernel_rfl
theorem aOS:aQ x73 x73.body:=(aB rfl)

def x75:XFn:=⟨30,[(4,none),(5,none)],false,false,
 (.seq (.reg [] false [⟨0,some 4,.mv (.c (.int .u64 0)),none⟩,⟨0,some 5,.mv (.c (.int .u64 0)),none⟩]) (.seq (.cond (.c (.bool false)) (.seq
 (.reg [] false [⟨0,some 11,.mv (.t 0),none⟩,⟨0,some 12,.conv .u32 (.t 11),none⟩,⟨0,some 13,.mv (.t 1),none⟩,⟨0,some 14,(.conv
 .u32 (.t 13)),none⟩,⟨0,some 15,(.callf false (.c (.fn (.func 82) [] [])) [.t 12,.t 14] []),none⟩,⟨0,some 10,.mv (.t 15),none⟩,⟨0,(some
 16),.ext (.t 10) 0,none⟩,⟨0,some 17,.ext (.t 10) 1,none⟩,⟨0,some 6,.mv (.t 16),none⟩,⟨0,some 7,.mv (.t 17),none⟩]) (.seq (.reg
 [] false [⟨0,some 18,.mv (.t 6),none⟩,⟨0,some 19,.conv .u64 (.t 18),none⟩,⟨0,some 20,.mv (.t 7),none⟩,⟨0,some 21,.conv .u64 (.t
 20),none⟩,⟨0,some 4,.mv (.t 19),none⟩,⟨0,some 5,.mv (.t 21),none⟩]) .ret)) .skip) (.seq (.reg [] false [⟨0,some 23,.mv (.t 0),
 none⟩,⟨0,some 24,.mv (.t 1),none⟩,⟨0,some 25,(.callf false (.c (.fn (.func 83) [] [])) [.t 23,.t 24] []),none⟩,⟨0,some 22,.mv (.t
 25),none⟩,⟨0,some 26,.ext (.t 22) 0,none⟩,⟨0,some 27,.ext (.t 22) 1,none⟩,⟨0,some 8,.mv (.t 26),none⟩,⟨0,some 9,.mv (.t
 27),none⟩]) (.seq (.reg [] false [⟨0,some 28,.mv (.t 8),none⟩,⟨0,some 29,.mv (.t 9),none⟩,⟨0,some 4,.mv (.t 28),none⟩,⟨0,(some
 5),.mv (.t 29),none⟩]) .ret)))),none⟩
theorem aRd:cW prog 75 x75.fn:=⟨fun vs w=>call75 vs w,_,_,func75,rfl,rfl,by kernel_rfl,by kernel_rfl⟩
theorem aPY:iA x75=true:=by kernel_rfl
theorem aOR:aQ x75 x75.body:=(aB rfl)

def aDW:XCode :=
 (.loop [0,13] (.seq (.reg [] false [⟨0,some 14,.recv true (.agg [.int .i64 0,(.int .i64 0)]) (.t 13),none⟩,⟨0,some 15,.ext (.t 14) 1,
 none⟩]) (.seq (.cond (.t 15) .skip (.exit 0)) (.block 1 (.seq (.reg [] false [⟨0,some 16,.ext (.t 14) 0,none⟩,⟨0,some 6,(.alloc [.int .i64 0,
 (.int .i64 0)]),none⟩,⟨0,none,(.store 2 (.t 6) (.t 16) []),none⟩]) (.seq (.reg [(6,true)] false [⟨0,some 17,.mv (.t 0),none⟩,⟨0,some 18,
 (.load true 2 (.t 6)),none⟩,⟨0,some 19,(.callf false (.t 17) [.t 18] []),none⟩,⟨0,some 20,.not (.t 19),none⟩]) (.cond (.t 20) .ret
 .skip)))))))
def x76:XFn:=⟨21,[],false,false,
 (.seq (.reg [] false [⟨0,some 7,.mkchan 16,none⟩,⟨0,some 5,.mv (.t 7),none⟩]) (.seq (.reg [(1,true),(2,true),(3,true),(5,false)] false
 [⟨0,some 8,.load true 6 (.t 1),none⟩,⟨0,some 9,.load false 1 (.t 2),none⟩,⟨0,some 10,.load false 1 (.t 3),none⟩,⟨0,some 11,(.mv
 (.t 5)),none⟩,⟨0,some 12,(.callf false (.c (.fn (.func 77) [] [])) [.t 8,.t 9,.t 10,.t 11] []),none⟩]) (.seq (.reg [] false [⟨0,(some
 13),.mv (.t 5),none⟩]) (.block 0 aDW)))),none⟩
theorem aRc:cW prog 76 x76.fn:=⟨fun vs w=>call76 vs w,_,_,func76,rfl,rfl,by kernel_rfl,by kernel_rfl⟩
theorem aPX:iA x76=true:=by kernel_rfl
theorem aOQ:aQ x76 x76.body:=(aB rfl)

def aLi:XCode :=
 (.loop [1,4,7,8,10,11,13,30,31,36,37,38,42,43] (.seq (.reg [] false [⟨0,some 44,.bin .lss (.t 43) (.c (.int .i64 2)),none⟩]) (.seq (.cond
 (.t 44) .skip (.exit 6)) (.seq (.block 7 (.seq (.reg [] false [⟨0,some 45,.mv (.t 43),none⟩,⟨0,some 46,.idxv false 2 1 (.t 42) (.t 43),none⟩,
 ⟨0,some 14,.mv (.t 45),none⟩,⟨0,some 15,.mv (.t 46),none⟩]) (.seq (.reg [(15,false)] false [⟨0,some 47,.mv (.t 11),none⟩,⟨0,(some
 48),.mv (.t 15),none⟩,⟨0,some 49,(.callf false (.c (.fn (.func 60) [] [])) [.t 47,.t 48] []),none⟩]) (.cond (.t 49) (.reg [] false [⟨0,(some
 50),.mv (.t 8),none⟩,⟨0,some 51,.mv (.t 14),none⟩,⟨0,some 52,.bin .sub (.c (.int .i64 1)) (.t 51),none⟩,⟨0,some 53,.idxa 2 1 (.t
 13) (.t 52),none⟩,⟨0,some 54,.load false 1 (.t 53),none⟩,⟨0,some 55,(.callf false (.c (.fn (.func 62) [] [])) [.t 54] []),none⟩,⟨0,(some
 56),.bin .or (.t 50) (.t 55),none⟩,⟨0,some 8,.mv (.t 56),none⟩]) .skip)))) (.reg [] false [⟨0,some 57,.bin .add (.t 43) (.c (.int .i64
 1)),none⟩,⟨0,some 43,.mv (.t 57),none⟩])))))
def aDV:XCode :=
 (.loop [1,4,7,8,10,11,30,31,36,37,38] (.seq (.reg [] false [⟨0,some 39,.bin .lss (.t 38) (.t 37),none⟩]) (.seq (.cond (.t 39) .skip (.exit
 4)) (.seq (.block 5 (.seq (.reg [] false [⟨0,some 40,.idx 2 (.t 36) (.t 38),none⟩,⟨0,some 41,.load true 2 (.t 40),none⟩,⟨0,some 13,
 (.alloc [.int .i64 0,.int .i64 0]),none⟩,⟨0,none,(.store 2 (.t 13) (.t 41) []),none⟩]) (.seq (.reg [] false [⟨0,some 42,.load true 2 (.t
 13),none⟩,⟨0,some 43,.mv (.c (.int .i64 0)),none⟩]) (.block 6 aLi)))) (.reg [] false [⟨0,some 58,.bin .add (.t 38) (.c (.int .i64 1)),
 none⟩,⟨0,some 38,.mv (.t 58),none⟩])))))
def zP:XCode :=
 (.loop [1,4,7,8,10,11,30,31,63,64,65] (.seq (.reg [] false [⟨0,some 66,.bin .lss (.t 65) (.t 64),none⟩]) (.seq (.cond (.t 66) .skip (.exit
 8)) (.seq (.block 9 (.seq (.reg [] false [⟨0,some 67,.idx 3 (.t 63) (.t 65),none⟩,⟨0,some 68,.load true 3 (.t 67),none⟩,⟨0,some 17,
 (.alloc [.int .i64 0,.int .i64 0,.int .i64 0]),none⟩,⟨0,none,(.store 3 (.t 17) (.t 68) []),none⟩]) (.seq (.reg [(17,true)] false [⟨0,(some
 69),.fld 0 (.t 17),none⟩,⟨0,some 70,.load false 1 (.t 69),none⟩,⟨0,some 71,.load false 1 (.t 10),none⟩,⟨0,some 72,.bin .eql (.t
 70) (.t 71),none⟩,⟨0,some 73,.mv (.t 72),none⟩,⟨0,some 74,.mv (.t 8),some (73,true)⟩,⟨0,some 75,.fld 1 (.t 17),some (73,
 true)⟩,⟨0,some 76,.load false 1 (.t 75),some (73,true)⟩,⟨0,some 77,(.callf false (.c (.fn (.func 60) [] [])) [.t 74,.t 76] []),(some
 (73,true))⟩,⟨0,some 78,.pick (.t 73) (.t 77) (.c (.bool false)),none⟩]) (.cond (.t 78) (.reg [(17,true)] false [⟨0,some 79,.mv (.t 8),
 none⟩,⟨0,some 80,.fld 2 (.t 17),none⟩,⟨0,some 81,.load false 1 (.t 80),none⟩,⟨0,some 82,(.callf false (.c (.fn (.func 62) [] [])) [(.t
 81)] []),none⟩,⟨0,some 83,.mv (.t 1),none⟩,⟨0,some 84,.bin .andNot (.t 82) (.t 83),none⟩,⟨0,some 85,.bin .or (.t 79) (.t 84),none⟩,
 ⟨0,some 8,.mv (.t 85),none⟩]) .skip)))) (.reg [] false [⟨0,some 86,.bin .add (.t 65) (.c (.int .i64 1)),none⟩,⟨0,some 65,.mv (.t 86),
 none⟩])))))
def aDU:XCode :=
 (.loop [1,4,7,8,30,31] (.seq (.reg [] false [⟨0,some 32,.bin .lss (.t 31) (.t 30),none⟩]) (.seq (.cond (.t 32) .skip (.exit 2)) (.seq (.block 3
 (.seq (.reg [] false [⟨0,some 33,.mv (.t 31),none⟩,⟨0,some 10,(.alloc [.int .i64 0]),none⟩,⟨0,none,(.store 1 (.t 10) (.t 33) []),none⟩])
 (.seq (.reg [] false [⟨0,some 34,.mv (.t 8),none⟩,⟨0,some 11,.mv (.t 34),none⟩]) (.seq (.seq (.reg [] false [⟨0,some 35,.fld 1 (.t 4),
 none⟩,⟨0,some 36,.load false 1 (.t 35),none⟩,⟨0,some 37,.len false (.t 36),none⟩,⟨0,some 38,.mv (.c (.int .i64 0)),none⟩]) (.block 4
 aDV)) (.seq (.reg [] false [⟨0,some 59,.mv (.t 8),none⟩,⟨0,some 60,.mv (.t 1),none⟩,⟨0,some 61,.bin .andNot (.t 59) (.t 60),none⟩,
 ⟨0,some 8,.mv (.t 61),none⟩]) (.seq (.seq (.reg [] false [⟨0,some 62,.fld 2 (.t 4),none⟩,⟨0,some 63,.load false 1 (.t 62),none⟩,⟨0,
 (some 64),.len false (.t 63),none⟩,⟨0,some 65,.mv (.c (.int .i64 0)),none⟩]) (.block 8 zP)) (.seq (.reg [] false [⟨0,some 87,.mv (.t
 8),none⟩,⟨0,some 88,.mv (.t 11),none⟩,⟨0,some 89,.bin .andNot (.t 87) (.t 88),none⟩,⟨0,some 90,(.callf false (.c (.fn (.func 80) []
 [])) [.t 89] []),none⟩]) (.block 10 (.rng 1 [7,10] (.t 90) [91] (.reg [] false [⟨0,some 18,.mv (.t 91),none⟩]) (.block 11 (.reg [] false [⟨0,
 (some 92),.load false 1 (.t 7),none⟩,⟨0,some 93,.mv (.t 18),none⟩,⟨0,some 94,.load false 1 (.t 10),none⟩,⟨0,some 95,.bin .add (.t
 94) (.c (.int .i64 1)),none⟩,⟨0,some 96,(.build [.int .i64 0,.int .i64 0] [(0,(1,(.t 93))),(1,(1,(.t 95)))]),none⟩,⟨0,none,.send (.t
 92) (.t 96),none⟩]))))))))))) (.reg [] false [⟨0,some 97,.bin .add (.t 31) (.c (.int .i64 1)),none⟩,⟨0,some 31,.mv (.t 97),none⟩])))))
def x77:XFn:=⟨98,[],false,false,
 (.seq (.reg [] false [⟨0,some 20,.fld 3 (.t 4),none⟩,⟨0,some 21,.load false 1 (.t 20),none⟩,⟨0,some 22,.mv (.t 1),none⟩,⟨0,some 23,
 (.bin .andNot (.t 21) (.t 22)),none⟩,⟨0,some 8,.mv (.t 23),none⟩]) (.seq (.seq (.reg [] false [⟨0,some 24,.mv (.t 8),none⟩,⟨0,some 25,
 (.callf false (.c (.fn (.func 80) [] [])) [.t 24] []),none⟩]) (.block 0 (.rng 0 [7] (.t 25) [26] (.reg [] false [⟨0,some 9,.mv (.t 26),none⟩])
 (.block 1 (.reg [] false [⟨0,some 27,.load false 1 (.t 7),none⟩,⟨0,some 28,.mv (.t 9),none⟩,⟨0,some 29,(.build [.int .i64 0,(.int
 .i64 0)] [(0,(1,(.t 28))),(1,(1,(.c (.int .i64 0))))]),none⟩,⟨0,none,.send (.t 27) (.t 29),none⟩]))))) (.seq (.reg [] false [⟨0,some 30,(.mv
 (.t 2)),none⟩,⟨0,some 31,.mv (.c (.int .i64 0)),none⟩]) (.block 2 aDU)))),some ([⟨0,(some 4),(.box (.t 0)),none⟩,⟨0,(some 7),(.box (.t 3)),none⟩,⟨0,(some 19),(.load false 1 (.t 7)),none⟩],19)⟩
theorem aRb:cW prog 77 x77.fn:=⟨fun vs w=>call77 vs w,_,_,func77,rfl,rfl,by kernel_rfl,by kernel_rfl⟩
theorem aPW:iA x77=true:=by kernel_rfl
theorem aOP:aQ x77 x77.body:=⟨aB rfl,⟨⟨aB rfl,⟨by kernel_rfl,aB rfl,aB rfl⟩⟩,⟨aB rfl,⟨aB rfl,⟨aB rfl,⟨⟨aB rfl,⟨aB rfl,⟨aB rfl,⟨aB rfl,⟨aB rfl,⟨aB rfl,⟨by kernel_rfl,aB rfl,aB rfl⟩⟩⟩⟩⟩⟩⟩,aB rfl⟩⟩⟩⟩⟩⟩

def x78:XFn:=⟨20,[(4,none)],false,false,
 (.seq (.reg [] false [⟨0,some 2,.box (.t 0),none⟩,⟨0,some 3,.box (.t 1),none⟩,⟨0,some 4,.mv (.c (.int .i64 0)),none⟩]) (.seq (.reg []
 false [⟨0,some 5,(.alloc [.int .i64 0]),none⟩]) (.seq (.reg [] false [⟨0,some 6,(.alloc [.nilfn]),none⟩]) (.seq (.reg [] false [⟨0,some 8,
 (.mkf (.func 84) [] [.t 5,.t 3,.t 2,.t 6]),none⟩,⟨0,none,(.store 1 (.t 6) (.t 8) []),none⟩]) (.seq (.seq (.reg [] false [⟨0,some 9,
 (.load false 1 (.t 2)),none⟩,⟨0,some 10,.nilck (.t 9),none⟩,⟨0,some 11,.fld 0 (.t 10),none⟩,⟨0,some 12,.fld 3 (.t 11),none⟩,⟨0,
 (some 13),.load false 1 (.t 12),none⟩,⟨0,some 14,(.callf false (.c (.fn (.func 80) [] [])) [.t 13] []),none⟩]) (.block 0 (.rng 0 [6] (.t 14)
 [15] (.reg [] false [⟨0,some 7,.mv (.t 15),none⟩]) (.block 1 (.reg [(7,false)] false [⟨0,some 16,.load false 1 (.t 6),none⟩,⟨0,some 17,
 (.mv (.t 7)),none⟩,⟨0,some 18,(.callf false (.t 16) [.t 17] []),none⟩]))))) (.seq (.reg [] false [⟨0,some 19,.load false 1 (.t 5),none⟩,⟨0,
 (some 4),.mv (.t 19),none⟩]) .ret)))))),none⟩
theorem aRa:cW prog 78 x78.fn:=⟨fun vs w=>call78 vs w,_,_,func78,rfl,rfl,by kernel_rfl,by kernel_rfl⟩
theorem aPV:iA x78=true:=by kernel_rfl
theorem aOO:aQ x78 x78.body:=⟨aB rfl,⟨aB rfl,⟨aB rfl,⟨aB rfl,⟨⟨aB rfl,⟨by kernel_rfl,aB rfl,aB rfl⟩⟩,aB rfl⟩⟩⟩⟩⟩

def x79:XFn:=⟨5,[(2,none)],false,false,
 (.seq (.reg [] false [⟨0,some 2,.mv (.c .nilsl),none⟩]) (.seq (.reg [] false [⟨0,some 3,.mv (.t 0),none⟩,⟨0,some 4,(.callf false (.c (.fn
 (.func 85) [] [])) [.c .nilsl,.t 3] []),none⟩,⟨0,some 2,.mv (.t 4),none⟩]) .ret)),none⟩
theorem aQZ:cW prog 79 x79.fn:=⟨fun vs w=>call79 vs w,_,_,func79,rfl,rfl,by kernel_rfl,by kernel_rfl⟩
theorem aPU:iA x79=true:=by kernel_rfl
theorem aON:aQ x79 x79.body:=(aB rfl)

def x80:XFn:=⟨4,[(2,none)],false,false,
 (.seq (.reg [] false [⟨0,some 1,.box (.t 0),none⟩,⟨0,some 2,.mv (.c .nilfn),none⟩]) (.seq (.reg [] false [⟨0,some 3,(.mkf (.func 86) []
 [.t 1]),none⟩,⟨0,some 2,.mv (.t 3),none⟩]) .ret)),none⟩
theorem aQY:cW prog 80 x80.fn:=⟨fun vs w=>call80 vs w,_,_,func80,rfl,rfl,by kernel_rfl,by kernel_rfl⟩
theorem aPT:iA x80=true:=by kernel_rfl
theorem aOM:aQ x80 x80.body:=(aB rfl)

def x81:XFn:=⟨8,[(2,none)],false,false,
 (.seq (.reg [] false [⟨0,some 1,.box (.t 0),none⟩,⟨0,some 2,.mv (.c (.bool false)),none⟩]) (.seq (.reg [] false [⟨0,some 3,(.alloc [(.bool
 false),.bool false,.bool false,.bool false,.bool false,.bool false,.bool false,.bool false,.bool false,.bool false,(.bool
 false),.bool false,.bool false,.bool false,.bool false,.bool false,.bool false,.bool false,.bool false,.bool false,(.bool
 false),.bool false,.bool false,.bool false,.bool false,.bool false,.bool false,.bool false,.bool false,.bool false,(.bool
 false),.bool false,.bool false,.bool false]),none⟩]) (.seq (.reg [] false [⟨0,some 4,(.alloc [.nilfn]),none⟩]) (.seq (.reg [] false [⟨0,
 (some 5),(.mkf (.func 88) [] [.t 3,.t 1,.t 4]),none⟩,⟨0,none,(.store 1 (.t 4) (.t 5) []),none⟩]) (.seq (.reg [] false [⟨0,some 6,(.load
 false 1 (.t 4)),none⟩,⟨0,some 7,(.callf false (.t 6) [.c (.int .i64 32)] []),none⟩,⟨0,some 2,.mv (.t 7),none⟩]) .ret))))),none⟩
theorem aQX:cW prog 81 x81.fn:=⟨fun vs w=>call81 vs w,_,_,func81,rfl,rfl,by kernel_rfl,by kernel_rfl⟩
theorem aPS:iA x81=true:=by kernel_rfl
theorem aOL:aQ x81 x81.body:=(aB rfl)

def x82:XFn:=⟨17,[(4,none),(5,none)],false,false,
 (.seq (.reg [] false [⟨0,some 4,.mv (.c (.int .u32 0)),none⟩,⟨0,some 5,.mv (.c (.int .u32 0)),none⟩]) (.seq (.reg [] false [⟨0,some 7,(.mv
 (.t 0)),none⟩,⟨0,some 8,.conv .u64 (.t 7),none⟩,⟨0,some 9,.mv (.t 1),none⟩,⟨0,some 10,.conv .u64 (.t 9),none⟩,⟨0,some 11,(.bin
 .mul (.t 8) (.t 10)),none⟩,⟨0,some 6,.mv (.t 11),none⟩]) (.seq (.reg [] false [⟨0,some 12,.mv (.t 6),none⟩,⟨0,some 13,.bin .shr (.t
 12) (.c (.int .u64 32)),none⟩,⟨0,some 14,.conv .u32 (.t 13),none⟩,⟨0,some 15,.mv (.t 6),none⟩,⟨0,some 16,.conv .u32 (.t 15),none⟩,
 ⟨0,some 4,.mv (.t 14),none⟩,⟨0,some 5,.mv (.t 16),none⟩]) .ret))),none⟩
theorem aQW:cW prog 82 x82.fn:=⟨fun vs w=>call82 vs w,_,_,func82,rfl,rfl,by kernel_rfl,by kernel_rfl⟩
theorem aPR:iA x82=true:=by kernel_rfl
theorem aOK:aQ x82 x82.body:=(aB rfl)

def x83:XFn:=⟨51,[(4,none),(5,none)],false,false,
 (.seq (.reg [] false [⟨0,some 4,.mv (.c (.int .u64 0)),none⟩,⟨0,some 5,.mv (.c (.int .u64 0)),none⟩]) (.seq (.reg [] false [⟨0,some 14,(.mv
 (.t 0)),none⟩,⟨0,some 15,.bin .and (.t 14) (.c (.int .u64 4294967295)),none⟩,⟨0,some 6,.mv (.t 15),none⟩]) (.seq (.reg [] false [⟨0,(some
 16),.mv (.t 0),none⟩,⟨0,some 17,.bin .shr (.t 16) (.c (.int .u64 32)),none⟩,⟨0,some 7,.mv (.t 17),none⟩]) (.seq (.reg [] false [⟨0,
 (some 18),.mv (.t 1),none⟩,⟨0,some 19,.bin .and (.t 18) (.c (.int .u64 4294967295)),none⟩,⟨0,some 8,.mv (.t 19),none⟩]) (.seq (.reg []
 false [⟨0,some 20,.mv (.t 1),none⟩,⟨0,some 21,.bin .shr (.t 20) (.c (.int .u64 32)),none⟩,⟨0,some 9,.mv (.t 21),none⟩]) (.seq (.reg
 [] false [⟨0,some 22,.mv (.t 6),none⟩,⟨0,some 23,.mv (.t 8),none⟩,⟨0,some 24,.bin .mul (.t 22) (.t 23),none⟩,⟨0,some 10,.mv (.t
 24),none⟩]) (.seq (.reg [] false [⟨0,some 25,.mv (.t 7),none⟩,⟨0,some 26,.mv (.t 8),none⟩,⟨0,some 27,.bin .mul (.t 25) (.t 26),
 none⟩,⟨0,some 28,.mv (.t 10),none⟩,⟨0,some 29,.bin .shr (.t 28) (.c (.int .u64 32)),none⟩,⟨0,some 30,.bin .add (.t 27) (.t 29),
 none⟩,⟨0,some 11,.mv (.t 30),none⟩]) (.seq (.reg [] false [⟨0,some 31,.mv (.t 11),none⟩,⟨0,some 32,.bin .and (.t 31) (.c (.int .u64
 4294967295)),none⟩,⟨0,some 12,.mv (.t 32),none⟩]) (.seq (.reg [] false [⟨0,some 33,.mv (.t 11),none⟩,⟨0,some 34,.bin .shr (.t 33) (.c
 (.int .u64 32)),none⟩,⟨0,some 13,.mv (.t 34),none⟩]) (.seq (.reg [] false [⟨0,some 35,.mv (.t 12),none⟩,⟨0,some 36,.mv (.t 6),
 none⟩,⟨0,some 37,.mv (.t 9),none⟩,⟨0,some 38,.bin .mul (.t 36) (.t 37),none⟩,⟨0,some 39,.bin .add (.t 35) (.t 38),none⟩,⟨0,(some
 12),.mv (.t 39),none⟩]) (.seq (.reg [] false [⟨0,some 40,.mv (.t 7),none⟩,⟨0,some 41,.mv (.t 9),none⟩,⟨0,some 42,(.bin .mul (.t 40)
 (.t 41)),none⟩,⟨0,some 43,.mv (.t 13),none⟩,⟨0,some 44,.bin .add (.t 42) (.t 43),none⟩,⟨0,some 45,.mv (.t 12),none⟩,⟨0,some 46,
 (.bin .shr (.t 45) (.c (.int .u64 32))),none⟩,⟨0,some 47,.bin .add (.t 44) (.t 46),none⟩,⟨0,some 4,.mv (.t 47),none⟩]) (.seq (.reg [] false
 [⟨0,some 48,.mv (.t 0),none⟩,⟨0,some 49,.mv (.t 1),none⟩,⟨0,some 50,.bin .mul (.t 48) (.t 49),none⟩,⟨0,some 5,.mv (.t 50),
 none⟩]) .ret)))))))))))),none⟩
theorem aQV:cW prog 83 x83.fn:=⟨fun vs w=>call83 vs w,_,_,func83,rfl,rfl,by kernel_rfl,by kernel_rfl⟩
theorem aPQ:iA x83=true:=by kernel_rfl
theorem aOJ:aQ x83 x83.body:=(aB rfl)

def x84:XFn:=⟨30,[],false,false,
 (.seq (.seq (.reg [(1,true),(2,true)] false [⟨0,some 7,.load false 1 (.t 1),none⟩,⟨0,some 8,.mv (.t 0),none⟩,⟨0,some 9,(.callf false
 (.c (.fn (.func 60) [] [])) [.t 7,.t 8] []),none⟩,⟨0,some 10,.mv (.t 9),none⟩,⟨0,some 11,.load false 1 (.t 2),some (10,false)⟩,⟨0,
 (some 12),.mv (.t 0),some (10,false)⟩,⟨0,some 13,(.callf false (.c (.fn (.func 60) [] [])) [.t 11,.t 12] []),some (10,false)⟩,⟨0,
 (some 14),.pick (.t 10) (.c (.bool true)) (.t 13),none⟩]) (.cond (.t 14) .ret .skip)) (.seq (.reg [] true [⟨0,some 15,.load false 1 (.t 1),none⟩,
 ⟨1,some 16,.mv (.t 0),none⟩,⟨2,some 17,(.callf false (.c (.fn (.func 62) [] [])) [.t 16] [0]),none⟩,⟨3,some 18,.bin .or (.t 15) (.t
 17),none⟩,⟨4,none,(.store 1 (.t 1) (.t 18) []),none⟩]) (.seq (.reg [] false [⟨0,some 19,.load false 1 (.t 3),none⟩,⟨0,some 20,.mv (.t
 0),none⟩,⟨0,some 21,.nilck (.t 19),none⟩,⟨0,some 22,.fld 6 (.t 21),none⟩,⟨0,some 23,.idxa 16 1 (.t 22) (.t 20),none⟩,⟨0,(some
 24),.load false 1 (.t 23),none⟩,⟨0,some 25,(.callf false (.c (.fn (.func 80) [] [])) [.t 24] []),none⟩]) (.block 0 (.rng 0 [4] (.t 25) [26]
 (.reg [] false [⟨0,some 6,.mv (.t 26),none⟩]) (.block 1 (.reg [(6,false)] false [⟨0,some 27,.load false 1 (.t 4),none⟩,⟨0,some 28,(.mv
 (.t 6)),none⟩,⟨0,some 29,(.callf false (.t 27) [.t 28] []),none⟩]))))))),none⟩
theorem aQU:cW prog 84 x84.fn:=⟨fun vs w=>call84 vs w,_,_,func84,rfl,rfl,by kernel_rfl,by kernel_rfl⟩
theorem aPP:iA x84=true:=by kernel_rfl
theorem aOI:aQ x84 x84.body:=⟨aB rfl,⟨aB rfl,⟨aB rfl,⟨by kernel_rfl,aB rfl,aB rfl⟩⟩⟩⟩

def x85:XFn:=⟨13,[(4,none)],true,false,
 (.seq (.reg [] false [⟨0,some 2,.box (.t 0),none⟩,⟨0,some 4,.mv (.c .nilsl),none⟩]) (.seq (.seq (.reg [] false [⟨0,some 6,.mv (.t 1),
 none⟩]) (.block 0 (.rng 0 [2] (.t 6) [7] (.reg [] false [⟨0,some 5,.mv (.t 7),none⟩]) (.block 1 (.reg [(5,false)] false [⟨0,some 8,(.load false
 1 (.t 2)),none⟩,⟨0,some 9,.mv (.t 5),none⟩,⟨0,some 10,(.bslice 1 1 [.int .i64 0] [(0,(1,(.t 9)))]),none⟩,⟨0,some 11,(.app 1 8 (.t 8)
 (.t 10)),none⟩,⟨0,none,(.store 1 (.t 2) (.t 11) []),none⟩]))))) (.seq (.reg [] false [⟨0,some 12,.load false 1 (.t 2),none⟩,⟨0,some 4,(.mv
 (.t 12)),none⟩]) .ret))),none⟩
theorem aQT:cW prog 85 x85.fn:=⟨fun vs w=>call85 vs w,_,_,func85,rfl,rfl,by kernel_rfl,by kernel_rfl⟩
theorem aPO:iA x85=true:=by kernel_rfl
theorem aOH:aQ x85 x85.body:=⟨aB rfl,⟨⟨aB rfl,⟨by kernel_rfl,aB rfl,aB rfl⟩⟩,aB rfl⟩⟩

end Go.Proofs.YtiabjdfdkiijmaaDoor
end
section
set_option maxRecDepth 100000
namespace Go.Proofs.YtiabjdfdkiijmaaDoor
open Go Go.DL Go.Proofs.Tryd

def wJ:XCode :=
 (.loop [0,1] (.seq (.seq (.reg [] false [⟨0,some 3,.load false 1 (.t 1),none⟩,⟨0,some 4,.bin .neq (.t 3) (.c (.int .i64 0)),none⟩]) (.cond (.t
 4) .skip (.exit 0))) (.seq (.block 1 (.seq (.reg [] false [⟨0,some 9,.mv (.t 0),none⟩,⟨0,some 10,.load false 1 (.t 1),none⟩,⟨0,some 11,
 (.conv .u64 (.t 10)),none⟩,⟨0,some 12,(.callf false (.c (.fn (.func 87) [] [])) [.t 11] []),none⟩,⟨0,some 13,(.callf false (.t 9) [.t 12]
 []),none⟩,⟨0,some 14,.not (.t 13),none⟩]) (.cond (.t 14) .ret .skip))) (.reg [] false [⟨0,some 5,.load false 1 (.t 1),none⟩,⟨0,some 6,
 (.load false 1 (.t 1)),none⟩,⟨0,some 7,.bin .sub (.t 6) (.c (.int .i64 1)),none⟩,⟨0,some 8,.bin .and (.t 5) (.t 7),none⟩,⟨0,none,(.store
 1 (.t 1) (.t 8) []),none⟩]))))
def x86:XFn:=⟨15,[],false,false,
 (.block 0 wJ),none⟩
theorem aQS:cW prog 86 x86.fn:=⟨fun vs w=>call86 vs w,_,_,func86,rfl,rfl,by kernel_rfl,by kernel_rfl⟩
theorem aPN:iA x86=true:=by kernel_rfl
theorem aOG:aQ x86 x86.body:=(aB rfl)

def x87:XFn:=⟨8,[(2,none)],false,false,
 (.seq (.reg [] false [⟨0,some 2,.mv (.c (.int .i64 0)),none⟩]) (.seq (.cond (.c (.bool false)) (.seq (.reg [] false [⟨0,some 3,.mv (.t 0),none⟩,
 ⟨0,some 4,.conv .u32 (.t 3),none⟩,⟨0,some 5,(.callf false (.c (.fn (.func 90) [] [])) [.t 4] []),none⟩,⟨0,some 2,.mv (.t 5),none⟩])
 .ret) .skip) (.seq (.reg [] false [⟨0,some 6,.mv (.t 0),none⟩,⟨0,some 7,(.callf false (.c (.fn (.func 91) [] [])) [.t 6] []),none⟩,⟨0,(some
 2),.mv (.t 7),none⟩]) .ret))),none⟩
theorem aQR:cW prog 87 x87.fn:=⟨fun vs w=>call87 vs w,_,_,func87,rfl,rfl,by kernel_rfl,by kernel_rfl⟩
theorem aPM:iA x87=true:=by kernel_rfl
theorem aOF:aQ x87 x87.body:=(aB rfl)

def gU:XCode :=
 (.loop [0,1,2,3,11] (.seq (.reg [] false [⟨0,some 12,.bin .lss (.t 11) (.c (.int .i64 34)),none⟩]) (.seq (.cond (.t 12) .skip (.exit 0)) (.seq
 (.block 1 (.seq (.reg [] false [⟨0,some 13,.mv (.t 11),none⟩,⟨0,some 6,.mv (.t 13),none⟩]) (.seq (.seq (.reg [(2,true)] false [⟨0,(some
 14),.mv (.t 6),none⟩,⟨0,some 15,.idxa 34 1 (.t 1) (.t 14),none⟩,⟨0,some 16,.load false 1 (.t 15),none⟩,⟨0,some 17,.mv (.t 16),
 none⟩,⟨0,some 18,.load false 1 (.t 2),some (17,false)⟩,⟨0,some 19,.mv (.t 0),some (17,false)⟩,⟨0,some 20,.mv (.t 6),some (17,
 false)⟩,⟨0,some 21,(.callf false (.c (.fn (.func 89) [] [])) [.t 18,.t 19,.t 20] []),some (17,false)⟩,⟨0,some 22,(.bin .leq (.t 21)
 (.c (.int .i64 0))),some (17,false)⟩,⟨0,some 23,.pick (.t 17) (.c (.bool true)) (.t 22),none⟩,⟨0,some 24,.mv (.t 23),none⟩,⟨0,(some
 25),.load false 1 (.t 3),some (24,false)⟩,⟨0,some 26,.mv (.t 6),some (24,false)⟩,⟨0,some 27,(.callf false (.t 25) [.t 26] []),
 (some (24,false))⟩,⟨0,some 28,.not (.t 27),some (24,false)⟩,⟨0,some 29,.pick (.t 24) (.c (.bool true)) (.t 28),none⟩]) (.cond (.t 29)
 (.exit 1) .skip)) (.seq (.seq (.reg [] false [⟨0,some 30,.load false 1 (.t 2),none⟩,⟨0,some 31,.mv (.t 6),none⟩,⟨0,some 32,.mv (.t 0),
 none⟩,⟨0,some 33,.nilck (.t 30),none⟩,⟨0,some 34,.fld 1 (.t 33),none⟩,⟨0,some 35,.idxa 34 34 (.t 34) (.t 31),none⟩,⟨0,some 36,
 (.idxa 34 1 (.t 35) (.t 32)),none⟩,⟨0,some 37,.load false 1 (.t 36),none⟩,⟨0,some 38,.bin .gtr (.t 37) (.c (.int .i64 0)),none⟩]) (.cond
 (.t 38) (.reg [] true [⟨0,some 39,.load false 1 (.t 2),none⟩,⟨1,some 40,.mv (.t 6),none⟩,⟨2,some 41,.mv (.t 0),none⟩,⟨3,some 42,
 (.nilck (.t 39)),none⟩,⟨4,some 43,.fld 1 (.t 42),none⟩,⟨5,some 44,.idxa 34 34 (.t 43) (.t 40),none⟩,⟨6,some 45,.idxa 34 1 (.t 44) (.t
 41),none⟩,⟨7,some 46,.load false 1 (.t 45),none⟩,⟨8,some 47,.bin .sub (.t 46) (.c (.int .i64 1)),none⟩,⟨9,some 48,.nilck (.t 39),
 none⟩,⟨10,some 49,.fld 1 (.t 48),none⟩,⟨11,some 50,.idxa 34 34 (.t 49) (.t 40),none⟩,⟨12,some 51,.idxa 34 1 (.t 50) (.t 41),none⟩,
 ⟨13,none,(.store 1 (.t 51) (.t 47) []),none⟩]) (.reg [] true [⟨0,some 52,.load false 1 (.t 2),none⟩,⟨1,some 53,.mv (.t 0),none⟩,⟨2,(some
 54),.mv (.t 6),none⟩,⟨3,some 55,.nilck (.t 52),none⟩,⟨4,some 56,.fld 1 (.t 55),none⟩,⟨5,some 57,.idxa 34 34 (.t 56) (.t 53),
 none⟩,⟨6,some 58,.idxa 34 1 (.t 57) (.t 54),none⟩,⟨7,some 59,.load false 1 (.t 58),none⟩,⟨8,some 60,.bin .add (.t 59) (.c (.int .i64
 1)),none⟩,⟨9,some 61,.nilck (.t 52),none⟩,⟨10,some 62,.fld 1 (.t 61),none⟩,⟨11,some 63,.idxa 34 34 (.t 62) (.t 53),none⟩,⟨12,
 (some 64),.idxa 34 1 (.t 63) (.t 54),none⟩,⟨13,none,(.store 1 (.t 64) (.t 60) []),none⟩]))) (.seq (.reg [] false [⟨0,some 5,.mv (.c (.bool
 true)),none⟩]) .ret))))) (.reg [] false [⟨0,some 65,.bin .add (.t 11) (.c (.int .i64 1)),none⟩,⟨0,some 11,.mv (.t 65),none⟩])))))
def x88:XFn:=⟨66,[(5,none)],false,false,
 (.seq (.reg [] false [⟨0,some 5,.mv (.c (.bool false)),none⟩]) (.seq (.seq (.reg [] false [⟨0,some 7,.mv (.t 0),none⟩,⟨0,some 8,(.bin .eql
 (.t 7) (.c (.int .i64 33))),none⟩]) (.cond (.t 8) (.seq (.reg [] false [⟨0,some 5,.mv (.c (.bool true)),none⟩]) .ret) .skip)) (.seq (.reg [] false
 [⟨0,some 9,.mv (.t 0),none⟩,⟨0,some 10,.idxa 34 1 (.t 1) (.t 9),none⟩,⟨0,none,(.store 1 (.t 10) (.c (.bool true)) []),none⟩]) (.seq (.seq
 (.reg [] false [⟨0,some 11,.mv (.c (.int .i64 0)),none⟩]) (.block 0 gU)) (.seq (.reg [] false [⟨0,some 5,.mv (.c (.bool false)),none⟩])
 .ret))))),none⟩
theorem aQQ:cW prog 88 x88.fn:=⟨fun vs w=>call88 vs w,_,_,func88,rfl,rfl,by kernel_rfl,by kernel_rfl⟩
theorem aPL:iA x88=true:=by kernel_rfl
theorem aOE:aQ x88 x88.body:=(aB rfl)

def x89:XFn:=⟨126,[(6,none)],false,false,
 (.seq (.reg [] false [⟨0,some 6,.mv (.c (.int .i64 0)),none⟩]) (.seq (.reg [] false [⟨0,some 7,.mv (.c (.int .i64 0)),none⟩]) (.seq (.seq (.reg
 [] false [⟨0,some 10,.mv (.t 1),none⟩,⟨0,some 11,.bin .quo (.t 10) (.c (.int .i64 2)),none⟩,⟨0,some 12,.mv (.t 2),none⟩,⟨0,(some
 13),.bin .quo (.t 12) (.c (.int .i64 2)),none⟩,⟨0,some 8,.mv (.t 11),none⟩,⟨0,some 9,.mv (.t 13),none⟩]) (.block 0 (.seq (.reg [] false
 [⟨0,some 15,.mv (.t 1),none⟩,⟨0,some 16,.bin .eql (.t 15) (.c (.int .i64 32)),none⟩,⟨0,some 14,.mv (.t 16),none⟩]) (.cond (.t 14)
 (.seq (.reg [] false [⟨0,some 17,.mv (.t 2),none⟩,⟨0,some 18,.bin .rem (.t 17) (.c (.int .i64 2)),none⟩,⟨0,some 19,(.bin .eql (.t 18)
 (.c (.int .i64 0))),none⟩,⟨0,some 20,.mv (.t 19),none⟩,⟨0,some 21,.mv (.t 2),some (20,true)⟩,⟨0,some 22,.bin .lss (.t 21) (.c
 (.int .i64 32)),some (20,true)⟩,⟨0,some 23,.pick (.t 20) (.t 22) (.c (.bool false)),none⟩,⟨0,some 24,.mv (.t 23),none⟩,⟨0,some 25,
 (.mv (.t 0)),some (24,true)⟩,⟨0,some 26,.nilck (.t 25),some (24,true)⟩,⟨0,some 27,.fld 0 (.t 26),some (24,true)⟩,⟨0,some 28,
 (.load false 1 (.t 27)),some (24,true)⟩,⟨0,some 29,.nilck (.t 28),some (24,true)⟩,⟨0,some 30,.fld 0 (.t 29),some (24,true)⟩,⟨0,
 (some 31),.fld 3 (.t 30),some (24,true)⟩,⟨0,some 32,.load false 1 (.t 31),some (24,true)⟩,⟨0,some 33,.mv (.t 9),some (24,
 true)⟩,⟨0,some 34,(.callf false (.c (.fn (.func 60) [] [])) [.t 32,.t 33] []),some (24,true)⟩,⟨0,some 35,.pick (.t 24) (.t 34) (.c
 (.bool false)),none⟩]) (.cond (.t 35) (.reg [] false [⟨0,some 7,.mv (.c (.int .i64 16)),none⟩]) .skip)) (.seq (.reg [] false [⟨0,some 37,(.mv
 (.t 2)),none⟩,⟨0,some 38,.bin .eql (.t 37) (.c (.int .i64 33)),none⟩,⟨0,some 36,.mv (.t 38),none⟩]) (.cond (.t 36) (.seq (.reg [] false
 [⟨0,some 39,.mv (.t 1),none⟩,⟨0,some 40,.bin .rem (.t 39) (.c (.int .i64 2)),none⟩,⟨0,some 41,.bin .eql (.t 40) (.c (.int .i64 1)),
 none⟩,⟨0,some 42,.mv (.t 41),none⟩,⟨0,some 43,.mv (.t 1),some (42,true)⟩,⟨0,some 44,.bin .lss (.t 43) (.c (.int .i64 32)),(some
 (42,true))⟩,⟨0,some 45,.pick (.t 42) (.t 44) (.c (.bool false)),none⟩,⟨0,some 46,.mv (.t 45),none⟩,⟨0,some 47,.mv (.t 0),some (46,
 true)⟩,⟨0,some 48,.nilck (.t 47),some (46,true)⟩,⟨0,some 49,.fld 0 (.t 48),some (46,true)⟩,⟨0,some 50,.load false 1 (.t 49),
 (some (46,true))⟩,⟨0,some 51,.nilck (.t 50),some (46,true)⟩,⟨0,some 52,.fld 0 (.t 51),some (46,true)⟩,⟨0,some 53,.fld 4 (.t
 52),some (46,true)⟩,⟨0,some 54,.load false 1 (.t 53),some (46,true)⟩,⟨0,some 55,.mv (.t 8),some (46,true)⟩,⟨0,some 56,
 (.callf false (.c (.fn (.func 60) [] [])) [.t 54,.t 55] []),some (46,true)⟩,⟨0,some 57,.pick (.t 46) (.t 56) (.c (.bool false)),none⟩])
 (.cond (.t 57) (.reg [] false [⟨0,some 7,.mv (.c (.int .i64 16)),none⟩]) .skip)) (.seq (.reg [] false [⟨0,some 59,.mv (.t 1),none⟩,⟨0,(some
 60),.bin .geq (.t 59) (.c (.int .i64 32)),none⟩,⟨0,some 61,.mv (.t 60),none⟩,⟨0,some 62,.mv (.t 2),some (61,false)⟩,⟨0,some 63,
 (.bin .geq (.t 62) (.c (.int .i64 32))),some (61,false)⟩,⟨0,some 64,.pick (.t 61) (.c (.bool true)) (.t 63),none⟩,⟨0,some 58,.mv (.t 64),
 none⟩]) (.cond (.t 58) .skip (.seq (.reg [] false [⟨0,some 66,.mv (.t 1),none⟩,⟨0,some 67,.bin .rem (.t 66) (.c (.int .i64 2)),none⟩,⟨0,
 (some 68),.bin .eql (.t 67) (.c (.int .i64 0)),none⟩,⟨0,some 69,.mv (.t 68),none⟩,⟨0,some 70,.mv (.t 2),some (69,true)⟩,⟨0,(some
 71),.mv (.t 1),some (69,true)⟩,⟨0,some 72,.bin .add (.t 71) (.c (.int .i64 1)),some (69,true)⟩,⟨0,some 73,.bin .eql (.t 70) (.t
 72),some (69,true)⟩,⟨0,some 74,.pick (.t 69) (.t 73) (.c (.bool false)),none⟩,⟨0,some 65,.mv (.t 74),none⟩]) (.cond (.t 65) (.seq (.reg
 [] false [⟨0,some 7,.mv (.c (.int .i64 1)),none⟩]) (.seq (.reg [] false [⟨0,some 75,.mv (.t 0),none⟩,⟨0,some 76,.nilck (.t 75),none⟩,
 ⟨0,some 77,.fld 0 (.t 76),none⟩,⟨0,some 78,.load false 1 (.t 77),none⟩,⟨0,some 79,.nilck (.t 78),none⟩,⟨0,some 80,.fld 0 (.t
 79),none⟩,⟨0,some 81,.fld 5 (.t 80),none⟩,⟨0,some 82,.load false 1 (.t 81),none⟩,⟨0,some 83,.mv (.t 8),none⟩,⟨0,some 84,
 (.callf false (.c (.fn (.func 60) [] [])) [.t 82,.t 83] []),none⟩]) (.cond (.t 84) (.reg [] false [⟨0,some 7,.mv (.c (.int .i64 16)),none⟩])
 .skip))) (.seq (.reg [] false [⟨0,some 86,.mv (.t 1),none⟩,⟨0,some 87,.bin .rem (.t 86) (.c (.int .i64 2)),none⟩,⟨0,some 88,(.bin .eql
 (.t 87) (.c (.int .i64 1))),none⟩,⟨0,some 89,.mv (.t 88),none⟩,⟨0,some 90,.mv (.t 2),some (89,true)⟩,⟨0,some 91,(.bin .rem (.t 90)
 (.c (.int .i64 2))),some (89,true)⟩,⟨0,some 92,.bin .eql (.t 91) (.c (.int .i64 0)),some (89,true)⟩,⟨0,some 93,(.pick (.t 89) (.t 92)
 (.c (.bool false))),none⟩,⟨0,some 94,.mv (.t 93),none⟩,⟨0,some 95,.mv (.t 0),some (94,true)⟩,⟨0,some 96,.nilck (.t 95),(some
 (94,true))⟩,⟨0,some 97,.fld 0 (.t 96),some (94,true)⟩,⟨0,some 98,.load false 1 (.t 97),some (94,true)⟩,⟨0,some 99,.mv (.t 8),
 (some (94,true))⟩,⟨0,some 100,.nilck (.t 98),some (94,true)⟩,⟨0,some 101,.fld 6 (.t 100),some (94,true)⟩,⟨0,some 102,(.idxa 16 1
 (.t 101) (.t 99)),some (94,true)⟩,⟨0,some 103,.load false 1 (.t 102),some (94,true)⟩,⟨0,some 104,.mv (.t 9),some (94,true)⟩,⟨0,
 (some 105),(.callf false (.c (.fn (.func 60) [] [])) [.t 103,.t 104] []),some (94,true)⟩,⟨0,some 106,.pick (.t 94) (.t 105) (.c (.bool
 false)),none⟩,⟨0,some 85,.mv (.t 106),none⟩]) (.cond (.t 85) (.reg [] false [⟨0,some 7,.mv (.c (.int .i64 16)),none⟩]) .skip))))))))))))
 (.seq (.reg [] true [⟨0,some 107,.mv (.t 7),none⟩,⟨1,some 108,.mv (.t 0),none⟩,⟨2,some 109,.mv (.t 1),none⟩,⟨3,some 110,.mv (.t
 2),none⟩,⟨4,some 111,.nilck (.t 108),none⟩,⟨5,some 112,.fld 1 (.t 111),none⟩,⟨6,some 113,.idxa 34 34 (.t 112) (.t 109),none⟩,⟨7,
 (some 114),.idxa 34 1 (.t 113) (.t 110),none⟩,⟨8,some 115,.load false 1 (.t 114),none⟩,⟨9,some 116,.bin .sub (.t 107) (.t 115),none⟩,
 ⟨10,some 117,.mv (.t 0),none⟩,⟨11,some 118,.mv (.t 2),none⟩,⟨12,some 119,.mv (.t 1),none⟩,⟨13,some 120,.nilck (.t 117),none⟩,
 ⟨14,some 121,.fld 1 (.t 120),none⟩,⟨15,some 122,.idxa 34 34 (.t 121) (.t 118),none⟩,⟨16,some 123,.idxa 34 1 (.t 122) (.t 119),none⟩,
 ⟨17,some 124,.load false 1 (.t 123),none⟩,⟨18,some 125,.bin .add (.t 116) (.t 124),none⟩,⟨19,some 6,.mv (.t 125),none⟩]) .ret)))),none⟩
theorem aQP:cW prog 89 x89.fn:=⟨fun vs w=>call89 vs w,_,_,func89,rfl,rfl,by kernel_rfl,by kernel_rfl⟩
theorem aPK:iA x89=true:=by kernel_rfl
theorem aOD:aQ x89 x89.body:=(aB rfl)

def x90:XFn:=⟨14,[(2,none)],false,false,
 (.seq (.reg [] false [⟨0,some 2,.mv (.c (.int .i64 0)),none⟩]) (.seq (.seq (.reg [] false [⟨0,some 3,.mv (.t 0),none⟩,⟨0,some 4,(.bin .eql
 (.t 3) (.c (.int .u32 0))),none⟩]) (.cond (.t 4) (.seq (.reg [] false [⟨0,some 2,.mv (.c (.int .i64 32)),none⟩]) .ret) .skip)) (.seq (.reg [] false
 [⟨0,some 5,.mv (.t 0),none⟩,⟨0,some 6,.mv (.t 0),none⟩,⟨0,some 7,.neg (.t 6),none⟩,⟨0,some 8,.bin .and (.t 5) (.t 7),none⟩,
 ⟨0,some 9,.bin .mul (.t 8) (.c (.int .u32 125613361)),none⟩,⟨0,some 10,.bin .shr (.t 9) (.c (.int .u64 27)),none⟩,⟨0,some 11,(.idxa 32 1
 (.c (.fp [[.int .u8 0,.int .u8 1,.int .u8 28,.int .u8 2,.int .u8 29,.int .u8 14,.int .u8 24,.int .u8 3,.int .u8 30,.int .u8 22,
 (.int .u8 20),.int .u8 15,.int .u8 25,.int .u8 17,.int .u8 4,.int .u8 8,.int .u8 31,.int .u8 27,.int .u8 13,.int .u8 23,(.int
 .u8 21),.int .u8 19,.int .u8 16,.int .u8 7,.int .u8 26,.int .u8 12,.int .u8 18,.int .u8 6,.int .u8 11,.int .u8 5,.int .u8 10,
 (.int .u8 9)]] 0 0)) (.t 10)),none⟩,⟨0,some 12,.load false 1 (.t 11),none⟩,⟨0,some 13,.conv .i64 (.t 12),none⟩,⟨0,some 2,.mv (.t
 13),none⟩]) .ret))),none⟩
theorem aQO:cW prog 90 x90.fn:=⟨fun vs w=>call90 vs w,_,_,func90,rfl,rfl,by kernel_rfl,by kernel_rfl⟩
theorem aPJ:iA x90=true:=by kernel_rfl
theorem aOC:aQ x90 x90.body:=(aB rfl)

def x91:XFn:=⟨14,[(2,none)],false,false,
 (.seq (.reg [] false [⟨0,some 2,.mv (.c (.int .i64 0)),none⟩]) (.seq (.seq (.reg [] false [⟨0,some 3,.mv (.t 0),none⟩,⟨0,some 4,(.bin .eql
 (.t 3) (.c (.int .u64 0))),none⟩]) (.cond (.t 4) (.seq (.reg [] false [⟨0,some 2,.mv (.c (.int .i64 64)),none⟩]) .ret) .skip)) (.seq (.reg [] false
 [⟨0,some 5,.mv (.t 0),none⟩,⟨0,some 6,.mv (.t 0),none⟩,⟨0,some 7,.neg (.t 6),none⟩,⟨0,some 8,.bin .and (.t 5) (.t 7),none⟩,
 ⟨0,some 9,.bin .mul (.t 8) (.c (.int .u64 285870213051353865)),none⟩,⟨0,some 10,.bin .shr (.t 9) (.c (.int .u64 58)),none⟩,⟨0,some 11,
 (.idxa 64 1 (.c (.fp [[.int .u8 0,.int .u8 1,.int .u8 56,.int .u8 2,.int .u8 57,.int .u8 49,.int .u8 28,.int .u8 3,.int .u8 61,
 (.int .u8 58),.int .u8 42,.int .u8 50,.int .u8 38,.int .u8 29,.int .u8 17,.int .u8 4,.int .u8 62,.int .u8 47,.int .u8 59,(.int
 .u8 36),.int .u8 45,.int .u8 43,.int .u8 51,.int .u8 22,.int .u8 53,.int .u8 39,.int .u8 33,.int .u8 30,.int .u8 24,(.int .u8
 18),.int .u8 12,.int .u8 5,.int .u8 63,.int .u8 55,.int .u8 48,.int .u8 27,.int .u8 60,.int .u8 41,.int .u8 37,.int .u8 16,
 (.int .u8 46),.int .u8 35,.int .u8 44,.int .u8 21,.int .u8 52,.int .u8 32,.int .u8 23,.int .u8 11,.int .u8 54,.int .u8 26,(.int
 .u8 40),.int .u8 15,.int .u8 34,.int .u8 20,.int .u8 31,.int .u8 10,.int .u8 25,.int .u8 14,.int .u8 19,.int .u8 9,(.int .u8
 13),.int .u8 8,.int .u8 7,.int .u8 6]] 0 0)) (.t 10)),none⟩,⟨0,some 12,.load false 1 (.t 11),none⟩,⟨0,some 13,.conv .i64 (.t 12),
 none⟩,⟨0,some 2,.mv (.t 13),none⟩]) .ret))),none⟩
theorem aQN:cW prog 91 x91.fn:=⟨fun vs w=>call91 vs w,_,_,func91,rfl,rfl,by kernel_rfl,by kernel_rfl⟩
theorem aPI:iA x91=true:=by kernel_rfl
theorem aOB:aQ x91 x91.body:=(aB rfl)

end Go.Proofs.YtiabjdfdkiijmaaDoor
end
