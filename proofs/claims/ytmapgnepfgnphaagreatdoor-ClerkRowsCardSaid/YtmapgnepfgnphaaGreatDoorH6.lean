/- Parts of a proof, joined: G0 G1 G2 G3. No statement of the seed is proved here. -/
import Derived.KernelRfl
import Derived.Test.YtmapgnepfgnphaaGreatDoorProg
import Derived.Test.YtmapgnepfgnphaaGreatDoorH5
set_option linter.unusedSimpArgs false
set_option linter.unusedVariables false
set_option linter.unusedSectionVars false
section
set_option maxRecDepth 100000
namespace Go.Proofs.YtmapgnepfgnphaaGreatDoor
open Go Go.DL Go.Proofs.Tryz

def x3:XFn:=⟨77,[(6,none)],false,false,
 (.seq (.reg [] false [⟨0,some 6,.mv (.c (.bool false)),none⟩]) (.seq (.seq (.reg [(0,false)] false [⟨0,some 17,.mv (.t 0),none⟩,⟨0,some 18,
 (.callf false (.c (.fn (.func 12) [] [])) [.t 17] []),none⟩,⟨0,some 19,.mv (.t 18),none⟩,⟨0,some 20,.mv (.t 1),some (19,false)⟩,⟨0,
 (some 21),.len true (.t 20),some (19,false)⟩,⟨0,some 22,.bin .gtr (.t 21) (.c (.int .i64 1000)),some (19,false)⟩,⟨0,some 23,(.pick
 (.t 19) (.c (.bool true)) (.t 22)),none⟩]) (.cond (.t 23) (.seq (.reg [] false [⟨0,some 24,(.callf false (.c (.fn (.func 13) [] [])) [] []),none⟩,⟨0,
 (some 6),.mv (.t 24),none⟩]) .ret) .skip)) (.seq (.reg [(0,false),(2,false)] false [⟨0,some 26,.mv (.t 0),none⟩,⟨0,some 27,.mv (.t 2),
 none⟩,⟨0,some 28,(.callf false (.c (.fn (.func 14) [] [])) [.t 26,.t 27] []),none⟩,⟨0,some 25,.mv (.t 28),none⟩,⟨0,some 29,.ext (.t
 25) 0,none⟩,⟨0,some 30,.ext (.t 25) 1,none⟩,⟨0,some 7,.mv (.t 29),none⟩,⟨0,some 8,.mv (.t 30),none⟩]) (.seq (.reg [(0,false),(2,
 false)] false [⟨0,some 32,.mv (.t 0),none⟩,⟨0,some 33,.mv (.t 2),none⟩,⟨0,some 34,(.callf false (.c (.fn (.func 15) [] [])) [.t 32,
 (.t 33)] []),none⟩,⟨0,some 31,.mv (.t 34),none⟩,⟨0,some 35,.ext (.t 31) 0,none⟩,⟨0,some 36,.ext (.t 31) 1,none⟩,⟨0,some 9,(.mv
 (.t 35)),none⟩,⟨0,some 10,.mv (.t 36),none⟩]) (.seq (.reg [(1,false),(2,false)] false [⟨0,some 38,.mv (.t 1),none⟩,⟨0,some 39,(.mv
 (.t 2)),none⟩,⟨0,some 40,(.callf false (.c (.fn (.func 16) [] [])) [.t 38,.t 39] []),none⟩,⟨0,some 37,.mv (.t 40),none⟩,⟨0,some 41,
 (.ext (.t 37) 0),none⟩,⟨0,some 42,.ext (.t 37) 1,none⟩,⟨0,some 43,.ext (.t 37) 2,none⟩,⟨0,some 11,.mv (.t 41),none⟩,⟨0,some 12,
 (.mv (.t 42)),none⟩,⟨0,some 13,.mv (.t 43),none⟩]) (.seq (.reg [(1,false),(2,false)] false [⟨0,some 45,.mv (.t 1),none⟩,⟨0,some 46,
 (.mv (.t 2)),none⟩,⟨0,some 47,(.callf false (.c (.fn (.func 17) [] [])) [.t 45,.t 46] []),none⟩,⟨0,some 44,.mv (.t 47),none⟩,⟨0,(some
 48),.ext (.t 44) 0,none⟩,⟨0,some 49,.ext (.t 44) 1,none⟩,⟨0,some 50,.ext (.t 44) 2,none⟩,⟨0,some 14,.mv (.t 48),none⟩,⟨0,(some
 15),.mv (.t 49),none⟩,⟨0,some 16,.mv (.t 50),none⟩]) (.seq (.reg [(11,false),(14,false)] false [⟨0,some 51,.mv (.t 7),none⟩,⟨0,(some
 52),.mv (.t 9),none⟩,⟨0,some 53,.bin .eql (.t 51) (.t 52),none⟩,⟨0,some 54,.mv (.t 53),none⟩,⟨0,some 55,.mv (.t 8),some (54,
 true)⟩,⟨0,some 56,.mv (.t 10),some (54,true)⟩,⟨0,some 57,.bin .eql (.t 55) (.t 56),some (54,true)⟩,⟨0,some 58,.pick (.t 54) (.t
 57) (.c (.bool false)),none⟩,⟨0,some 59,.mv (.t 58),none⟩,⟨0,some 60,.mv (.t 11),some (59,true)⟩,⟨0,some 61,.mv (.t 14),(some
 (59,true))⟩,⟨0,some 62,(.callf false (.c (.fn (.func 18) [] [])) [.t 60,.t 61] []),some (59,true)⟩,⟨0,some 63,.pick (.t 59) (.t 62) (.c
 (.bool false)),none⟩,⟨0,some 64,.mv (.t 63),none⟩,⟨0,some 65,.mv (.t 12),some (64,true)⟩,⟨0,some 66,.mv (.t 15),some (64,
 true)⟩,⟨0,some 67,.bin .eql (.t 65) (.t 66),some (64,true)⟩,⟨0,some 68,.pick (.t 64) (.t 67) (.c (.bool false)),none⟩,⟨0,some 69,
 (.mv (.t 68)),none⟩,⟨0,some 70,.mv (.t 13),some (69,true)⟩,⟨0,some 71,.mv (.t 16),some (69,true)⟩,⟨0,some 72,(.bin .eql (.t 70)
 (.t 71)),some (69,true)⟩,⟨0,some 73,.pick (.t 69) (.t 72) (.c (.bool false)),none⟩,⟨0,some 74,.mv (.t 73),none⟩,⟨0,some 75,(.callf
 false (.c (.fn (.func 13) [] [])) [] []),some (74,true)⟩,⟨0,some 76,.pick (.t 74) (.t 75) (.c (.bool false)),none⟩,⟨0,some 6,.mv (.t 76),
 none⟩]) .ret))))))),none,none⟩
theorem is3:aN prog (3,x3):=⟨⟨fun vs w=>call3 vs w,_,_,func3,rfl,rfl,by kernel_rfl,by kernel_rfl⟩,by kernel_rfl,aA rfl,rfl⟩

def aNs:XCode :=
 (.loop [0,3,4,5] (.seq (.seq (.reg [] false [⟨0,some 11,.mv (.t 5),none⟩,⟨0,some 12,.mv (.t 0),none⟩,⟨0,some 13,.len false (.t 12),
 none⟩,⟨0,some 14,.bin .lss (.t 11) (.t 13),none⟩]) (.cond (.t 14) .skip (.exit 0))) (.seq (.block 1 (.seq (.reg [(3,false),(4,false)] true [⟨0,
 (some 17),.mv (.t 3),none⟩,⟨1,some 18,.mv (.t 0),none⟩,⟨2,some 19,.mv (.t 5),none⟩,⟨3,some 20,.idx 1 (.t 18) (.t 19),none⟩,⟨4,
 (some 21),.load false 1 (.t 20),none⟩,⟨6,some 23,.mv (.t 4),none⟩,⟨7,some 24,.mv (.t 0),none⟩,⟨8,some 25,.mv (.t 5),none⟩,⟨9,
 (some 26),.idx 1 (.t 24) (.t 25),none⟩,⟨10,some 27,.load false 1 (.t 26),none⟩,⟨5,some 22,(.callf false (.c (.fn (.func 21) [] [])) [(.t
 17),.t 21] [10]),none⟩,⟨11,some 28,(.callf false (.c (.fn (.func 22) [] [])) [.t 23,.t 27] []),none⟩,⟨12,some 29,.bin .neq (.t 22) (.t
 28),none⟩]) (.cond (.t 29) (.seq (.reg [] false [⟨0,some 2,.mv (.c (.bool false)),none⟩]) .ret) .skip))) (.reg [] false [⟨0,some 15,.mv (.t
 5),none⟩,⟨0,some 16,.bin .add (.t 15) (.c (.int .i64 1)),none⟩,⟨0,some 5,.mv (.t 16),none⟩]))))
def x4:XFn:=⟨38,[(2,none)],false,false,
 (.seq (.reg [] false [⟨0,some 2,.mv (.c (.bool false)),none⟩]) (.seq (.seq (.reg [(0,false)] false [⟨0,some 6,.mv (.t 0),none⟩,⟨0,some 7,
 (.callf false (.c (.fn (.func 12) [] [])) [.t 6] []),none⟩]) (.cond (.t 7) (.seq (.reg [] false [⟨0,some 8,(.callf false (.c (.fn (.func 13) [] []))
 [] []),none⟩,⟨0,some 2,.mv (.t 8),none⟩]) .ret) .skip)) (.seq (.reg [] false [⟨0,some 9,(.callf false (.c (.fn (.func 19) [] [])) [] []),
 none⟩,⟨0,some 10,(.callf false (.c (.fn (.func 20) [] [])) [] []),none⟩,⟨0,some 3,.mv (.t 9),none⟩,⟨0,some 4,.mv (.t 10),none⟩]) (.seq
 (.seq (.reg [] false [⟨0,some 5,.mv (.c (.int .i64 0)),none⟩]) (.block 0 aNs)) (.seq (.reg [(3,false),(4,false)] false [⟨0,some 30,.mv (.t
 3),none⟩,⟨0,some 31,(.callf false (.c (.fn (.func 23) [] [])) [.t 30] []),none⟩,⟨0,some 32,.mv (.t 4),none⟩,⟨0,some 33,(.callf false
 (.c (.fn (.func 24) [] [])) [.t 32] []),none⟩,⟨0,some 34,.bin .eql (.t 31) (.t 33),none⟩,⟨0,some 35,.mv (.t 34),none⟩,⟨0,some 36,
 (.callf false (.c (.fn (.func 13) [] [])) [] []),some (35,true)⟩,⟨0,some 37,.pick (.t 35) (.t 36) (.c (.bool false)),none⟩,⟨0,some 2,(.mv
 (.t 37)),none⟩]) .ret))))),none,none⟩
theorem is4:aN prog (4,x4):=⟨⟨fun vs w=>call4 vs w,_,_,func4,rfl,rfl,by kernel_rfl,by kernel_rfl⟩,by kernel_rfl,aA rfl,rfl⟩

def aNp:XCode :=
 (.loop [1,5,8,11] (.seq (.seq (.reg [] false [⟨0,some 52,.mv (.t 11),none⟩,⟨0,some 53,.mv (.t 1),none⟩,⟨0,some 54,.len false (.t 53),
 none⟩,⟨0,some 55,.bin .lss (.t 52) (.t 54),none⟩]) (.cond (.t 55) .skip (.exit 0))) (.seq (.block 1 (.seq (.reg [(5,false),(8,false)] true [⟨0,
 (some 58),.mv (.t 5),none⟩,⟨1,some 59,.mv (.t 1),none⟩,⟨2,some 60,.mv (.t 11),none⟩,⟨3,some 61,.idx 1 (.t 59) (.t 60),none⟩,⟨4,
 (some 62),.load false 1 (.t 61),none⟩,⟨6,some 64,.mv (.t 8),none⟩,⟨7,some 65,.mv (.t 1),none⟩,⟨8,some 66,.mv (.t 11),none⟩,⟨9,
 (some 67),.idx 1 (.t 65) (.t 66),none⟩,⟨10,some 68,.load false 1 (.t 67),none⟩,⟨5,some 63,(.callf false (.c (.fn (.func 21) [] [])) [(.t
 58),.t 62] [10]),none⟩,⟨11,some 69,(.callf false (.c (.fn (.func 22) [] [])) [.t 64,.t 68] []),none⟩,⟨12,some 70,.bin .neq (.t 63) (.t
 69),none⟩]) (.cond (.t 70) (.seq (.reg [] false [⟨0,some 4,.mv (.c (.bool false)),none⟩]) .ret) .skip))) (.reg [] false [⟨0,some 56,.mv (.t
 11),none⟩,⟨0,some 57,.bin .add (.t 56) (.c (.int .i64 1)),none⟩,⟨0,some 11,.mv (.t 57),none⟩]))))
def x5:XFn:=⟨79,[(4,none)],false,false,
 (.seq (.reg [] false [⟨0,some 4,.mv (.c (.bool false)),none⟩]) (.seq (.seq (.reg [(1,false)] false [⟨0,some 12,.mv (.t 0),none⟩,⟨0,some 13,
 (.len true (.t 12)),none⟩,⟨0,some 14,.bin .gtr (.t 13) (.c (.int .i64 3000)),none⟩,⟨0,some 15,.mv (.t 14),none⟩,⟨0,some 16,.mv (.t
 1),some (15,false)⟩,⟨0,some 17,(.callf false (.c (.fn (.func 12) [] [])) [.t 16] []),some (15,false)⟩,⟨0,some 18,.pick (.t 15) (.c
 (.bool true)) (.t 17),none⟩,⟨0,some 19,.mv (.t 18),none⟩,⟨0,some 20,.mv (.t 1),some (19,false)⟩,⟨0,some 21,.len false (.t 20),
 (some (19,false))⟩,⟨0,some 22,.bin .gtr (.t 21) (.c (.int .i64 10)),some (19,false)⟩,⟨0,some 23,.pick (.t 19) (.c (.bool true)) (.t 22),
 none⟩]) (.cond (.t 23) (.seq (.reg [] false [⟨0,some 24,(.callf false (.c (.fn (.func 13) [] [])) [] []),none⟩,⟨0,some 4,.mv (.t 24),none⟩])
 .ret) .skip)) (.seq (.reg [(0,false)] false [⟨0,some 26,.mv (.t 0),none⟩,⟨0,some 27,(.callf false (.c (.fn (.func 25) [] [])) [.t 26] []),
 none⟩,⟨0,some 25,.mv (.t 27),none⟩,⟨0,some 28,.ext (.t 25) 0,none⟩,⟨0,some 29,.ext (.t 25) 1,none⟩,⟨0,some 30,.ext (.t 25) 2,
 none⟩,⟨0,some 5,.mv (.t 28),none⟩,⟨0,some 6,.mv (.t 29),none⟩,⟨0,some 7,.mv (.t 30),none⟩]) (.seq (.reg [(0,false)] false [⟨0,
 (some 32),.mv (.t 0),none⟩,⟨0,some 33,(.callf false (.c (.fn (.func 26) [] [])) [.t 32] []),none⟩,⟨0,some 31,.mv (.t 33),none⟩,⟨0,
 (some 34),.ext (.t 31) 0,none⟩,⟨0,some 35,.ext (.t 31) 1,none⟩,⟨0,some 36,.ext (.t 31) 2,none⟩,⟨0,some 8,.mv (.t 34),none⟩,⟨0,
 (some 9),.mv (.t 35),none⟩,⟨0,some 10,.mv (.t 36),none⟩]) (.seq (.seq (.reg [] false [⟨0,some 37,.mv (.t 6),none⟩,⟨0,some 38,(.mv
 (.t 9)),none⟩,⟨0,some 39,.bin .neq (.t 37) (.t 38),none⟩,⟨0,some 40,.mv (.t 39),none⟩,⟨0,some 41,.mv (.t 7),some (40,false)⟩,
 ⟨0,some 42,.mv (.t 10),some (40,false)⟩,⟨0,some 43,.bin .neq (.t 41) (.t 42),some (40,false)⟩,⟨0,some 44,.pick (.t 40) (.c (.bool
 true)) (.t 43),none⟩,⟨0,some 45,.mv (.t 44),none⟩,⟨0,some 46,.mv (.t 5),some (45,false)⟩,⟨0,some 47,.eqn 3 false (.t 46) (.c
 .nilpt),some (45,false)⟩,⟨0,some 48,.mv (.t 8),some (45,false)⟩,⟨0,some 49,.eqn 3 false (.t 48) (.c .nilpt),some (45,false)⟩,⟨0,
 (some 50),.binb true (.t 47) (.t 49),some (45,false)⟩,⟨0,some 51,.pick (.t 45) (.c (.bool true)) (.t 50),none⟩]) (.cond (.t 51) (.seq (.reg
 [] false [⟨0,some 4,.mv (.c (.bool false)),none⟩]) .ret) .skip)) (.seq (.seq (.reg [] false [⟨0,some 11,.mv (.c (.int .i64 0)),none⟩]) (.block
 0 aNp)) (.seq (.reg [(5,false),(8,false)] false [⟨0,some 71,.mv (.t 5),none⟩,⟨0,some 72,(.callf false (.c (.fn (.func 23) [] [])) [.t 71]
 []),none⟩,⟨0,some 73,.mv (.t 8),none⟩,⟨0,some 74,(.callf false (.c (.fn (.func 24) [] [])) [.t 73] []),none⟩,⟨0,some 75,.bin .eql (.t
 72) (.t 74),none⟩,⟨0,some 76,.mv (.t 75),none⟩,⟨0,some 77,(.callf false (.c (.fn (.func 13) [] [])) [] []),some (76,true)⟩,⟨0,(some
 78),.pick (.t 76) (.t 77) (.c (.bool false)),none⟩,⟨0,some 4,.mv (.t 78),none⟩]) .ret))))))),none,none⟩
theorem is5:aN prog (5,x5):=⟨⟨fun vs w=>call5 vs w,_,_,func5,rfl,rfl,by kernel_rfl,by kernel_rfl⟩,by kernel_rfl,aA rfl,rfl⟩

def x7:XFn:=⟨114,[(12,none)],false,false,
 (.seq (.reg [] false [⟨0,some 12,.mv (.c (.bool false)),none⟩]) (.seq (.reg [(0,false)] false [⟨0,some 25,.mv (.t 0),none⟩,⟨0,some 26,
 (.callf false (.c (.fn (.func 27) [] [])) [.t 25] []),none⟩,⟨0,some 13,.mv (.t 26),none⟩]) (.seq (.reg [] false [⟨0,some 27,.mv (.t 1),
 none⟩,⟨0,some 28,.conv .i64 (.t 27),none⟩,⟨0,some 29,.bin .rem (.t 28) (.c (.int .i64 1001)),none⟩,⟨0,some 14,.mv (.t 29),none⟩])
 (.seq (.reg [(13,false)] false [⟨0,some 31,.mv (.t 13),none⟩,⟨0,some 32,.mv (.t 14),none⟩,⟨0,some 33,(.callf false (.c (.fn (.func 14)
 [] [])) [.t 31,.t 32] []),none⟩,⟨0,some 30,.mv (.t 33),none⟩,⟨0,some 34,.ext (.t 30) 0,none⟩,⟨0,some 35,.ext (.t 30) 1,none⟩,
 ⟨0,some 15,.mv (.t 34),none⟩,⟨0,some 16,.mv (.t 35),none⟩]) (.seq (.reg [] false [⟨0,some 37,.mv (.t 15),none⟩,⟨0,some 38,(.mv
 (.t 14)),none⟩,⟨0,some 39,(.callf false (.c (.fn (.func 16) [] [])) [.t 37,.t 38] []),none⟩,⟨0,some 36,.mv (.t 39),none⟩,⟨0,some 40,
 (.ext (.t 36) 0),none⟩,⟨0,some 41,.ext (.t 36) 1,none⟩,⟨0,some 42,.ext (.t 36) 2,none⟩,⟨0,some 17,.mv (.t 40),none⟩,⟨0,some 18,
 (.mv (.t 41)),none⟩,⟨0,some 19,.mv (.t 42),none⟩]) (.seq (.seq (.reg [(17,false),(13,false)] false [⟨0,some 43,.mv (.t 16),none⟩,⟨0,
 (some 44),.bin .neq (.t 43) (.c (.int .i64 0)),none⟩,⟨0,some 45,.mv (.t 44),none⟩,⟨0,some 46,.mv (.t 19),some (45,false)⟩,⟨0,(some
 47),.bin .neq (.t 46) (.c (.int .i64 0)),some (45,false)⟩,⟨0,some 48,.pick (.t 45) (.c (.bool true)) (.t 47),none⟩,⟨0,some 49,.mv (.t
 48),none⟩,⟨0,some 50,.mv (.t 18),some (49,false)⟩,⟨0,some 51,.bin .neq (.t 50) (.c (.int .i64 0)),some (49,false)⟩,⟨0,some 52,
 (.pick (.t 49) (.c (.bool true)) (.t 51)),none⟩,⟨0,some 53,.mv (.t 52),none⟩,⟨0,some 54,.mv (.t 17),some (53,false)⟩,⟨0,some 55,
 (.mv (.t 13)),some (53,false)⟩,⟨0,some 56,(.callf false (.c (.fn (.func 18) [] [])) [.t 54,.t 55] []),some (53,false)⟩,⟨0,some 57,
 (.not (.t 56)),some (53,false)⟩,⟨0,some 58,.pick (.t 53) (.c (.bool true)) (.t 57),none⟩,⟨0,some 59,.mv (.t 58),none⟩,⟨0,some 60,
 (.mv (.t 15)),some (59,false)⟩,⟨0,some 61,.len true (.t 60),some (59,false)⟩,⟨0,some 62,.mv (.t 13),some (59,false)⟩,⟨0,(some
 63),.len false (.t 62),some (59,false)⟩,⟨0,some 64,.bin .add (.t 63) (.c (.int .i64 1)),some (59,false)⟩,⟨0,some 65,.bin .mul (.c
 (.int .i64 45)) (.t 64),some (59,false)⟩,⟨0,some 66,.bin .neq (.t 61) (.t 65),some (59,false)⟩,⟨0,some 67,.pick (.t 59) (.c (.bool
 true)) (.t 66),none⟩]) (.cond (.t 67) (.seq (.reg [] false [⟨0,some 12,.mv (.c (.bool false)),none⟩]) .ret) .skip)) (.seq (.reg [(2,false),(3,
 false),(4,false),(5,false)] false [⟨0,some 69,.mv (.t 15),none⟩,⟨0,some 70,.mv (.t 2),none⟩,⟨0,some 71,.mv (.t 3),none⟩,⟨0,
 (some 72),.mv (.t 4),none⟩,⟨0,some 73,.mv (.t 5),none⟩,⟨0,some 74,(.callf false (.c (.fn (.func 28) [] [])) [.t 69,.t 70,.t 71,(.t
 72),.t 73] []),none⟩,⟨0,some 68,.mv (.t 74),none⟩,⟨0,some 75,.ext (.t 68) 0,none⟩,⟨0,some 76,.ext (.t 68) 1,none⟩,⟨0,(some
 20),.mv (.t 75),none⟩,⟨0,some 21,.mv (.t 76),none⟩]) (.seq (.reg [(20,false)] false [⟨0,some 78,.mv (.t 20),none⟩,⟨0,some 79,(.mv
 (.t 14)),none⟩,⟨0,some 80,(.callf false (.c (.fn (.func 16) [] [])) [.t 78,.t 79] []),none⟩,⟨0,some 77,.mv (.t 80),none⟩,⟨0,some 81,
 (.ext (.t 77) 0),none⟩,⟨0,some 82,.ext (.t 77) 1,none⟩,⟨0,some 83,.ext (.t 77) 2,none⟩,⟨0,some 22,.mv (.t 81),none⟩,⟨0,some 18,
 (.mv (.t 82)),none⟩,⟨0,some 16,.mv (.t 83),none⟩]) (.seq (.reg [] false [⟨0,some 23,.mv (.c (.int .i64 0)),none⟩]) (.seq (.seq (.reg []
 false [⟨0,some 84,.mv (.t 21),none⟩]) (.cond (.t 84) (.reg [] false [⟨0,some 23,.mv (.c (.int .i64 1)),none⟩]) .skip)) (.seq (.seq (.reg [(22,
 false),(13,false)] false [⟨0,some 85,.mv (.t 16),none⟩,⟨0,some 86,.bin .neq (.t 85) (.c (.int .i64 0)),none⟩,⟨0,some 87,.mv (.t 86),
 none⟩,⟨0,some 88,.mv (.t 18),some (87,false)⟩,⟨0,some 89,.mv (.t 23),some (87,false)⟩,⟨0,some 90,.bin .neq (.t 88) (.t 89),
 (some (87,false))⟩,⟨0,some 91,.pick (.t 87) (.c (.bool true)) (.t 90),none⟩,⟨0,some 92,.mv (.t 91),none⟩,⟨0,some 93,.mv (.t 22),
 (some (92,false))⟩,⟨0,some 94,.mv (.t 13),some (92,false)⟩,⟨0,some 95,(.callf false (.c (.fn (.func 18) [] [])) [.t 93,.t 94] []),
 (some (92,false))⟩,⟨0,some 96,.not (.t 95),some (92,false)⟩,⟨0,some 97,.pick (.t 92) (.c (.bool true)) (.t 96),none⟩]) (.cond (.t 97)
 (.seq (.reg [] false [⟨0,some 12,.mv (.c (.bool false)),none⟩]) .ret) .skip)) (.seq (.reg [(22,false)] false [⟨0,some 99,.mv (.t 22),none⟩,
 ⟨0,some 100,.mv (.t 14),none⟩,⟨0,some 101,(.callf false (.c (.fn (.func 14) [] [])) [.t 99,.t 100] []),none⟩,⟨0,some 98,.mv (.t
 101),none⟩,⟨0,some 102,.ext (.t 98) 0,none⟩,⟨0,some 103,.ext (.t 98) 1,none⟩,⟨0,some 24,.mv (.t 102),none⟩,⟨0,some 16,(.mv
 (.t 103)),none⟩]) (.seq (.reg [] false [⟨0,some 104,.mv (.t 16),none⟩,⟨0,some 105,.bin .eql (.t 104) (.c (.int .i64 0)),none⟩,⟨0,(some
 106),.mv (.t 105),none⟩,⟨0,some 107,.mv (.t 24),some (106,true)⟩,⟨0,some 108,.mv (.t 15),some (106,true)⟩,⟨0,some 109,(.bin
 .eql (.t 107) (.t 108)),some (106,true)⟩,⟨0,some 110,.pick (.t 106) (.t 109) (.c (.bool false)),none⟩,⟨0,some 111,.mv (.t 110),none⟩,
 ⟨0,some 112,(.callf false (.c (.fn (.func 13) [] [])) [] []),some (111,true)⟩,⟨0,some 113,.pick (.t 111) (.t 112) (.c (.bool false)),none⟩,
 ⟨0,some 12,.mv (.t 113),none⟩]) .ret))))))))))))),none,none⟩
theorem is7:aN prog (7,x7):=⟨⟨fun vs w=>call7 vs w,_,_,func7,rfl,rfl,by kernel_rfl,by kernel_rfl⟩,by kernel_rfl,aA rfl,rfl⟩

def aHZ:XCode :=
 (.loop [0,3,4] (.seq (.seq (.reg [] false [⟨0,some 8,.mv (.t 4),none⟩,⟨0,some 9,.mv (.t 0),none⟩,⟨0,some 10,.len false (.t 9),none⟩,
 ⟨0,some 11,.bin .lss (.t 8) (.t 10),none⟩]) (.cond (.t 11) .skip (.exit 0))) (.seq (.block 1 (.reg [] false [⟨0,some 14,.mv (.t 3),none⟩,⟨0,
 (some 15),.mv (.t 14),none⟩,⟨0,some 16,.mv (.t 0),some (15,false)⟩,⟨0,some 17,.mv (.t 4),some (15,false)⟩,⟨0,some 18,(.idx 1
 (.t 16) (.t 17)),some (15,false)⟩,⟨0,some 19,.load false 1 (.t 18),some (15,false)⟩,⟨0,some 20,.len true (.t 19),some (15,false)⟩,
 ⟨0,some 21,.bin .gtr (.t 20) (.c (.int .i64 100)),some (15,false)⟩,⟨0,some 22,.pick (.t 15) (.c (.bool true)) (.t 21),none⟩,⟨0,some 3,
 (.mv (.t 22)),none⟩])) (.reg [] false [⟨0,some 12,.mv (.t 4),none⟩,⟨0,some 13,.bin .add (.t 12) (.c (.int .i64 1)),none⟩,⟨0,some 4,(.mv
 (.t 13)),none⟩]))))
def x12:XFn:=⟨24,[(2,none)],false,false,
 (.seq (.reg [] false [⟨0,some 2,.mv (.c (.bool false)),none⟩]) (.seq (.reg [] false [⟨0,some 5,.mv (.t 0),none⟩,⟨0,some 6,.len false (.t
 5),none⟩,⟨0,some 7,.bin .gtr (.t 6) (.c (.int .i64 40)),none⟩,⟨0,some 3,.mv (.t 7),none⟩]) (.seq (.seq (.reg [] false [⟨0,some 4,(.mv
 (.c (.int .i64 0))),none⟩]) (.block 0 aHZ)) (.seq (.reg [] false [⟨0,some 23,.mv (.t 3),none⟩,⟨0,some 2,.mv (.t 23),none⟩]) .ret)))),none,none⟩
theorem aQk:aN prog (12,x12):=⟨⟨fun vs w=>call12 vs w,_,_,func12,rfl,rfl,by kernel_rfl,by kernel_rfl⟩,by kernel_rfl,aA rfl,rfl⟩

def x13:XFn:=⟨122,[(0,none)],false,false,
 (.seq (.reg [] false [⟨0,some 0,.mv (.c (.bool false)),none⟩]) (.seq (.reg [] false [⟨0,some 17,(.callf false (.c (.fn (.func 34) [] [])) [(.c
 (.int .i64 32))] []),none⟩,⟨0,some 18,.bin .add (.c (.str ⟨#[50,49,49,49,102,97,114,109,101,114,32,97]⟩)) (.t 17),none⟩,⟨0,some 19,
 (.bin .add (.t 18) (.c (.str ⟨#[10]⟩))),none⟩,⟨0,some 20,(.callf false (.c (.fn (.func 34) [] [])) [.c (.int .i64 35)] []),none⟩,⟨0,some 21,
 (.bin .add (.c (.str ⟨#[49,49,51,52,99,108,111,115,101]⟩)) (.t 20)),none⟩,⟨0,some 22,.bin .add (.t 21) (.c (.str ⟨#[10]⟩)),none⟩,⟨0,(some
 23),(.callf false (.c (.fn (.func 34) [] [])) [.c (.int .i64 32)] []),none⟩,⟨0,some 24,.bin .add (.c (.str ⟨#[49,56,50,49,74,78,98,97,75,
 114,32,97]⟩)) (.t 23),none⟩,⟨0,some 25,.bin .add (.t 24) (.c (.str ⟨#[10]⟩)),none⟩,⟨0,some 1,.mv (.t 19),none⟩,⟨0,some 2,.mv (.t
 22),none⟩,⟨0,some 3,.mv (.t 25),none⟩]) (.seq (.reg [] false [⟨0,some 26,(.callf false (.c (.fn (.func 34) [] [])) [.c (.int .i64 35)] []),
 none⟩,⟨0,some 27,.bin .add (.c (.str ⟨#[49,49,51,52,99,108,111,122,101]⟩)) (.t 26),none⟩,⟨0,some 28,.bin .add (.t 27) (.c (.str
 ⟨#[10]⟩)),none⟩,⟨0,some 4,.mv (.t 28),none⟩]) (.seq (.reg [] false [⟨0,some 29,(.bslice 1 2 [(.str ⟨#[]⟩)] [(0,(1,(.c (.str ⟨#[102,97,114,
 109,101,114,32,97]⟩)))),(1,(1,(.c (.str ⟨#[99,108,111,115,101]⟩))))]),none⟩,⟨0,some 5,.mv (.t 29),none⟩]) (.seq (.reg [(5,false)] false
 [⟨0,some 31,.mv (.t 5),none⟩,⟨0,some 32,(.callf false (.c (.fn (.func 14) [] [])) [.t 31,.c (.int .i64 0)] []),none⟩,⟨0,some 30,(.mv
 (.t 32)),none⟩,⟨0,some 33,.ext (.t 30) 0,none⟩,⟨0,some 34,.ext (.t 30) 1,none⟩,⟨0,some 6,.mv (.t 33),none⟩,⟨0,some 7,.mv (.t
 34),none⟩]) (.seq (.reg [] false [⟨0,some 36,.mv (.t 1),none⟩,⟨0,some 37,.mv (.t 4),none⟩,⟨0,some 38,.bin .add (.t 36) (.t 37),
 none⟩,⟨0,some 39,.mv (.t 3),none⟩,⟨0,some 40,.bin .add (.t 38) (.t 39),none⟩,⟨0,some 41,(.callf false (.c (.fn (.func 16) [] [])) [(.t
 40),.c (.int .i64 0)] []),none⟩,⟨0,some 35,.mv (.t 41),none⟩,⟨0,some 42,.ext (.t 35) 0,none⟩,⟨0,some 43,.ext (.t 35) 1,none⟩,
 ⟨0,some 44,.ext (.t 35) 2,none⟩,⟨0,some 8,.mv (.t 42),none⟩,⟨0,some 9,.mv (.t 43),none⟩,⟨0,some 10,.mv (.t 44),none⟩]) (.seq
 (.reg [] false [⟨0,some 46,.mv (.t 4),none⟩,⟨0,some 47,.mv (.t 4),none⟩,⟨0,some 48,.bin .add (.t 46) (.t 47),none⟩,⟨0,some 49,
 (.mv (.t 3)),none⟩,⟨0,some 50,.bin .add (.t 48) (.t 49),none⟩,⟨0,some 51,(.callf false (.c (.fn (.func 16) [] [])) [.t 50,.c (.int .i64
 0)] []),none⟩,⟨0,some 45,.mv (.t 51),none⟩,⟨0,some 52,.ext (.t 45) 0,none⟩,⟨0,some 53,.ext (.t 45) 1,none⟩,⟨0,some 54,(.ext
 (.t 45) 2),none⟩,⟨0,some 11,.mv (.t 52),none⟩,⟨0,some 12,.mv (.t 53),none⟩,⟨0,some 13,.mv (.t 54),none⟩]) (.seq (.seq (.reg [(8,
 false),(5,false)] false [⟨0,some 55,.mv (.t 7),none⟩,⟨0,some 56,.bin .neq (.t 55) (.c (.int .i64 0)),none⟩,⟨0,some 57,.mv (.t 56),
 none⟩,⟨0,some 58,.mv (.t 10),some (57,false)⟩,⟨0,some 59,.bin .neq (.t 58) (.c (.int .i64 0)),some (57,false)⟩,⟨0,some 60,(.pick
 (.t 57) (.c (.bool true)) (.t 59)),none⟩,⟨0,some 61,.mv (.t 60),none⟩,⟨0,some 62,.mv (.t 13),some (61,false)⟩,⟨0,some 63,(.bin .neq
 (.t 62) (.c (.int .i64 19))),some (61,false)⟩,⟨0,some 64,.pick (.t 61) (.c (.bool true)) (.t 63),none⟩,⟨0,some 65,.mv (.t 64),none⟩,⟨0,
 (some 66),.mv (.t 6),some (65,false)⟩,⟨0,some 67,.mv (.t 1),some (65,false)⟩,⟨0,some 68,.mv (.t 2),some (65,false)⟩,⟨0,(some
 69),.bin .add (.t 67) (.t 68),some (65,false)⟩,⟨0,some 70,.mv (.t 3),some (65,false)⟩,⟨0,some 71,.bin .add (.t 69) (.t 70),(some
 (65,false))⟩,⟨0,some 72,.bin .neq (.t 66) (.t 71),some (65,false)⟩,⟨0,some 73,.pick (.t 65) (.c (.bool true)) (.t 72),none⟩,⟨0,(some
 74),.mv (.t 73),none⟩,⟨0,some 75,.mv (.t 8),some (74,false)⟩,⟨0,some 76,.mv (.t 5),some (74,false)⟩,⟨0,some 77,(.callf false
 (.c (.fn (.func 18) [] [])) [.t 75,.t 76] []),some (74,false)⟩,⟨0,some 78,.not (.t 77),some (74,false)⟩,⟨0,some 79,(.pick (.t 74)
 (.c (.bool true)) (.t 78)),none⟩,⟨0,some 80,.mv (.t 79),none⟩,⟨0,some 81,.mv (.t 9),some (80,false)⟩,⟨0,some 82,(.bin .neq (.t 81)
 (.c (.int .i64 1))),some (80,false)⟩,⟨0,some 83,.pick (.t 80) (.c (.bool true)) (.t 82),none⟩]) (.cond (.t 83) (.seq (.reg [] false [⟨0,(some
 0),.mv (.c (.bool false)),none⟩]) .ret) .skip)) (.seq (.reg [] false [⟨0,some 84,(.callf false (.c (.fn (.func 19) [] [])) [] []),none⟩,⟨0,(some
 14),.mv (.t 84),none⟩]) (.seq (.reg [(14,false)] false [⟨0,some 85,.mv (.t 14),none⟩,⟨0,some 86,(.bslice 1 33 [(.str ⟨#[]⟩)] [(0,(1,(.c
 (.str ⟨#[102,97,114,109,101,114,32,97,110,97]⟩)))),(1,(1,(.c (.str ⟨#[102,97,114,109,101,114,32,98,111]⟩)))),(2,(1,(.c (.str ⟨#[102,
 97,114,109,101,114,32,97,110,97]⟩)))),(3,(1,(.c (.str ⟨#[119,97,103,111,110,32,119,49,32,49,53,48,48,48,32,53,48,48,48,32,97,
 110,97]⟩)))),(4,(1,(.c (.str ⟨#[119,97,103,111,110,32,119,49,32,49,52,48,48,48,32,53,53,48,49,32,98,111]⟩)))),(5,(1,(.c (.str
 ⟨#[119,97,103,111,110,32,119,49,32,49,52,48,48,48,32,53,53,48,48,32,98,111]⟩)))),(6,(1,(.c (.str ⟨#[119,97,103,111,110,32,119,
 50,32,51,48,48,48,32,52,48,48,48,32,97,110,97]⟩)))),(7,(1,(.c (.str ⟨#[119,97,103,111,110,32,119,50,32,52,48,48,48,32,51,48,
 48,48,32,101,118,101]⟩)))),(8,(1,(.c (.str ⟨#[119,97,103,111,110,32,119,50,32,57,48,48,48,32,51,48,48,48,32,98,111]⟩)))),(9,
 (1,(.c (.str ⟨#[110,101,116,32,98,111]⟩)))),(10,(1,(.c (.str ⟨#[116,111,116,97,108]⟩)))),(11,(1,(.c (.str ⟨#[112,111,119,101,114,32,
 97,110,97]⟩)))),(12,(1,(.c (.str ⟨#[112,111,119,101,114,32,98,111]⟩)))),(13,(1,(.c (.str ⟨#[116,105,99,107,101,116,32,48]⟩)))),(14,
 (1,(.c (.str ⟨#[118,111,105,100,32,48]⟩)))),(15,(1,(.c (.str ⟨#[116,105,99,107,101,116,32,48]⟩)))),(16,(1,(.c (.str ⟨#[116,111,116,97,
 108]⟩)))),(17,(1,(.c (.str ⟨#[99,108,111,115,101]⟩)))),(18,(1,(.c (.str ⟨#[118,111,105,100,32,49]⟩)))),(19,(1,(.c (.str ⟨#[118,111,105,
 100,32,48]⟩)))),(20,(1,(.c (.str ⟨#[118,111,105,100,32,51]⟩)))),(21,(1,(.c (.str ⟨#[99,108,111,115,101]⟩)))),(22,(1,(.c (.str ⟨#[109,
 101,116,101,114,32,109,32,57,57,57,57,48]⟩)))),(23,(1,(.c (.str ⟨#[117,115,101,100,32,109]⟩)))),(24,(1,(.c (.str ⟨#[109,101,116,
 101,114,32,109,32,49,53]⟩)))),(25,(1,(.c (.str ⟨#[117,115,101,100,32,109]⟩)))),(26,(1,(.c (.str ⟨#[112,97,110,32,112,32,57,48,48,
 32,56,55,48]⟩)))),(27,(1,(.c (.str ⟨#[112,97,110,32,112,32,49,48,48,32,49,48,49]⟩)))),(28,(1,(.c (.str ⟨#[108,111,115,115,32,
 112]⟩)))),(29,(1,(.c (.str ⟨#[110,101,116,32,32,98,111]⟩)))),(30,(1,(.c (.str ⟨#[110,101,116,32,66,111]⟩)))),(31,(1,(.c (.str ⟨#[119,
 97,103,111,110,32,119,51,32,49,32,48,50,32,98,111]⟩)))),(32,(1,(.c (.str ⟨#[115,117,103,97,114]⟩))))]),none⟩,⟨0,some 87,(.callf
 false (.c (.fn (.func 31) [] [])) [.t 85,.t 86] []),none⟩,⟨0,some 15,.mv (.t 87),none⟩]) (.seq (.seq (.reg [(15,false)] false [⟨0,some 88,
 (.mv (.t 15)),none⟩,⟨0,some 89,(.bslice 1 33 [(.str ⟨#[]⟩)] [(0,(1,(.c (.str ⟨#[111,107]⟩)))),(1,(1,(.c (.str ⟨#[111,107]⟩)))),(2,(1,(.c
 (.str ⟨#[110,111,32,54]⟩)))),(3,(1,(.c (.str ⟨#[111,107]⟩)))),(4,(1,(.c (.str ⟨#[110,111,32,50,50]⟩)))),(5,(1,(.c (.str ⟨#[111,107]⟩)))),
 (6,(1,(.c (.str ⟨#[110,111,32,49,48]⟩)))),(7,(1,(.c (.str ⟨#[110,111,32,53]⟩)))),(8,(1,(.c (.str ⟨#[111,107]⟩)))),(9,(1,(.c (.str ⟨#[49,
 52,53,48,48]⟩)))),(10,(1,(.c (.str ⟨#[50,52,53,48,48]⟩)))),(11,(1,(.c (.str ⟨#[48]⟩)))),(12,(1,(.c (.str ⟨#[50]⟩)))),(13,(1,(.c (.str
 ⟨#[119,49,32,97,110,97,32,49,48,48,48,48]⟩)))),(14,(1,(.c (.str ⟨#[111,107]⟩)))),(15,(1,(.c (.str ⟨#[119,49,32,97,110,97,32,49,48,
 48,48,48,32,118,111,105,100]⟩)))),(16,(1,(.c (.str ⟨#[49,52,53,48,48]⟩)))),(17,(1,(.c (.str ⟨#[111,107]⟩)))),(18,(1,(.c (.str ⟨#[110,
 111,32,50,51]⟩)))),(19,(1,(.c (.str ⟨#[110,111,32,54]⟩)))),(20,(1,(.c (.str ⟨#[110,111,32,53]⟩)))),(21,(1,(.c (.str ⟨#[110,111,32,
 52]⟩)))),(22,(1,(.c (.str ⟨#[111,107]⟩)))),(23,(1,(.c (.str ⟨#[48]⟩)))),(24,(1,(.c (.str ⟨#[111,107]⟩)))),(25,(1,(.c (.str ⟨#[50,53]⟩)))),
 (26,(1,(.c (.str ⟨#[111,107]⟩)))),(27,(1,(.c (.str ⟨#[110,111,32,49,48]⟩)))),(28,(1,(.c (.str ⟨#[51,48]⟩)))),(29,(1,(.c (.str ⟨#[110,111,
 32,49,51]⟩)))),(30,(1,(.c (.str ⟨#[110,111,32,56]⟩)))),(31,(1,(.c (.str ⟨#[110,111,32,50]⟩)))),(32,(1,(.c (.str ⟨#[110,111,32,49,
 51]⟩))))]),none⟩,⟨0,some 90,(.callf false (.c (.fn (.func 18) [] [])) [.t 88,.t 89] []),none⟩,⟨0,some 91,.not (.t 90),none⟩]) (.cond (.t
 91) (.seq (.reg [] false [⟨0,some 0,.mv (.c (.bool false)),none⟩]) .ret) .skip)) (.seq (.reg [(14,false)] false [⟨0,some 93,.mv (.t 14),
 none⟩,⟨0,some 94,(.callf false (.c (.fn (.func 23) [] [])) [.t 93] []),none⟩,⟨0,some 95,(.callf false (.c (.fn (.func 25) [] [])) [.t 94]
 []),none⟩,⟨0,some 92,.mv (.t 95),none⟩,⟨0,some 96,.ext (.t 92) 0,none⟩,⟨0,some 97,.ext (.t 92) 1,none⟩,⟨0,some 98,.ext (.t
 92) 2,none⟩,⟨0,some 16,.mv (.t 96),none⟩,⟨0,some 9,.mv (.t 97),none⟩,⟨0,some 7,.mv (.t 98),none⟩]) (.seq (.reg [(16,false),(14,
 false)] false [⟨0,some 99,.mv (.t 7),none⟩,⟨0,some 100,.bin .eql (.t 99) (.c (.int .i64 0)),none⟩,⟨0,some 101,.mv (.t 100),none⟩,⟨0,
 (some 102),.mv (.t 9),some (101,true)⟩,⟨0,some 103,.bin .eql (.t 102) (.c (.int .i64 0)),some (101,true)⟩,⟨0,some 104,(.pick (.t 101)
 (.t 103) (.c (.bool false))),none⟩,⟨0,some 105,.mv (.t 104),none⟩,⟨0,some 106,.mv (.t 16),some (105,true)⟩,⟨0,some 107,(.callf
 false (.c (.fn (.func 23) [] [])) [.t 106] []),some (105,true)⟩,⟨0,some 108,.mv (.t 14),some (105,true)⟩,⟨0,some 109,(.callf false (.c
 (.fn (.func 23) [] [])) [.t 108] []),some (105,true)⟩,⟨0,some 110,.bin .eql (.t 107) (.t 109),some (105,true)⟩,⟨0,some 111,.pick (.t
 105) (.t 110) (.c (.bool false)),none⟩,⟨0,some 112,.mv (.t 111),none⟩,⟨0,some 113,.mv (.t 16),some (112,true)⟩,⟨0,some 114,(.callf
 false (.c (.fn (.func 21) [] [])) [.t 113,.c (.str ⟨#[110,101,116,32,98,111]⟩)] []),some (112,true)⟩,⟨0,some 115,.bin .eql (.t 114) (.c
 (.str ⟨#[49,52,53,48,48]⟩)),some (112,true)⟩,⟨0,some 116,.pick (.t 112) (.t 115) (.c (.bool false)),none⟩,⟨0,some 117,.mv (.t 116),
 none⟩,⟨0,some 118,(.callf false (.c (.fn (.func 19) [] [])) [] []),some (117,true)⟩,⟨0,some 119,(.callf false (.c (.fn (.func 23) [] [])) [(.t
 118)] []),some (117,true)⟩,⟨0,some 120,.bin .eql (.t 119) (.c (.str ⟨#[122,97,102,114,97,32,49,52,10]⟩)),some (117,true)⟩,⟨0,(some
 121),.pick (.t 117) (.t 120) (.c (.bool false)),none⟩,⟨0,some 0,.mv (.t 121),none⟩]) .ret))))))))))))),none,none⟩
theorem aQj:aN prog (13,x13):=⟨⟨fun vs w=>call13 vs w,_,_,func13,rfl,rfl,by kernel_rfl,by kernel_rfl⟩,by kernel_rfl,aA rfl,rfl⟩

def aHY:XCode :=
 (.loop [0,1,20,21,22] (.seq (.reg [] false [⟨0,some 23,.bin .lss (.t 22) (.t 21),none⟩]) (.seq (.cond (.t 23) .skip (.exit 1)) (.seq (.block 2
 (.seq (.reg [] false [⟨0,some 24,.idx 1 (.t 20) (.t 22),none⟩,⟨0,some 25,.load false 1 (.t 24),none⟩,⟨0,some 7,.mv (.t 25),none⟩])
 (.block 3 (.seq (.reg [] false [⟨0,some 27,.mv (.t 7),none⟩,⟨0,some 28,.len true (.t 27),none⟩,⟨0,some 29,.bin .gtr (.t 28) (.c (.int
 .i64 40)),none⟩,⟨0,some 26,.mv (.t 29),none⟩]) (.cond (.t 26) (.seq (.reg [] false [⟨0,some 4,.mv (.c (.str ⟨#[]⟩)),none⟩,⟨0,some 5,
 (.mv (.c (.int .i64 14))),none⟩]) .ret) (.seq (.reg [] false [⟨0,some 31,.mv (.t 7),none⟩,⟨0,some 32,.bin .eql (.t 31) (.c (.str ⟨#[]⟩)),
 none⟩,⟨0,some 33,.mv (.t 32),none⟩,⟨0,some 34,.mv (.t 7),some (33,false)⟩,⟨0,some 35,(.callf false (.c (.fn (.func 36) [] [])) [(.t
 34)] []),some (33,false)⟩,⟨0,some 36,.pick (.t 33) (.c (.bool true)) (.t 35),none⟩,⟨0,some 37,.mv (.t 36),none⟩,⟨0,some 38,.mv (.t
 7),some (37,false)⟩,⟨0,some 39,(.callf false (.c (.fn (.func 37) [] [])) [.t 38,.c (.str ⟨#[32]⟩)] []),some (37,false)⟩,⟨0,some 40,
 (.pick (.t 37) (.c (.bool true)) (.t 39)),none⟩,⟨0,some 30,.mv (.t 40),none⟩]) (.cond (.t 30) (.seq (.reg [] false [⟨0,some 4,.mv (.c (.str
 ⟨#[]⟩)),none⟩,⟨0,some 5,.mv (.c (.int .i64 13)),none⟩]) .ret) .skip))))))) (.reg [] false [⟨0,some 41,.bin .add (.t 22) (.c (.int .i64 1)),
 none⟩,⟨0,some 22,.mv (.t 41),none⟩])))))
def x14:XFn:=⟨45,[(4,none),(5,none)],false,false,
 (.seq (.reg [] false [⟨0,some 4,.mv (.c (.str ⟨#[]⟩)),none⟩,⟨0,some 5,.mv (.c (.int .i64 0)),none⟩]) (.seq (.block 0 (.seq (.reg [(1,false)]
 false [⟨0,some 9,.mv (.t 1),none⟩,⟨0,some 10,(.callf false (.c (.fn (.func 35) [] [])) [.c (.int .i64 0),.t 9,.c (.int .i64 1000)] []),
 none⟩,⟨0,some 11,.not (.t 10),none⟩,⟨0,some 8,.mv (.t 11),none⟩]) (.cond (.t 8) (.seq (.reg [] false [⟨0,some 4,.mv (.c (.str ⟨#[]⟩)),
 none⟩,⟨0,some 5,.mv (.c (.int .i64 2)),none⟩]) .ret) (.seq (.reg [] false [⟨0,some 13,.mv (.t 0),none⟩,⟨0,some 14,.len false (.t 13),
 none⟩,⟨0,some 15,.bin .eql (.t 14) (.c (.int .i64 0)),none⟩,⟨0,some 12,.mv (.t 15),none⟩]) (.cond (.t 12) (.seq (.reg [] false [⟨0,(some
 4),.mv (.c (.str ⟨#[]⟩)),none⟩,⟨0,some 5,.mv (.c (.int .i64 4)),none⟩]) .ret) (.seq (.reg [] false [⟨0,some 17,.mv (.t 0),none⟩,⟨0,
 (some 18),.len false (.t 17),none⟩,⟨0,some 19,.bin .gtr (.t 18) (.c (.int .i64 5)),none⟩,⟨0,some 16,.mv (.t 19),none⟩]) (.cond (.t 16)
 (.seq (.reg [] false [⟨0,some 4,.mv (.c (.str ⟨#[]⟩)),none⟩,⟨0,some 5,.mv (.c (.int .i64 1)),none⟩]) .ret) .skip))))))) (.seq (.seq (.reg []
 false [⟨0,some 20,.mv (.t 0),none⟩,⟨0,some 21,.len false (.t 20),none⟩,⟨0,some 22,.mv (.c (.int .i64 0)),none⟩]) (.block 1 aHY))
 (.seq (.reg [(0,false),(1,false)] false [⟨0,some 42,.mv (.t 0),none⟩,⟨0,some 43,.mv (.t 1),none⟩,⟨0,some 44,(.callf false (.c (.fn
 (.func 38) [] [])) [.t 42,.t 43] []),none⟩,⟨0,some 4,.mv (.t 44),none⟩,⟨0,some 5,.mv (.c (.int .i64 0)),none⟩]) .ret)))),none,none⟩
theorem aQi:aN prog (14,x14):=⟨⟨fun vs w=>call14 vs w,_,_,func14,rfl,rfl,by kernel_rfl,by kernel_rfl⟩,by kernel_rfl,aA rfl,rfl⟩

def aHX:XCode :=
 (.loop [0,1,6] (.seq (.seq (.reg [] false [⟨0,some 17,.mv (.t 6),none⟩,⟨0,some 18,.mv (.t 0),none⟩,⟨0,some 19,.len false (.t 18),
 none⟩,⟨0,some 20,.bin .lss (.t 17) (.t 19),none⟩]) (.cond (.t 20) .skip (.exit 0))) (.seq (.block 1 (.seq (.reg [] false [⟨0,some 23,.mv (.t
 0),none⟩,⟨0,some 24,.mv (.t 6),none⟩,⟨0,some 25,.idx 1 (.t 23) (.t 24),none⟩,⟨0,some 26,.load false 1 (.t 25),none⟩,⟨0,some 7,
 (.mv (.t 26)),none⟩]) (.seq (.seq (.reg [] false [⟨0,some 27,.mv (.t 7),none⟩,⟨0,some 28,.len true (.t 27),none⟩,⟨0,some 29,(.bin .gtr
 (.t 28) (.c (.int .i64 40))),none⟩]) (.cond (.t 29) (.seq (.reg [] false [⟨0,some 4,.mv (.c (.str ⟨#[]⟩)),none⟩,⟨0,some 5,.mv (.c (.int .i64
 14)),none⟩]) .ret) .skip)) (.seq (.reg [] false [⟨0,some 30,.mv (.t 7),none⟩,⟨0,some 31,.bin .eql (.t 30) (.c (.str ⟨#[]⟩)),none⟩,⟨0,
 (some 32),.mv (.t 31),none⟩,⟨0,some 33,.mv (.t 7),some (32,false)⟩,⟨0,some 34,(.callf false (.c (.fn (.func 40) [] [])) [.t 33] []),
 (some (32,false))⟩,⟨0,some 35,.not (.t 34),some (32,false)⟩,⟨0,some 36,.pick (.t 32) (.c (.bool true)) (.t 35),none⟩,⟨0,some 37,
 (.mv (.t 36)),none⟩,⟨0,some 38,.mv (.t 7),some (37,false)⟩,⟨0,some 39,.mv (.t 7),some (37,false)⟩,⟨0,some 40,.len true (.t
 39),some (37,false)⟩,⟨0,some 41,.bin .sub (.t 40) (.c (.int .i64 1)),some (37,false)⟩,⟨0,some 42,.idxs (.t 38) (.t 41),some (37,
 false)⟩,⟨0,some 43,.bin .eql (.t 42) (.c (.int .u8 32)),some (37,false)⟩,⟨0,some 44,.pick (.t 37) (.c (.bool true)) (.t 43),none⟩])
 (.cond (.t 44) (.seq (.reg [] false [⟨0,some 4,.mv (.c (.str ⟨#[]⟩)),none⟩,⟨0,some 5,.mv (.c (.int .i64 13)),none⟩]) .ret) .skip))))) (.reg
 [] false [⟨0,some 21,.mv (.t 6),none⟩,⟨0,some 22,.bin .add (.t 21) (.c (.int .i64 1)),none⟩,⟨0,some 6,.mv (.t 22),none⟩]))))
def x15:XFn:=⟨48,[(4,none),(5,none)],false,false,
 (.seq (.reg [] false [⟨0,some 4,.mv (.c (.str ⟨#[]⟩)),none⟩,⟨0,some 5,.mv (.c (.int .i64 0)),none⟩]) (.seq (.seq (.reg [(1,false)] false [⟨0,
 (some 8),.mv (.t 1),none⟩,⟨0,some 9,(.callf false (.c (.fn (.func 39) [] [])) [.t 8,.c (.int .i64 0),.c (.int .i64 1000)] []),none⟩,⟨0,
 (some 10),.not (.t 9),none⟩]) (.cond (.t 10) (.seq (.reg [] false [⟨0,some 4,.mv (.c (.str ⟨#[]⟩)),none⟩,⟨0,some 5,.mv (.c (.int .i64 2)),
 none⟩]) .ret) .skip)) (.seq (.seq (.reg [] false [⟨0,some 11,.mv (.t 0),none⟩,⟨0,some 12,.len false (.t 11),none⟩,⟨0,some 13,(.bin .eql
 (.t 12) (.c (.int .i64 0))),none⟩]) (.cond (.t 13) (.seq (.reg [] false [⟨0,some 4,.mv (.c (.str ⟨#[]⟩)),none⟩,⟨0,some 5,.mv (.c (.int .i64
 4)),none⟩]) .ret) .skip)) (.seq (.seq (.reg [] false [⟨0,some 14,.mv (.t 0),none⟩,⟨0,some 15,.len false (.t 14),none⟩,⟨0,some 16,(.bin
 .gtr (.t 15) (.c (.int .i64 5))),none⟩]) (.cond (.t 16) (.seq (.reg [] false [⟨0,some 4,.mv (.c (.str ⟨#[]⟩)),none⟩,⟨0,some 5,.mv (.c (.int
 .i64 1)),none⟩]) .ret) .skip)) (.seq (.seq (.reg [] false [⟨0,some 6,.mv (.c (.int .i64 0)),none⟩]) (.block 0 aHX)) (.seq (.reg [(0,false),(1,
 false)] false [⟨0,some 45,.mv (.t 0),none⟩,⟨0,some 46,.mv (.t 1),none⟩,⟨0,some 47,(.callf false (.c (.fn (.func 41) [] [])) [.t 45,
 (.t 46)] []),none⟩,⟨0,some 4,.mv (.t 47),none⟩,⟨0,some 5,.mv (.c (.int .i64 0)),none⟩]) .ret)))))),none,none⟩
theorem aQh:aN prog (15,x15):=⟨⟨fun vs w=>call15 vs w,_,_,func15,rfl,rfl,by kernel_rfl,by kernel_rfl⟩,by kernel_rfl,aA rfl,rfl⟩

def aKQ:XCode :=
 (.loop [0,1,4,5,7,8,9,35,36] (.seq (.reg [] false [⟨0,some 37,.bin .lss (.t 36) (.t 35),none⟩]) (.seq (.cond (.t 37) .skip (.exit 1)) (.seq
 (.block 2 (.seq (.reg [] false [⟨0,some 38,.mv (.t 36),none⟩,⟨0,some 10,.mv (.t 38),none⟩]) (.seq (.reg [] false [⟨0,some 40,.mv (.t
 0),none⟩,⟨0,some 41,.mv (.t 10),none⟩,⟨0,some 42,.bin .mul (.t 41) (.c (.int .i64 45)),none⟩,⟨0,some 43,.mv (.t 10),none⟩,⟨0,
 (some 44),.bin .add (.t 43) (.c (.int .i64 1)),none⟩,⟨0,some 45,.bin .mul (.t 44) (.c (.int .i64 45)),none⟩,⟨0,some 46,(.slstr (.t 40)
 (some (.t 42)) (some (.t 45))),none⟩,⟨0,some 47,.mv (.t 1),none⟩,⟨0,some 48,.mv (.t 10),none⟩,⟨0,some 49,.bin .add (.t 47) (.t 48),
 none⟩,⟨0,some 50,(.callf false (.c (.fn (.func 42) [] [])) [.t 46,.t 49] []),none⟩,⟨0,some 39,.mv (.t 50),none⟩,⟨0,some 51,.ext (.t
 39) 0,none⟩,⟨0,some 52,.ext (.t 39) 1,none⟩,⟨0,some 11,(.alloc [.int .u8 0,.int .u8 0,.int .u8 0,.int .u8 0,.int .u8 0,(.int
 .u8 0),.int .u8 0,.int .u8 0,.int .u8 0,.int .u8 0,.int .u8 0,.int .u8 0,.int .u8 0,.int .u8 0,.int .u8 0,.int .u8 0,(.int
 .u8 0),.int .u8 0,.int .u8 0,.int .u8 0,.int .u8 0,.int .u8 0,.int .u8 0,.int .u8 0,.int .u8 0,.int .u8 0,.int .u8 0,(.int
 .u8 0),.int .u8 0,.int .u8 0,.int .u8 0,.int .u8 0,.int .u8 0,.int .u8 0,.int .u8 0,.int .u8 0,.int .u8 0,.int .u8 0,(.int
 .u8 0),.int .u8 0]),none⟩,⟨0,none,(.store 40 (.t 11) (.t 51) []),none⟩,⟨0,some 12,.mv (.t 52),none⟩]) (.seq (.seq (.reg [] false [⟨0,(some
 53),.mv (.t 12),none⟩,⟨0,some 54,.not (.t 53),none⟩]) (.cond (.t 54) (.seq (.reg [] false [⟨0,some 55,.mv (.t 10),none⟩,⟨0,some 9,
 (.mv (.t 55)),none⟩]) (.reg [] false [⟨0,some 56,.mv (.t 5),none⟩,⟨0,some 57,.bin .add (.t 56) (.c (.int .i64 1)),none⟩,⟨0,some 5,(.mv
 (.t 57)),none⟩])) .skip)) (.reg [] false [⟨0,some 58,.mv (.t 8),none⟩,⟨0,some 59,.load true 40 (.t 11),none⟩,⟨0,some 60,(.bslice 40 1
 [.int .u8 0,.int .u8 0,.int .u8 0,.int .u8 0,.int .u8 0,.int .u8 0,.int .u8 0,.int .u8 0,.int .u8 0,.int .u8 0,.int .u8 0,
 (.int .u8 0),.int .u8 0,.int .u8 0,.int .u8 0,.int .u8 0,.int .u8 0,.int .u8 0,.int .u8 0,.int .u8 0,.int .u8 0,.int .u8 0,
 (.int .u8 0),.int .u8 0,.int .u8 0,.int .u8 0,.int .u8 0,.int .u8 0,.int .u8 0,.int .u8 0,.int .u8 0,.int .u8 0,.int .u8 0,
 (.int .u8 0),.int .u8 0,.int .u8 0,.int .u8 0,.int .u8 0,.int .u8 0,.int .u8 0] [(0,(40,(.t 59)))]),none⟩,⟨0,some 61,(.app 40 40
 (.t 58) (.t 60)),none⟩,⟨0,some 8,.mv (.t 61),none⟩]))))) (.reg [] false [⟨0,some 62,.bin .add (.t 36) (.c (.int .i64 1)),none⟩,⟨0,(some
 36),.mv (.t 62),none⟩])))))
def aKP:XCode :=
 (.loop [4,5,105,106,107] (.seq (.reg [] false [⟨0,some 108,.bin .lss (.t 107) (.t 106),none⟩]) (.seq (.cond (.t 108) .skip (.exit 4)) (.seq (.block
 5 (.seq (.reg [] false [⟨0,some 109,.idx 40 (.t 105) (.t 107),none⟩,⟨0,some 110,.load true 40 (.t 109),none⟩,⟨0,some 15,(.alloc [(.int
 .u8 0),.int .u8 0,.int .u8 0,.int .u8 0,.int .u8 0,.int .u8 0,.int .u8 0,.int .u8 0,.int .u8 0,.int .u8 0,.int .u8 0,(.int
 .u8 0),.int .u8 0,.int .u8 0,.int .u8 0,.int .u8 0,.int .u8 0,.int .u8 0,.int .u8 0,.int .u8 0,.int .u8 0,.int .u8 0,(.int
 .u8 0),.int .u8 0,.int .u8 0,.int .u8 0,.int .u8 0,.int .u8 0,.int .u8 0,.int .u8 0,.int .u8 0,.int .u8 0,.int .u8 0,(.int
 .u8 0),.int .u8 0,.int .u8 0,.int .u8 0,.int .u8 0,.int .u8 0,.int .u8 0]),none⟩,⟨0,none,(.store 40 (.t 15) (.t 110) []),none⟩])
 (.reg [] false [⟨0,some 111,.mv (.t 4),none⟩,⟨0,some 112,.load true 40 (.t 15),none⟩,⟨0,some 113,(.callf false (.c (.fn (.func 46) []
 [])) [.t 112] []),none⟩,⟨0,some 114,(.bslice 1 1 [(.str ⟨#[]⟩)] [(0,(1,(.t 113)))]),none⟩,⟨0,some 115,.app 1 16 (.t 111) (.t 114),none⟩,
 ⟨0,some 4,.mv (.t 115),none⟩]))) (.reg [] false [⟨0,some 116,.bin .add (.t 107) (.c (.int .i64 1)),none⟩,⟨0,some 107,.mv (.t 116),
 none⟩])))))
def x16:XFn:=⟨121,[(4,none),(5,none),(6,none)],false,false,
 (.seq (.reg [] false [⟨0,some 4,.mv (.c .nilsl),none⟩,⟨0,some 5,.mv (.c (.int .i64 0)),none⟩,⟨0,some 6,.mv (.c (.int .i64 0)),none⟩])
 (.seq (.reg [] false [⟨0,some 16,.mv (.t 0),none⟩,⟨0,some 17,.len true (.t 16),none⟩,⟨0,some 18,.bin .quo (.t 17) (.c (.int .i64 45)),
 none⟩,⟨0,some 7,.mv (.t 18),none⟩]) (.seq (.block 0 (.seq (.reg [] false [⟨0,some 20,.mv (.t 1),none⟩,⟨0,some 21,(.callf false (.c (.fn
 (.func 35) [] [])) [.c (.int .i64 0),.t 20,.c (.int .i64 1000)] []),none⟩,⟨0,some 22,.not (.t 21),none⟩,⟨0,some 19,.mv (.t 22),
 none⟩]) (.cond (.t 19) (.seq (.reg [] false [⟨0,some 4,.mv (.c .nilsl),none⟩,⟨0,some 5,.mv (.c (.int .i64 0)),none⟩,⟨0,some 6,.mv (.c
 (.int .i64 2)),none⟩]) .ret) (.seq (.reg [] false [⟨0,some 24,.mv (.t 0),none⟩,⟨0,some 25,.len true (.t 24),none⟩,⟨0,some 26,(.bin
 .rem (.t 25) (.c (.int .i64 45))),none⟩,⟨0,some 27,.bin .neq (.t 26) (.c (.int .i64 0)),none⟩,⟨0,some 28,.mv (.t 27),none⟩,⟨0,some 29,
 (.mv (.t 7)),some (28,false)⟩,⟨0,some 30,.bin .lss (.t 29) (.c (.int .i64 2)),some (28,false)⟩,⟨0,some 31,.pick (.t 28) (.c (.bool
 true)) (.t 30),none⟩,⟨0,some 23,.mv (.t 31),none⟩]) (.cond (.t 23) (.seq (.reg [] false [⟨0,some 4,.mv (.c .nilsl),none⟩,⟨0,some 5,
 (.mv (.c (.int .i64 0))),none⟩,⟨0,some 6,.mv (.c (.int .i64 20)),none⟩]) .ret) (.seq (.reg [] false [⟨0,some 33,.mv (.t 7),none⟩,⟨0,(some
 34),.bin .gtr (.t 33) (.c (.int .i64 6)),none⟩,⟨0,some 32,.mv (.t 34),none⟩]) (.cond (.t 32) (.seq (.reg [] false [⟨0,some 4,.mv (.c
 .nilsl),none⟩,⟨0,some 5,.mv (.c (.int .i64 0)),none⟩,⟨0,some 6,.mv (.c (.int .i64 1)),none⟩]) .ret) .skip))))))) (.seq (.reg [] false [⟨0,
 (some 8),.mv (.c .nilsl),none⟩]) (.seq (.reg [] false [⟨0,some 9,.mv (.c (.int .i64 (-1))),none⟩]) (.seq (.seq (.reg [] false [⟨0,some 35,
 (.mv (.t 7)),none⟩,⟨0,some 36,.mv (.c (.int .i64 0)),none⟩]) (.block 1 aKQ)) (.seq (.reg [] false [⟨0,some 63,.mv (.t 7),none⟩,⟨0,(some
 64),.bin .sub (.t 63) (.c (.int .i64 1)),none⟩,⟨0,some 13,.mv (.t 64),none⟩]) (.seq (.block 3 (.seq (.reg [] false [⟨0,some 66,.mv (.t 5),
 none⟩,⟨0,some 67,.bin .gtr (.t 66) (.c (.int .i64 1)),none⟩,⟨0,some 65,.mv (.t 67),none⟩]) (.cond (.t 65) (.seq (.reg [] false [⟨0,(some
 4),.mv (.c .nilsl),none⟩,⟨0,some 5,.mv (.c (.int .i64 0)),none⟩,⟨0,some 6,.mv (.c (.int .i64 19)),none⟩]) .ret) (.seq (.reg [] true [⟨0,
 (some 69),.mv (.t 5),none⟩,⟨1,some 70,.bin .eql (.t 69) (.c (.int .i64 0)),none⟩,⟨2,some 71,.mv (.t 70),none⟩,⟨3,some 72,.mv (.t
 8),some (71,true)⟩,⟨4,some 73,.mv (.t 13),some (71,true)⟩,⟨5,some 74,.slsl 40 (.t 72) none (some (.t 73)),some (71,true)⟩,⟨7,
 (some 76),.mv (.t 8),some (71,true)⟩,⟨8,some 77,.mv (.t 13),some (71,true)⟩,⟨9,some 78,.idx 40 (.t 76) (.t 77),some (71,true)⟩,
 ⟨10,some 79,.load true 40 (.t 78),some (71,true)⟩,⟨6,some 75,(.callf false (.c (.fn (.func 43) [] [])) [.t 74] [10]),some (71,true)⟩,
 ⟨11,some 80,(.eqag true [0,0,0,0,0,0,0,0,0,0,0,0,0,0,0,0,0,0,0,0,0,0,0,0,0,0,0,0,0,0,0,0,0,0,0,0,0,0,0,0] (.t 75)
 (.t 79)),some (71,true)⟩,⟨12,some 81,.pick (.t 71) (.t 80) (.c (.bool false)),none⟩,⟨13,some 68,.mv (.t 81),none⟩]) (.cond (.t 68) (.seq
 (.reg [] false [⟨0,some 4,.mv (.c .nilsl),none⟩,⟨0,some 5,.mv (.c (.int .i64 0)),none⟩,⟨0,some 6,.mv (.c (.int .i64 22)),none⟩])
 .ret) (.seq (.reg [] false [⟨0,some 83,.mv (.t 9),none⟩,⟨0,some 84,.mv (.t 13),none⟩,⟨0,some 85,.bin .sub (.t 84) (.c (.int .i64 1)),
 none⟩,⟨0,some 86,(.callf false (.c (.fn (.func 35) [] [])) [.c (.int .i64 0),.t 83,.t 85] []),none⟩,⟨0,some 82,.mv (.t 86),none⟩])
 (.cond (.t 82) (.seq (.reg [] false [⟨0,some 87,.mv (.t 8),none⟩,⟨0,some 88,.mv (.t 9),none⟩,⟨0,some 89,(.callf false (.c (.fn (.func
 44) [] [])) [.c (.str ⟨#[]⟩)] []),none⟩,⟨0,some 90,.idx 40 (.t 87) (.t 88),none⟩,⟨0,none,(.store 40 (.t 90) (.t 89) []),none⟩]) (.reg [] true
 [⟨0,some 91,.mv (.t 8),none⟩,⟨1,some 92,.mv (.t 9),none⟩,⟨2,some 93,.mv (.t 8),none⟩,⟨3,some 94,.mv (.t 13),none⟩,⟨4,(some
 95),.idx 40 (.t 93) (.t 94),none⟩,⟨5,some 96,.load true 40 (.t 95),none⟩,⟨6,some 97,.mv (.t 8),none⟩,⟨7,some 98,.mv (.t 13),
 none⟩,⟨8,some 99,.slsl 40 (.t 97) none (some (.t 98)),none⟩,⟨9,some 100,(.callf false (.c (.fn (.func 43) [] [])) [.t 99] [5]),none⟩,⟨10,
 (some 101),(.callf false (.c (.fn (.func 45) [] [])) [.t 96,.t 100,.c (.int .i64 94)] []),none⟩,⟨11,some 102,.idx 40 (.t 91) (.t 92),
 none⟩,⟨12,none,(.store 40 (.t 102) (.t 101) []),none⟩])) .skip))))))) (.seq (.seq (.reg [] false [⟨0,some 103,.mv (.t 8),none⟩,⟨0,some 104,
 (.mv (.t 13)),none⟩,⟨0,some 105,.slsl 40 (.t 103) none (some (.t 104)),none⟩,⟨0,some 106,.len false (.t 105),none⟩,⟨0,some 107,(.mv
 (.c (.int .i64 0))),none⟩]) (.block 4 aKP)) (.seq (.seq (.reg [(4,false)] false [⟨0,some 117,.mv (.t 4),none⟩,⟨0,some 118,(.callf false (.c
 (.fn (.func 47) [] [])) [.t 117,.c (.str ⟨#[]⟩)] []),none⟩]) (.cond (.t 118) (.seq (.reg [] false [⟨0,some 4,.mv (.c .nilsl),none⟩,⟨0,(some
 5),.mv (.c (.int .i64 0)),none⟩,⟨0,some 6,.mv (.c (.int .i64 13)),none⟩]) .ret) .skip)) (.seq (.reg [] false [⟨0,some 119,.mv (.t 4),
 none⟩,⟨0,some 120,.mv (.t 5),none⟩,⟨0,some 4,.mv (.t 119),none⟩,⟨0,some 5,.mv (.t 120),none⟩,⟨0,some 6,.mv (.c (.int .i64
 0)),none⟩]) .ret))))))))))),none,none⟩
theorem aQg:aN prog (16,x16):=⟨⟨fun vs w=>call16 vs w,_,_,func16,rfl,rfl,by kernel_rfl,by kernel_rfl⟩,by kernel_rfl,aA rfl,rfl⟩

def rR:XCode :=
 (.loop [0,1,7,8,9,10,11,12] (.seq (.seq (.reg [] false [⟨0,some 32,.mv (.t 12),none⟩,⟨0,some 33,.mv (.t 7),none⟩,⟨0,some 34,(.bin
 .lss (.t 32) (.t 33)),none⟩]) (.cond (.t 34) .skip (.exit 0))) (.seq (.block 1 (.seq (.reg [] false [⟨0,some 37,.mv (.t 0),none⟩,⟨0,some 38,
 (.mv (.t 12)),none⟩,⟨0,some 39,.bin .mul (.t 38) (.c (.int .i64 45)),none⟩,⟨0,some 40,.mv (.t 12),none⟩,⟨0,some 41,(.bin .add (.t 40)
 (.c (.int .i64 1))),none⟩,⟨0,some 42,.bin .mul (.t 41) (.c (.int .i64 45)),none⟩,⟨0,some 43,.slstr (.t 37) (some (.t 39)) (some (.t 42)),
 none⟩,⟨0,some 13,.mv (.t 43),none⟩]) (.seq (.reg [] false [⟨0,some 44,.mv (.t 8),none⟩,⟨0,some 45,.mv (.t 13),none⟩,⟨0,some 46,
 (.slstr (.t 45) (some (.c (.int .i64 4))) (some (.c (.int .i64 44)))),none⟩,⟨0,some 47,(.bslice 1 1 [(.str ⟨#[]⟩)] [(0,(1,(.t 46)))]),none⟩,⟨0,
 (some 48),.app 1 16 (.t 44) (.t 47),none⟩,⟨0,some 8,.mv (.t 48),none⟩]) (.seq (.reg [] false [⟨0,some 49,.mv (.t 13),none⟩,⟨0,(some
 50),.mv (.t 1),none⟩,⟨0,some 51,.mv (.t 12),none⟩,⟨0,some 52,.bin .add (.t 50) (.t 51),none⟩,⟨0,some 53,(.callf false (.c (.fn
 (.func 48) [] [])) [.t 49,.t 52] []),none⟩,⟨0,some 54,.not (.t 53),none⟩]) (.cond (.t 54) (.seq (.reg [] false [⟨0,some 55,.mv (.t 12),
 none⟩,⟨0,some 10,.mv (.t 55),none⟩]) (.reg [] false [⟨0,some 56,.mv (.t 11),none⟩,⟨0,some 57,.bin .add (.t 56) (.c (.int .i64 1)),
 none⟩,⟨0,some 11,.mv (.t 57),none⟩])) (.seq (.reg [] false [⟨0,some 58,.mv (.t 12),none⟩,⟨0,some 59,.mv (.t 7),none⟩,⟨0,some 60,
 (.bin .sub (.t 59) (.c (.int .i64 1))),none⟩,⟨0,some 61,.bin .lss (.t 58) (.t 60),none⟩]) (.cond (.t 61) (.reg [] false [⟨0,some 62,.mv (.t
 9),none⟩,⟨0,some 63,.mv (.t 8),none⟩,⟨0,some 64,.mv (.t 12),none⟩,⟨0,some 65,.idx 1 (.t 63) (.t 64),none⟩,⟨0,some 66,(.load
 false 1 (.t 65)),none⟩,⟨0,some 67,(.bslice 1 1 [(.str ⟨#[]⟩)] [(0,(1,(.t 66)))]),none⟩,⟨0,some 68,.app 1 16 (.t 62) (.t 67),none⟩,⟨0,
 (some 9),.mv (.t 68),none⟩]) .skip))))))) (.reg [] false [⟨0,some 35,.mv (.t 12),none⟩,⟨0,some 36,.bin .add (.t 35) (.c (.int .i64 1)),
 none⟩,⟨0,some 12,.mv (.t 36),none⟩]))))
def aEI:XCode :=
 (.loop [7,8,11,14,15] (.seq (.seq (.reg [] false [⟨0,some 101,.mv (.t 15),none⟩,⟨0,some 102,.mv (.t 7),none⟩,⟨0,some 103,(.bin .sub
 (.t 102) (.c (.int .i64 1))),none⟩,⟨0,some 104,.bin .lss (.t 101) (.t 103),none⟩]) (.cond (.t 104) .skip (.exit 2))) (.seq (.block 3 (.seq (.reg []
 false [⟨0,some 107,.mv (.t 14),none⟩,⟨0,some 108,.mv (.t 8),none⟩,⟨0,some 109,.mv (.t 15),none⟩,⟨0,some 110,.idx 1 (.t 108) (.t
 109),none⟩,⟨0,some 111,.load false 1 (.t 110),none⟩,⟨0,some 112,(.callf false (.c (.fn (.func 51) [] [])) [.t 111] []),none⟩,⟨0,(some
 113),(.bslice 1 1 [(.str ⟨#[]⟩)] [(0,(1,(.t 112)))]),none⟩,⟨0,some 114,.app 1 16 (.t 107) (.t 113),none⟩,⟨0,some 14,.mv (.t 114),none⟩])
 (.seq (.reg [] false [⟨0,some 115,.mv (.t 14),none⟩,⟨0,some 116,.mv (.t 15),none⟩,⟨0,some 117,.idx 1 (.t 115) (.t 116),none⟩,⟨0,
 (some 118),.load false 1 (.t 117),none⟩,⟨0,some 119,.bin .eql (.t 118) (.c (.str ⟨#[]⟩)),none⟩]) (.cond (.t 119) (.seq (.reg [] false [⟨0,(some
 4),.mv (.c .nilsl),none⟩,⟨0,some 5,.mv (.c (.int .i64 0)),none⟩,⟨0,some 6,.mv (.c (.int .i64 13)),none⟩]) .ret) .skip)))) (.reg [] false
 [⟨0,some 105,.mv (.t 15),none⟩,⟨0,some 106,.bin .add (.t 105) (.c (.int .i64 1)),none⟩,⟨0,some 15,.mv (.t 106),none⟩]))))
def x17:XFn:=⟨122,[(4,none),(5,none),(6,none)],false,false,
 (.seq (.reg [] false [⟨0,some 4,.mv (.c .nilsl),none⟩,⟨0,some 5,.mv (.c (.int .i64 0)),none⟩,⟨0,some 6,.mv (.c (.int .i64 0)),none⟩])
 (.seq (.seq (.reg [] false [⟨0,some 16,.mv (.t 1),none⟩,⟨0,some 17,(.callf false (.c (.fn (.func 39) [] [])) [.t 16,.c (.int .i64 0),(.c
 (.int .i64 1000))] []),none⟩,⟨0,some 18,.not (.t 17),none⟩]) (.cond (.t 18) (.seq (.reg [] false [⟨0,some 4,.mv (.c .nilsl),none⟩,⟨0,(some
 5),.mv (.c (.int .i64 0)),none⟩,⟨0,some 6,.mv (.c (.int .i64 2)),none⟩]) .ret) .skip)) (.seq (.reg [] false [⟨0,some 19,.mv (.t 0),none⟩,
 ⟨0,some 20,.len true (.t 19),none⟩,⟨0,some 21,.bin .quo (.t 20) (.c (.int .i64 45)),none⟩,⟨0,some 7,.mv (.t 21),none⟩]) (.seq (.seq
 (.reg [] false [⟨0,some 22,.mv (.t 0),none⟩,⟨0,some 23,.len true (.t 22),none⟩,⟨0,some 24,.bin .rem (.t 23) (.c (.int .i64 45)),
 none⟩,⟨0,some 25,.bin .neq (.t 24) (.c (.int .i64 0)),none⟩,⟨0,some 26,.mv (.t 25),none⟩,⟨0,some 27,.mv (.t 7),some (26,false)⟩,
 ⟨0,some 28,.bin .lss (.t 27) (.c (.int .i64 2)),some (26,false)⟩,⟨0,some 29,.pick (.t 26) (.c (.bool true)) (.t 28),none⟩]) (.cond (.t 29)
 (.seq (.reg [] false [⟨0,some 4,.mv (.c .nilsl),none⟩,⟨0,some 5,.mv (.c (.int .i64 0)),none⟩,⟨0,some 6,.mv (.c (.int .i64 20)),
 none⟩]) .ret) .skip)) (.seq (.seq (.reg [] false [⟨0,some 30,.mv (.t 7),none⟩,⟨0,some 31,.bin .gtr (.t 30) (.c (.int .i64 6)),none⟩]) (.cond
 (.t 31) (.seq (.reg [] false [⟨0,some 4,.mv (.c .nilsl),none⟩,⟨0,some 5,.mv (.c (.int .i64 0)),none⟩,⟨0,some 6,.mv (.c (.int .i64 1)),
 none⟩]) .ret) .skip)) (.seq (.reg [] false [⟨0,some 8,.mv (.c .nilsl),none⟩,⟨0,some 9,.mv (.c .nilsl),none⟩]) (.seq (.reg [] false [⟨0,(some
 10),.mv (.c (.int .i64 (-1))),none⟩,⟨0,some 11,.mv (.c (.int .i64 0)),none⟩]) (.seq (.seq (.reg [] false [⟨0,some 12,.mv (.c (.int .i64
 0)),none⟩]) (.block 0 rR)) (.seq (.seq (.reg [] false [⟨0,some 69,.mv (.t 11),none⟩,⟨0,some 70,.bin .gtr (.t 69) (.c (.int .i64 1)),
 none⟩]) (.cond (.t 70) (.seq (.reg [] false [⟨0,some 4,.mv (.c .nilsl),none⟩,⟨0,some 5,.mv (.c (.int .i64 0)),none⟩,⟨0,some 6,.mv (.c
 (.int .i64 19)),none⟩]) .ret) .skip)) (.seq (.seq (.reg [(9,false)] true [⟨0,some 71,.mv (.t 11),none⟩,⟨1,some 72,.bin .eql (.t 71) (.c
 (.int .i64 0)),none⟩,⟨2,some 73,.mv (.t 72),none⟩,⟨3,some 74,.mv (.t 9),some (73,true)⟩,⟨5,some 76,.mv (.t 8),some (73,
 true)⟩,⟨6,some 77,.mv (.t 7),some (73,true)⟩,⟨7,some 78,.bin .sub (.t 77) (.c (.int .i64 1)),some (73,true)⟩,⟨8,some 79,(.idx 1
 (.t 76) (.t 78)),some (73,true)⟩,⟨9,some 80,.load false 1 (.t 79),some (73,true)⟩,⟨4,some 75,(.callf false (.c (.fn (.func 49) [] []))
 [.t 74] [9]),some (73,true)⟩,⟨10,some 81,.bin .neq (.t 75) (.t 80),some (73,true)⟩,⟨11,some 82,.pick (.t 73) (.t 81) (.c (.bool
 false)),none⟩]) (.cond (.t 82) (.seq (.reg [] false [⟨0,some 4,.mv (.c .nilsl),none⟩,⟨0,some 5,.mv (.c (.int .i64 0)),none⟩,⟨0,some 6,
 (.mv (.c (.int .i64 22))),none⟩]) .ret) .skip)) (.seq (.seq (.reg [] false [⟨0,some 83,.mv (.t 10),none⟩,⟨0,some 84,.bin .geq (.t 83) (.c
 (.int .i64 0)),none⟩,⟨0,some 85,.mv (.t 84),none⟩,⟨0,some 86,.mv (.t 10),some (85,true)⟩,⟨0,some 87,.mv (.t 7),some (85,
 true)⟩,⟨0,some 88,.bin .sub (.t 87) (.c (.int .i64 1)),some (85,true)⟩,⟨0,some 89,.bin .lss (.t 86) (.t 88),some (85,true)⟩,⟨0,
 (some 90),.pick (.t 85) (.t 89) (.c (.bool false)),none⟩]) (.cond (.t 90) (.reg [(9,false)] false [⟨0,some 91,.mv (.t 8),none⟩,⟨0,some 92,
 (.mv (.t 10)),none⟩,⟨0,some 93,.mv (.t 9),none⟩,⟨0,some 94,.mv (.t 8),none⟩,⟨0,some 95,.mv (.t 7),none⟩,⟨0,some 96,(.bin .sub
 (.t 95) (.c (.int .i64 1))),none⟩,⟨0,some 97,.idx 1 (.t 94) (.t 96),none⟩,⟨0,some 98,.load false 1 (.t 97),none⟩,⟨0,some 99,(.callf
 false (.c (.fn (.func 50) [] [])) [.t 93,.t 98] []),none⟩,⟨0,some 100,.idx 1 (.t 91) (.t 92),none⟩,⟨0,none,(.store 1 (.t 100) (.t 99) []),
 none⟩]) .skip)) (.seq (.reg [] false [⟨0,some 14,.mv (.c .nilsl),none⟩]) (.seq (.seq (.reg [] false [⟨0,some 15,.mv (.c (.int .i64 0)),none⟩])
 (.block 2 aEI)) (.seq (.reg [] false [⟨0,some 120,.mv (.t 14),none⟩,⟨0,some 121,.mv (.t 11),none⟩,⟨0,some 4,.mv (.t 120),none⟩,⟨0,
 (some 5),.mv (.t 121),none⟩,⟨0,some 6,.mv (.c (.int .i64 0)),none⟩]) .ret)))))))))))))),none,none⟩
theorem aQf:aN prog (17,x17):=⟨⟨fun vs w=>call17 vs w,_,_,func17,rfl,rfl,by kernel_rfl,by kernel_rfl⟩,by kernel_rfl,aA rfl,rfl⟩

def aHW:XCode :=
 (.loop [0,1,5] (.seq (.seq (.reg [] false [⟨0,some 11,.mv (.t 5),none⟩,⟨0,some 12,.mv (.t 0),none⟩,⟨0,some 13,.len false (.t 12),
 none⟩,⟨0,some 14,.bin .lss (.t 11) (.t 13),none⟩]) (.cond (.t 14) .skip (.exit 0))) (.seq (.block 1 (.seq (.reg [] true [⟨0,some 17,.mv (.t
 0),none⟩,⟨1,some 18,.mv (.t 5),none⟩,⟨2,some 19,.idx 1 (.t 17) (.t 18),none⟩,⟨3,some 20,.load false 1 (.t 19),none⟩,⟨4,(some
 21),.mv (.t 1),none⟩,⟨5,some 22,.mv (.t 5),none⟩,⟨6,some 23,.idx 1 (.t 21) (.t 22),none⟩,⟨7,some 24,.load false 1 (.t 23),none⟩,
 ⟨8,some 25,.bin .neq (.t 20) (.t 24),none⟩]) (.cond (.t 25) (.seq (.reg [] false [⟨0,some 4,.mv (.c (.bool false)),none⟩]) .ret) .skip)))
 (.reg [] false [⟨0,some 15,.mv (.t 5),none⟩,⟨0,some 16,.bin .add (.t 15) (.c (.int .i64 1)),none⟩,⟨0,some 5,.mv (.t 16),none⟩]))))
def x18:XFn:=⟨26,[(4,none)],false,false,
 (.seq (.reg [] false [⟨0,some 4,.mv (.c (.bool false)),none⟩]) (.seq (.seq (.reg [] false [⟨0,some 6,.mv (.t 0),none⟩,⟨0,some 7,(.len false
 (.t 6)),none⟩,⟨0,some 8,.mv (.t 1),none⟩,⟨0,some 9,.len false (.t 8),none⟩,⟨0,some 10,.bin .neq (.t 7) (.t 9),none⟩]) (.cond (.t
 10) (.seq (.reg [] false [⟨0,some 4,.mv (.c (.bool false)),none⟩]) .ret) .skip)) (.seq (.seq (.reg [] false [⟨0,some 5,.mv (.c (.int .i64 0)),
 none⟩]) (.block 0 aHW)) (.seq (.reg [] false [⟨0,some 4,.mv (.c (.bool true)),none⟩]) .ret)))),none,none⟩
theorem aQe:aN prog (18,x18):=⟨⟨fun vs w=>call18 vs w,_,_,func18,rfl,rfl,by kernel_rfl,by kernel_rfl⟩,by kernel_rfl,aA rfl,rfl⟩

def x19:XFn:=⟨7,[(0,none)],false,false,
 (.seq (.reg [] false [⟨0,some 0,.mv (.c .nilpt),none⟩]) (.seq (.reg [] false [⟨0,some 1,(.callf false (.c (.fn (.func 52) [] [])) [.c (.int .i64
 9)] []),none⟩,⟨0,some 2,(.callf false (.c (.fn (.func 53) [] [])) [.c (.int .i64 5)] []),none⟩,⟨0,some 3,(.callf false (.c (.fn (.func 54) []
 [])) [.c (.int .i64 5)] []),none⟩,⟨0,some 4,(.callf false (.c (.fn (.func 55) [] [])) [.c (.int .i64 300)] []),none⟩,⟨0,some 5,(.build
 [.nilpt,.nilpt,.nilpt,.nilpt,.nilsl,.int .i64 0,.nilsl] [(0,(1,(.t 1))),(1,(1,(.t 2))),(2,(1,(.t 3))),(3,(1,(.t 4)))]),none⟩,⟨0,(some
 6),.box (.t 5),none⟩,⟨0,some 0,.mv (.t 6),none⟩]) .ret)),none,none⟩
theorem aQd:aN prog (19,x19):=⟨⟨fun vs w=>call19 vs w,_,_,func19,rfl,rfl,by kernel_rfl,by kernel_rfl⟩,by kernel_rfl,aA rfl,rfl⟩

def x23:XFn:=⟨18,[(2,none)],false,false,
 (.seq (.reg [] false [⟨0,some 2,.mv (.c (.str ⟨#[]⟩)),none⟩]) (.seq (.seq (.reg [(0,false)] false [⟨0,some 6,.mv (.t 0),none⟩,⟨0,some 7,
 (.callf false (.c (.fn (.func 59) [] [])) [.t 6] []),none⟩]) (.cond (.t 7) (.seq (.reg [] false [⟨0,some 2,.mv (.c (.str ⟨#[]⟩)),none⟩]) .ret)
 .skip)) (.seq (.reg [] false [⟨0,some 3,.allocb,none⟩]) (.seq (.reg [(3,false)] false [⟨0,some 8,(.callf false (.c (.fn (.func 69) [] [])) [(.t
 3),.c (.str ⟨#[122,97,102,114,97,32,49,52,10]⟩)] []),none⟩]) (.seq (.seq (.reg [(0,false)] false [⟨0,some 9,.mv (.t 0),none⟩,⟨0,(some
 10),(.callf false (.c (.fn (.func 70) [] [])) [.t 9] []),none⟩]) (.block 0 (.rng 0 [3] (.t 10) [11,12] (.seq (.reg [] false [⟨0,some 4,.mv (.t
 11),none⟩]) (.reg [] false [⟨0,some 5,.mv (.t 12),none⟩])) (.block 1 (.reg [(4,false),(3,false)] false [⟨0,some 13,.mv (.t 5),none⟩,⟨0,
 (some 14),.mv (.t 4),none⟩,⟨0,some 15,(.callf false (.c (.fn (.func 38) [] [])) [.t 13,.t 14] []),none⟩,⟨0,some 16,(.callf false (.c
 (.fn (.func 69) [] [])) [.t 3,.t 15] []),none⟩]))))) (.seq (.reg [(3,false)] false [⟨0,some 17,(.callf false (.c (.fn (.func 71) [] [])) [.t 3]
 []),none⟩,⟨0,some 2,.mv (.t 17),none⟩]) .ret)))))),none,none⟩
theorem aQc:aN prog (23,x23):=⟨⟨fun vs w=>call23 vs w,_,_,func23,rfl,rfl,by kernel_rfl,by kernel_rfl⟩,by kernel_rfl,⟨aA rfl,⟨aA rfl,⟨aA rfl,⟨aA rfl,⟨⟨aA rfl,⟨by kernel_rfl,aA rfl,aA rfl⟩⟩,aA rfl⟩⟩⟩⟩⟩,rfl⟩

def aKk:XCode :=
 (.loop [3,5,8,9] (.seq (.seq (.reg [] false [⟨0,some 29,.mv (.t 5),none⟩,⟨0,some 30,.bin .neq (.t 29) (.c (.str ⟨#[]⟩)),none⟩]) (.cond (.t
 30) .skip (.exit 0))) (.seq (.block 1 (.seq (.reg [] false [⟨0,some 33,.mv (.t 5),none⟩,⟨0,some 34,.len true (.t 33),none⟩,⟨0,some 35,
 (.mm false (.t 34) (.c (.int .i64 270))),none⟩,⟨0,some 10,.mv (.t 35),none⟩]) (.seq (.reg [] false [⟨0,some 37,.mv (.t 5),none⟩,⟨0,(some
 38),.mv (.t 10),none⟩,⟨0,some 39,.slstr (.t 37) none (some (.t 38)),none⟩,⟨0,some 40,.mv (.t 9),none⟩,⟨0,some 41,(.callf false (.c
 (.fn (.func 16) [] [])) [.t 39,.t 40] []),none⟩,⟨0,some 36,.mv (.t 41),none⟩,⟨0,some 42,.ext (.t 36) 0,none⟩,⟨0,some 43,.ext (.t
 36) 1,none⟩,⟨0,some 44,.ext (.t 36) 2,none⟩,⟨0,some 11,.mv (.t 42),none⟩,⟨0,some 12,.mv (.t 43),none⟩,⟨0,some 13,.mv (.t
 44),none⟩]) (.seq (.seq (.reg [] false [⟨0,some 45,.mv (.t 13),none⟩,⟨0,some 46,.bin .neq (.t 45) (.c (.int .i64 0)),none⟩]) (.cond (.t 46)
 (.seq (.reg [] false [⟨0,some 47,.mv (.t 13),none⟩,⟨0,some 2,.mv (.c .nilpt),none⟩,⟨0,some 3,.mv (.c (.int .i64 0)),none⟩,⟨0,(some
 4),.mv (.t 47),none⟩]) .ret) .skip)) (.seq (.reg [] false [⟨0,some 48,.mv (.t 8),none⟩,⟨0,some 49,.mv (.t 11),none⟩,⟨0,some 50,(.app
 1 16 (.t 48) (.t 49)),none⟩,⟨0,some 8,.mv (.t 50),none⟩]) (.seq (.reg [] false [⟨0,some 51,.mv (.t 3),none⟩,⟨0,some 52,.mv (.t 12),
 none⟩,⟨0,some 53,.bin .add (.t 51) (.t 52),none⟩,⟨0,some 3,.mv (.t 53),none⟩]) (.reg [] false [⟨0,some 54,.mv (.t 5),none⟩,⟨0,(some
 55),.mv (.t 10),none⟩,⟨0,some 56,.slstr (.t 54) (some (.t 55)) none,none⟩,⟨0,some 5,.mv (.t 56),none⟩]))))))) (.reg [] false [⟨0,(some
 31),.mv (.t 9),none⟩,⟨0,some 32,.bin .add (.t 31) (.c (.int .i64 6)),none⟩,⟨0,some 9,.mv (.t 32),none⟩]))))
def aKj:XCode :=
 (.loop [2,3,58,59,60] (.seq (.reg [] false [⟨0,some 61,.bin .lss (.t 60) (.t 59),none⟩]) (.seq (.cond (.t 61) .skip (.exit 2)) (.seq (.block 3
 (.seq (.reg [] false [⟨0,some 62,.idx 1 (.t 58) (.t 60),none⟩,⟨0,some 63,.load false 1 (.t 62),none⟩,⟨0,some 15,.mv (.t 63),none⟩])
 (.seq (.reg [(2,false),(15,false)] false [⟨0,some 64,.mv (.t 2),none⟩,⟨0,some 65,.mv (.t 15),none⟩,⟨0,some 66,(.callf false (.c (.fn
 (.func 21) [] [])) [.t 64,.t 65] []),none⟩,⟨0,some 67,.bin .neq (.t 66) (.c (.str ⟨#[111,107]⟩)),none⟩]) (.cond (.t 67) (.seq (.reg [] false
 [⟨0,some 2,.mv (.c .nilpt),none⟩,⟨0,some 3,.mv (.c (.int .i64 0)),none⟩,⟨0,some 4,.mv (.c (.int .i64 22)),none⟩]) .ret) .skip))))
 (.reg [] false [⟨0,some 68,.bin .add (.t 60) (.c (.int .i64 1)),none⟩,⟨0,some 60,.mv (.t 68),none⟩])))))
def x25:XFn:=⟨71,[(2,none),(3,none),(4,none)],false,false,
 (.seq (.reg [] false [⟨0,some 2,.mv (.c .nilpt),none⟩,⟨0,some 3,.mv (.c (.int .i64 0)),none⟩,⟨0,some 4,.mv (.c (.int .i64 0)),none⟩])
 (.seq (.reg [(0,false)] false [⟨0,some 17,.mv (.t 0),none⟩,⟨0,some 18,(.callf false (.c (.fn (.func 72) [] [])) [.t 17,.c (.str ⟨#[122,97,
 102,114,97,32,49,52,10]⟩)] []),none⟩,⟨0,some 16,.mv (.t 18),none⟩,⟨0,some 19,.ext (.t 16) 0,none⟩,⟨0,some 20,.ext (.t 16) 1,
 none⟩,⟨0,some 5,.mv (.t 19),none⟩,⟨0,some 6,.mv (.t 20),none⟩]) (.seq (.seq (.reg [] false [⟨0,some 21,.mv (.t 6),none⟩,⟨0,(some
 22),.not (.t 21),none⟩]) (.cond (.t 22) (.seq (.reg [] false [⟨0,some 2,.mv (.c .nilpt),none⟩,⟨0,some 3,.mv (.c (.int .i64 0)),none⟩,⟨0,
 (some 4),.mv (.c (.int .i64 13)),none⟩]) .ret) .skip)) (.seq (.seq (.reg [] false [⟨0,some 23,.mv (.t 5),none⟩,⟨0,some 24,.len true (.t
 23),none⟩,⟨0,some 25,(.callf false (.c (.fn (.func 73) [] [])) [.t 24] []),none⟩,⟨0,some 7,.mv (.t 25),none⟩]) (.seq (.reg [] false [⟨0,
 (some 26),.mv (.t 7),none⟩,⟨0,some 27,.bin .neq (.t 26) (.c (.int .i64 0)),none⟩]) (.cond (.t 27) (.seq (.reg [] false [⟨0,some 28,.mv (.t
 7),none⟩,⟨0,some 2,.mv (.c .nilpt),none⟩,⟨0,some 3,.mv (.c (.int .i64 0)),none⟩,⟨0,some 4,.mv (.t 28),none⟩]) .ret) .skip))) (.seq
 (.reg [] false [⟨0,some 8,.mv (.c .nilsl),none⟩]) (.seq (.seq (.reg [] false [⟨0,some 9,.mv (.c (.int .i64 0)),none⟩]) (.block 0 aKk)) (.seq
 (.reg [] false [⟨0,some 57,(.callf false (.c (.fn (.func 19) [] [])) [] []),none⟩,⟨0,some 2,.mv (.t 57),none⟩]) (.seq (.seq (.reg [] false [⟨0,
 (some 58),.mv (.t 8),none⟩,⟨0,some 59,.len false (.t 58),none⟩,⟨0,some 60,.mv (.c (.int .i64 0)),none⟩]) (.block 2 aKj)) (.seq (.reg
 [] false [⟨0,some 69,.mv (.t 2),none⟩,⟨0,some 70,.mv (.t 3),none⟩,⟨0,some 2,.mv (.t 69),none⟩,⟨0,some 3,.mv (.t 70),none⟩,
 ⟨0,some 4,.mv (.c (.int .i64 0)),none⟩]) .ret))))))))),none,none⟩
theorem aQb:aN prog (25,x25):=⟨⟨fun vs w=>call25 vs w,_,_,func25,rfl,rfl,by kernel_rfl,by kernel_rfl⟩,by kernel_rfl,aA rfl,rfl⟩

def aKi:XCode :=
 (.loop [0,3,4,5,6] (.seq (.seq (.reg [] false [⟨0,some 18,.mv (.t 6),none⟩,⟨0,some 19,.mv (.t 0),none⟩,⟨0,some 20,.mv (.t 4),none⟩,
 ⟨0,some 21,.idx 1 (.t 19) (.t 20),none⟩,⟨0,some 22,.load false 1 (.t 21),none⟩,⟨0,some 23,.len false (.t 22),none⟩,⟨0,some 24,
 (.bin .lss (.t 18) (.t 23)),none⟩,⟨0,some 25,.mv (.t 24),none⟩,⟨0,some 26,.mv (.t 6),some (25,true)⟩,⟨0,some 27,(.bin .lss (.t 26)
 (.c (.int .i64 39))),some (25,true)⟩,⟨0,some 28,.pick (.t 25) (.t 27) (.c (.bool false)),none⟩]) (.cond (.t 28) .skip (.exit 2))) (.seq (.block
 3 (.reg [] false [⟨0,some 31,.mv (.t 5),none⟩,⟨0,some 32,.mv (.t 0),none⟩,⟨0,some 33,.mv (.t 4),none⟩,⟨0,some 34,(.idx 1 (.t 32)
 (.t 33)),none⟩,⟨0,some 35,.load false 1 (.t 34),none⟩,⟨0,some 36,.mv (.t 6),none⟩,⟨0,some 37,.idx 1 (.t 35) (.t 36),none⟩,⟨0,
 (some 38),.load false 1 (.t 37),none⟩,⟨0,some 39,.bin .rem (.t 38) (.c (.int .u8 95)),none⟩,⟨0,some 40,.bin .add (.c (.int .u8 32)) (.t
 39),none⟩,⟨0,some 41,(.bslice 1 1 [.int .u8 0] [(0,(1,(.t 40)))]),none⟩,⟨0,some 42,.app 1 1 (.t 31) (.t 41),none⟩,⟨0,some 5,(.mv
 (.t 42)),none⟩])) (.reg [] false [⟨0,some 29,.mv (.t 6),none⟩,⟨0,some 30,.bin .add (.t 29) (.c (.int .i64 1)),none⟩,⟨0,some 6,.mv (.t
 30),none⟩]))))
def aKh:XCode :=
 (.loop [0,3,4] (.seq (.seq (.reg [] false [⟨0,some 8,.mv (.t 4),none⟩,⟨0,some 9,.mv (.t 0),none⟩,⟨0,some 10,.len false (.t 9),none⟩,
 ⟨0,some 11,.bin .lss (.t 8) (.t 10),none⟩,⟨0,some 12,.mv (.t 11),none⟩,⟨0,some 13,.mv (.t 4),some (12,true)⟩,⟨0,some 14,(.bin
 .lss (.t 13) (.c (.int .i64 5))),some (12,true)⟩,⟨0,some 15,.pick (.t 12) (.t 14) (.c (.bool false)),none⟩]) (.cond (.t 15) .skip (.exit 0)))
 (.seq (.block 1 (.seq (.reg [] false [⟨0,some 5,.mv (.c .nilsl),none⟩]) (.seq (.seq (.reg [] false [⟨0,some 6,.mv (.c (.int .i64 0)),none⟩])
 (.block 2 aKi)) (.reg [] false [⟨0,some 43,.mv (.t 3),none⟩,⟨0,some 44,.mv (.t 5),none⟩,⟨0,some 45,.strof (.t 44),none⟩,⟨0,(some
 46),.bin .add (.t 45) (.c (.str ⟨#[122]⟩)),none⟩,⟨0,some 47,(.bslice 1 1 [(.str ⟨#[]⟩)] [(0,(1,(.t 46)))]),none⟩,⟨0,some 48,.app 1 16 (.t
 43) (.t 47),none⟩,⟨0,some 3,.mv (.t 48),none⟩])))) (.reg [] false [⟨0,some 16,.mv (.t 4),none⟩,⟨0,some 17,.bin .add (.t 16) (.c (.int
 .i64 1)),none⟩,⟨0,some 4,.mv (.t 17),none⟩]))))
def x27:XFn:=⟨56,[(2,none)],false,false,
 (.seq (.reg [] false [⟨0,some 2,.mv (.c .nilsl),none⟩]) (.seq (.reg [] false [⟨0,some 7,(.bslice 1 0 [(.str ⟨#[]⟩)] []),none⟩,⟨0,some 3,(.mv
 (.t 7)),none⟩]) (.seq (.seq (.reg [] false [⟨0,some 4,.mv (.c (.int .i64 0)),none⟩]) (.block 0 aKh)) (.seq (.seq (.reg [] false [⟨0,some 49,
 (.mv (.t 3)),none⟩,⟨0,some 50,.len false (.t 49),none⟩,⟨0,some 51,.bin .eql (.t 50) (.c (.int .i64 0)),none⟩]) (.cond (.t 51) (.reg []
 false [⟨0,some 52,.mv (.t 3),none⟩,⟨0,some 53,(.bslice 1 1 [(.str ⟨#[]⟩)] [(0,(1,(.c (.str ⟨#[122]⟩))))]),none⟩,⟨0,some 54,(.app 1 16
 (.t 52) (.t 53)),none⟩,⟨0,some 3,.mv (.t 54),none⟩]) .skip)) (.seq (.reg [] false [⟨0,some 55,.mv (.t 3),none⟩,⟨0,some 2,.mv (.t 55),
 none⟩]) .ret))))),none,none⟩
theorem aQa:aN prog (27,x27):=⟨⟨fun vs w=>call27 vs w,_,_,func27,rfl,rfl,by kernel_rfl,by kernel_rfl⟩,by kernel_rfl,aA rfl,rfl⟩

def aKg:XCode :=
 (.loop [0,3,13,14,17] (.seq (.seq (.reg [] false [⟨0,some 39,.mv (.t 17),none⟩,⟨0,some 40,.bin .lss (.t 39) (.c (.int .i64 45)),none⟩])
 (.cond (.t 40) .skip (.exit 1))) (.seq (.block 2 (.reg [] false [⟨0,some 43,.mv (.t 13),none⟩,⟨0,some 44,.mv (.t 14),none⟩,⟨0,some 45,
 (.mv (.t 17)),none⟩,⟨0,some 46,.bin .add (.t 44) (.t 45),none⟩,⟨0,some 47,.mv (.t 3),none⟩,⟨0,some 48,.bin .rem (.t 47) (.c (.int .u8
 2)),none⟩,⟨0,some 49,.bin .add (.c (.int .u8 120)) (.t 48),none⟩,⟨0,some 50,.idx 1 (.t 43) (.t 46),none⟩,⟨0,none,(.store 1 (.t 50) (.t
 49) []),none⟩])) (.reg [] false [⟨0,some 41,.mv (.t 17),none⟩,⟨0,some 42,.bin .add (.t 41) (.c (.int .i64 1)),none⟩,⟨0,some 17,.mv (.t
 42),none⟩]))))
def x28:XFn:=⟨100,[(10,none),(11,none)],false,false,
 (.seq (.reg [] false [⟨0,some 10,.mv (.c (.str ⟨#[]⟩)),none⟩,⟨0,some 11,.mv (.c (.bool false)),none⟩]) (.seq (.reg [] false [⟨0,some 18,
 (.mv (.t 0)),none⟩,⟨0,some 19,.len true (.t 18),none⟩,⟨0,some 20,.bin .quo (.t 19) (.c (.int .i64 45)),none⟩,⟨0,some 12,.mv (.t 20),
 none⟩]) (.seq (.seq (.reg [] false [⟨0,some 21,.mv (.t 12),none⟩,⟨0,some 22,.bin .eql (.t 21) (.c (.int .i64 0)),none⟩,⟨0,some 23,(.mv
 (.t 22)),none⟩,⟨0,some 24,.mv (.t 0),some (23,false)⟩,⟨0,some 25,.len true (.t 24),some (23,false)⟩,⟨0,some 26,.bin .rem (.t
 25) (.c (.int .i64 45)),some (23,false)⟩,⟨0,some 27,.bin .neq (.t 26) (.c (.int .i64 0)),some (23,false)⟩,⟨0,some 28,.pick (.t 23) (.c
 (.bool true)) (.t 27),none⟩]) (.cond (.t 28) (.seq (.reg [] false [⟨0,some 29,.mv (.t 0),none⟩,⟨0,some 10,.mv (.t 29),none⟩,⟨0,some 11,
 (.mv (.c (.bool false))),none⟩]) .ret) .skip)) (.seq (.reg [] false [⟨0,some 30,.mv (.t 0),none⟩,⟨0,some 31,.bytes (.t 30),none⟩,⟨0,(some
 13),.mv (.t 31),none⟩]) (.seq (.reg [] false [⟨0,some 32,.mv (.t 1),none⟩,⟨0,some 33,.conv .i64 (.t 32),none⟩,⟨0,some 34,.mv (.t
 12),none⟩,⟨0,some 35,.bin .rem (.t 33) (.t 34),none⟩,⟨0,some 36,.bin .mul (.t 35) (.c (.int .i64 45)),none⟩,⟨0,some 14,.mv (.t 36),
 none⟩]) (.seq (.seq (.reg [] false [⟨0,some 37,.mv (.t 2),none⟩,⟨0,some 38,.bin .rem (.t 37) (.c (.int .u8 3)),none⟩]) (.block 0 (.seq (.reg
 [] false [⟨0,some 52,.bin .eql (.t 38) (.c (.int .u8 0)),none⟩,⟨0,some 51,.mv (.t 52),none⟩]) (.cond (.t 51) (.reg [] false [⟨0,some 53,
 (.mv (.t 13)),none⟩,⟨0,some 54,.mv (.t 14),none⟩,⟨0,some 55,.mv (.t 3),none⟩,⟨0,some 56,.conv .i64 (.t 55),none⟩,⟨0,some 57,
 (.bin .rem (.t 56) (.c (.int .i64 45))),none⟩,⟨0,some 58,.bin .add (.t 54) (.t 57),none⟩,⟨0,some 59,.idx 1 (.t 53) (.t 58),none⟩,⟨0,(some
 60),.load false 1 (.t 59),none⟩,⟨0,some 61,.mv (.t 4),none⟩,⟨0,some 62,.bin .rem (.t 61) (.c (.int .u8 255)),none⟩,⟨0,some 63,(.bin
 .add (.c (.int .u8 1)) (.t 62)),none⟩,⟨0,some 64,.bin .add (.t 60) (.t 63),none⟩,⟨0,some 65,.idx 1 (.t 53) (.t 58),none⟩,⟨0,none,(.store
 1 (.t 65) (.t 64) []),none⟩]) (.seq (.reg [] false [⟨0,some 67,.bin .eql (.t 38) (.c (.int .u8 1)),none⟩,⟨0,some 66,.mv (.t 67),none⟩])
 (.cond (.t 66) (.seq (.reg [] false [⟨0,some 68,.mv (.t 14),none⟩,⟨0,some 69,.bin .add (.t 68) (.c (.int .i64 4)),none⟩,⟨0,some 70,(.mv
 (.t 3)),none⟩,⟨0,some 71,.conv .i64 (.t 70),none⟩,⟨0,some 72,.bin .rem (.t 71) (.c (.int .i64 40)),none⟩,⟨0,some 73,(.bin .add (.t 69)
 (.t 72)),none⟩,⟨0,some 74,.mv (.t 14),none⟩,⟨0,some 75,.bin .add (.t 74) (.c (.int .i64 4)),none⟩,⟨0,some 76,.mv (.t 4),none⟩,⟨0,
 (some 77),.conv .i64 (.t 76),none⟩,⟨0,some 78,.bin .rem (.t 77) (.c (.int .i64 40)),none⟩,⟨0,some 79,.bin .add (.t 75) (.t 78),none⟩,
 ⟨0,some 15,.mv (.t 73),none⟩,⟨0,some 16,.mv (.t 79),none⟩]) (.reg [] true [⟨0,some 80,.mv (.t 13),none⟩,⟨1,some 81,.mv (.t 15),
 none⟩,⟨2,some 82,.mv (.t 13),none⟩,⟨3,some 83,.mv (.t 16),none⟩,⟨4,some 84,.mv (.t 13),none⟩,⟨5,some 85,.mv (.t 16),none⟩,
 ⟨6,some 86,.idx 1 (.t 84) (.t 85),none⟩,⟨7,some 87,.load false 1 (.t 86),none⟩,⟨8,some 88,.mv (.t 13),none⟩,⟨9,some 89,.mv (.t
 15),none⟩,⟨10,some 90,.idx 1 (.t 88) (.t 89),none⟩,⟨11,some 91,.load false 1 (.t 90),none⟩,⟨12,some 92,.idx 1 (.t 80) (.t 81),
 none⟩,⟨13,none,(.store 1 (.t 92) (.t 87) []),none⟩,⟨14,some 93,.idx 1 (.t 82) (.t 83),none⟩,⟨15,none,(.store 1 (.t 93) (.t 91) []),none⟩]))
 (.seq (.reg [] false [⟨0,some 17,.mv (.c (.int .i64 0)),none⟩]) (.block 1 aKg)))))))) (.seq (.reg [] true [⟨0,some 94,.mv (.t 13),none⟩,⟨1,
 (some 95),.strof (.t 94),none⟩,⟨2,some 96,.mv (.t 13),none⟩,⟨3,some 97,.strof (.t 96),none⟩,⟨4,some 98,.mv (.t 0),none⟩,⟨5,
 (some 99),.bin .neq (.t 97) (.t 98),none⟩,⟨6,some 10,.mv (.t 95),none⟩,⟨7,some 11,.mv (.t 99),none⟩]) .ret))))))),none,none⟩
theorem aPZ:aN prog (28,x28):=⟨⟨fun vs w=>call28 vs w,_,_,func28,rfl,rfl,by kernel_rfl,by kernel_rfl⟩,by kernel_rfl,aA rfl,rfl⟩

def aKf:XCode :=
 (.loop [0,1,5,6] (.seq (.seq (.reg [] false [⟨0,some 7,.mv (.t 6),none⟩,⟨0,some 8,.mv (.t 1),none⟩,⟨0,some 9,.len false (.t 8),
 none⟩,⟨0,some 10,.bin .lss (.t 7) (.t 9),none⟩]) (.cond (.t 10) .skip (.exit 0))) (.seq (.block 1 (.reg [(0,false)] false [⟨0,some 13,.mv (.t
 5),none⟩,⟨0,some 14,.mv (.t 0),none⟩,⟨0,some 15,.mv (.t 1),none⟩,⟨0,some 16,.mv (.t 6),none⟩,⟨0,some 17,.idx 1 (.t 15) (.t
 16),none⟩,⟨0,some 18,.load false 1 (.t 17),none⟩,⟨0,some 19,(.callf false (.c (.fn (.func 21) [] [])) [.t 14,.t 18] []),none⟩,⟨0,
 (some 20),(.bslice 1 1 [(.str ⟨#[]⟩)] [(0,(1,(.t 19)))]),none⟩,⟨0,some 21,.app 1 16 (.t 13) (.t 20),none⟩,⟨0,some 5,.mv (.t 21),none⟩]))
 (.reg [] false [⟨0,some 11,.mv (.t 6),none⟩,⟨0,some 12,.bin .add (.t 11) (.c (.int .i64 1)),none⟩,⟨0,some 6,.mv (.t 12),none⟩]))))
def x31:XFn:=⟨23,[(4,none)],false,false,
 (.seq (.reg [] false [⟨0,some 4,.mv (.c .nilsl),none⟩]) (.seq (.reg [] false [⟨0,some 5,.mv (.c .nilsl),none⟩]) (.seq (.seq (.reg [] false [⟨0,
 (some 6),.mv (.c (.int .i64 0)),none⟩]) (.block 0 aKf)) (.seq (.reg [] false [⟨0,some 22,.mv (.t 5),none⟩,⟨0,some 4,.mv (.t 22),none⟩])
 .ret)))),none,none⟩
theorem aPY:aN prog (31,x31):=⟨⟨fun vs w=>call31 vs w,_,_,func31,rfl,rfl,by kernel_rfl,by kernel_rfl⟩,by kernel_rfl,aA rfl,rfl⟩

end Go.Proofs.YtmapgnepfgnphaaGreatDoor
end
section
set_option maxRecDepth 100000
namespace Go.Proofs.YtmapgnepfgnphaaGreatDoor
open Go Go.DL Go.Proofs.Tryz

def aKe:XCode :=
 (.loop [0,3,4] (.seq (.seq (.reg [] false [⟨0,some 5,.mv (.t 4),none⟩,⟨0,some 6,.mv (.t 0),none⟩,⟨0,some 7,.bin .lss (.t 5) (.t 6),
 none⟩]) (.cond (.t 7) .skip (.exit 0))) (.seq (.block 1 (.reg [] false [⟨0,some 10,.mv (.t 3),none⟩,⟨0,some 11,.bin .add (.t 10) (.c (.str
 ⟨#[32]⟩)),none⟩,⟨0,some 3,.mv (.t 11),none⟩])) (.reg [] false [⟨0,some 8,.mv (.t 4),none⟩,⟨0,some 9,.bin .add (.t 8) (.c (.int .i64
 1)),none⟩,⟨0,some 4,.mv (.t 9),none⟩]))))
def x34:XFn:=⟨13,[(2,none)],false,false,
 (.seq (.reg [] false [⟨0,some 2,.mv (.c (.str ⟨#[]⟩)),none⟩]) (.seq (.reg [] false [⟨0,some 3,.mv (.c (.str ⟨#[]⟩)),none⟩]) (.seq (.seq (.reg []
 false [⟨0,some 4,.mv (.c (.int .i64 0)),none⟩]) (.block 0 aKe)) (.seq (.reg [] false [⟨0,some 12,.mv (.t 3),none⟩,⟨0,some 2,.mv (.t
 12),none⟩]) .ret)))),none,none⟩
theorem aPX:aN prog (34,x34):=⟨⟨fun vs w=>call34 vs w,_,_,func34,rfl,rfl,by kernel_rfl,by kernel_rfl⟩,by kernel_rfl,aA rfl,rfl⟩

def x35:XFn:=⟨15,[(6,none)],false,false,
 (.seq (.reg [] false [⟨0,some 6,.mv (.c (.bool false)),none⟩]) (.seq (.reg [] false [⟨0,some 7,.mv (.t 0),none⟩,⟨0,some 8,.mv (.t 1),
 none⟩,⟨0,some 9,.bin .leq (.t 7) (.t 8),none⟩,⟨0,some 10,.mv (.t 9),none⟩,⟨0,some 11,.mv (.t 1),some (10,true)⟩,⟨0,some 12,
 (.mv (.t 2)),some (10,true)⟩,⟨0,some 13,.bin .leq (.t 11) (.t 12),some (10,true)⟩,⟨0,some 14,.pick (.t 10) (.t 13) (.c (.bool false)),
 none⟩,⟨0,some 6,.mv (.t 14),none⟩]) .ret)),none,none⟩
theorem aPW:aN prog (35,x35):=⟨⟨fun vs w=>call35 vs w,_,_,func35,rfl,rfl,by kernel_rfl,by kernel_rfl⟩,by kernel_rfl,aA rfl,rfl⟩

def x36:XFn:=⟨5,[(2,none)],false,false,
 (.seq (.reg [] false [⟨0,some 2,.mv (.c (.bool false)),none⟩]) (.seq (.reg [(0,false)] false [⟨0,some 3,.mv (.t 0),none⟩,⟨0,some 4,(.callf
 false (.c (.fn (.func 74) [] [])) [.t 3,.c (.fn (.func 75) [] [])] []),none⟩,⟨0,some 2,.mv (.t 4),none⟩]) .ret)),none,none⟩
theorem aPV:aN prog (36,x36):=⟨⟨fun vs w=>call36 vs w,_,_,func36,rfl,rfl,by kernel_rfl,by kernel_rfl⟩,by kernel_rfl,aA rfl,rfl⟩

def aHV:XCode :=
 (.loop [1,5,6,9,10,11] (.seq (.reg [] false [⟨0,some 12,.bin .lss (.t 11) (.t 10),none⟩]) (.seq (.cond (.t 12) .skip (.exit 0)) (.seq (.block 1
 (.seq (.reg [] false [⟨0,some 13,.mv (.t 11),none⟩,⟨0,some 14,.idx 1 (.t 9) (.t 11),none⟩,⟨0,some 15,.load false 1 (.t 14),none⟩,⟨0,
 (some 7),.mv (.t 13),none⟩,⟨0,some 8,.mv (.t 15),none⟩]) (.seq (.reg [(8,false)] false [⟨0,some 16,.mv (.t 6),none⟩,⟨0,some 17,(.mv
 (.t 8)),none⟩,⟨0,some 18,(.callf false (.c (.fn (.func 44) [] [])) [.t 17] []),none⟩,⟨0,some 19,(.bslice 40 1 [.int .u8 0,.int .u8 0,
 (.int .u8 0),.int .u8 0,.int .u8 0,.int .u8 0,.int .u8 0,.int .u8 0,.int .u8 0,.int .u8 0,.int .u8 0,.int .u8 0,.int .u8 0,
 (.int .u8 0),.int .u8 0,.int .u8 0,.int .u8 0,.int .u8 0,.int .u8 0,.int .u8 0,.int .u8 0,.int .u8 0,.int .u8 0,.int .u8 0,
 (.int .u8 0),.int .u8 0,.int .u8 0,.int .u8 0,.int .u8 0,.int .u8 0,.int .u8 0,.int .u8 0,.int .u8 0,.int .u8 0,.int .u8 0,
 (.int .u8 0),.int .u8 0,.int .u8 0,.int .u8 0,.int .u8 0] [(0,(40,(.t 18)))]),none⟩,⟨0,some 20,.app 40 40 (.t 16) (.t 19),none⟩,⟨0,
 (some 6),.mv (.t 20),none⟩]) (.reg [(5,false)] false [⟨0,some 21,.mv (.t 6),none⟩,⟨0,some 22,.mv (.t 7),none⟩,⟨0,some 23,(.idx 40
 (.t 21) (.t 22)),none⟩,⟨0,some 24,.load true 40 (.t 23),none⟩,⟨0,some 25,.mv (.t 1),none⟩,⟨0,some 26,.mv (.t 7),none⟩,⟨0,(some
 27),.bin .add (.t 25) (.t 26),none⟩,⟨0,some 28,(.callf false (.c (.fn (.func 77) [] [])) [.t 24,.t 27] []),none⟩,⟨0,some 29,(.callf
 false (.c (.fn (.func 69) [] [])) [.t 5,.t 28] []),none⟩])))) (.reg [] false [⟨0,some 30,.bin .add (.t 11) (.c (.int .i64 1)),none⟩,⟨0,(some
 11),.mv (.t 30),none⟩])))))
def x38:XFn:=⟨40,[(4,none)],false,false,
 (.seq (.reg [] false [⟨0,some 4,.mv (.c (.str ⟨#[]⟩)),none⟩]) (.seq (.reg [] false [⟨0,some 5,.allocb,none⟩]) (.seq (.reg [] false [⟨0,some 6,
 (.mv (.c .nilsl)),none⟩]) (.seq (.seq (.reg [] false [⟨0,some 9,.mv (.t 0),none⟩,⟨0,some 10,.len false (.t 9),none⟩,⟨0,some 11,.mv (.c
 (.int .i64 0)),none⟩]) (.block 0 aHV)) (.seq (.reg [(6,false),(5,false)] false [⟨0,some 31,.mv (.t 6),none⟩,⟨0,some 32,(.callf false (.c
 (.fn (.func 43) [] [])) [.t 31] []),none⟩,⟨0,some 33,.mv (.t 1),none⟩,⟨0,some 34,.mv (.t 6),none⟩,⟨0,some 35,.len false (.t 34),
 none⟩,⟨0,some 36,.bin .add (.t 33) (.t 35),none⟩,⟨0,some 37,(.callf false (.c (.fn (.func 77) [] [])) [.t 32,.t 36] []),none⟩,⟨0,(some
 38),(.callf false (.c (.fn (.func 69) [] [])) [.t 5,.t 37] []),none⟩]) (.seq (.reg [(5,false)] false [⟨0,some 39,(.callf false (.c (.fn (.func
 71) [] [])) [.t 5] []),none⟩,⟨0,some 4,.mv (.t 39),none⟩]) .ret)))))),none,none⟩
theorem aPU:aN prog (38,x38):=⟨⟨fun vs w=>call38 vs w,_,_,func38,rfl,rfl,by kernel_rfl,by kernel_rfl⟩,by kernel_rfl,aA rfl,rfl⟩

def x39:XFn:=⟨15,[(6,none)],false,false,
 (.seq (.reg [] false [⟨0,some 6,.mv (.c (.bool false)),none⟩]) (.seq (.reg [] false [⟨0,some 7,.mv (.t 0),none⟩,⟨0,some 8,.mv (.t 1),
 none⟩,⟨0,some 9,.bin .geq (.t 7) (.t 8),none⟩,⟨0,some 10,.mv (.t 9),none⟩,⟨0,some 11,.mv (.t 0),some (10,true)⟩,⟨0,some 12,
 (.mv (.t 2)),some (10,true)⟩,⟨0,some 13,.bin .leq (.t 11) (.t 12),some (10,true)⟩,⟨0,some 14,.pick (.t 10) (.t 13) (.c (.bool false)),
 none⟩,⟨0,some 6,.mv (.t 14),none⟩]) .ret)),none,none⟩
theorem aPT:aN prog (39,x39):=⟨⟨fun vs w=>call39 vs w,_,_,func39,rfl,rfl,by kernel_rfl,by kernel_rfl⟩,by kernel_rfl,aA rfl,rfl⟩

def aHU:XCode :=
 (.loop [0,3] (.seq (.seq (.reg [] false [⟨0,some 4,.mv (.t 3),none⟩,⟨0,some 5,.mv (.t 0),none⟩,⟨0,some 6,.len true (.t 5),none⟩,⟨0,
 (some 7),.bin .lss (.t 4) (.t 6),none⟩]) (.cond (.t 7) .skip (.exit 0))) (.seq (.block 1 (.seq (.reg [] false [⟨0,some 10,.mv (.t 0),none⟩,⟨0,
 (some 11),.mv (.t 3),none⟩,⟨0,some 12,.idxs (.t 10) (.t 11),none⟩,⟨0,some 13,.conv .i64 (.t 12),none⟩,⟨0,some 14,(.callf false (.c
 (.fn (.func 39) [] [])) [.t 13,.c (.int .i64 32),.c (.int .i64 126)] []),none⟩,⟨0,some 15,.not (.t 14),none⟩]) (.cond (.t 15) (.seq (.reg
 [] false [⟨0,some 2,.mv (.c (.bool false)),none⟩]) .ret) .skip))) (.reg [] false [⟨0,some 8,.mv (.t 3),none⟩,⟨0,some 9,(.bin .add (.t 8)
 (.c (.int .i64 1))),none⟩,⟨0,some 3,.mv (.t 9),none⟩]))))
def x40:XFn:=⟨16,[(2,none)],false,false,
 (.seq (.reg [] false [⟨0,some 2,.mv (.c (.bool false)),none⟩]) (.seq (.seq (.reg [] false [⟨0,some 3,.mv (.c (.int .i64 0)),none⟩]) (.block 0
 aHU)) (.seq (.reg [] false [⟨0,some 2,.mv (.c (.bool true)),none⟩]) .ret))),none,none⟩
theorem aPS:aN prog (40,x40):=⟨⟨fun vs w=>call40 vs w,_,_,func40,rfl,rfl,by kernel_rfl,by kernel_rfl⟩,by kernel_rfl,aA rfl,rfl⟩

def aHT:XCode :=
 (.loop [0,1,5,6,7] (.seq (.seq (.reg [] false [⟨0,some 8,.mv (.t 7),none⟩,⟨0,some 9,.mv (.t 0),none⟩,⟨0,some 10,.len false (.t 9),
 none⟩,⟨0,some 11,.bin .lss (.t 8) (.t 10),none⟩]) (.cond (.t 11) .skip (.exit 0))) (.seq (.block 1 (.seq (.reg [] false [⟨0,some 14,.mv (.t
 6),none⟩,⟨0,some 15,.mv (.t 0),none⟩,⟨0,some 16,.mv (.t 7),none⟩,⟨0,some 17,.idx 1 (.t 15) (.t 16),none⟩,⟨0,some 18,(.load
 false 1 (.t 17)),none⟩,⟨0,some 19,(.callf false (.c (.fn (.func 78) [] [])) [.t 18] []),none⟩,⟨0,some 20,(.bslice 1 1 [(.str ⟨#[]⟩)] [(0,(1,
 (.t 19)))]),none⟩,⟨0,some 21,.app 1 16 (.t 14) (.t 20),none⟩,⟨0,some 6,.mv (.t 21),none⟩]) (.reg [] false [⟨0,some 22,.mv (.t 5),
 none⟩,⟨0,some 23,.mv (.t 6),none⟩,⟨0,some 24,.mv (.t 7),none⟩,⟨0,some 25,.idx 1 (.t 23) (.t 24),none⟩,⟨0,some 26,(.load false 1
 (.t 25)),none⟩,⟨0,some 27,.mv (.t 1),none⟩,⟨0,some 28,.mv (.t 7),none⟩,⟨0,some 29,.bin .add (.t 27) (.t 28),none⟩,⟨0,some 30,
 (.callf false (.c (.fn (.func 79) [] [])) [.t 26,.t 29] []),none⟩,⟨0,some 31,.bin .add (.t 22) (.t 30),none⟩,⟨0,some 5,.mv (.t 31),
 none⟩]))) (.reg [] false [⟨0,some 12,.mv (.t 7),none⟩,⟨0,some 13,.bin .add (.t 12) (.c (.int .i64 1)),none⟩,⟨0,some 7,.mv (.t 13),
 none⟩]))))
def x41:XFn:=⟨41,[(4,none)],false,false,
 (.seq (.reg [] false [⟨0,some 4,.mv (.c (.str ⟨#[]⟩)),none⟩]) (.seq (.reg [] false [⟨0,some 5,.mv (.c (.str ⟨#[]⟩)),none⟩]) (.seq (.reg [] false
 [⟨0,some 6,.mv (.c .nilsl),none⟩]) (.seq (.seq (.reg [] false [⟨0,some 7,.mv (.c (.int .i64 0)),none⟩]) (.block 0 aHT)) (.seq (.reg [(6,
 false)] false [⟨0,some 32,.mv (.t 5),none⟩,⟨0,some 33,.mv (.t 6),none⟩,⟨0,some 34,(.callf false (.c (.fn (.func 49) [] [])) [.t 33]
 []),none⟩,⟨0,some 35,.mv (.t 1),none⟩,⟨0,some 36,.mv (.t 0),none⟩,⟨0,some 37,.len false (.t 36),none⟩,⟨0,some 38,(.bin .add
 (.t 35) (.t 37)),none⟩,⟨0,some 39,(.callf false (.c (.fn (.func 79) [] [])) [.t 34,.t 38] []),none⟩,⟨0,some 40,.bin .add (.t 32) (.t 39),
 none⟩,⟨0,some 4,.mv (.t 40),none⟩]) .ret))))),none,none⟩
theorem aPR:aN prog (41,x41):=⟨⟨fun vs w=>call41 vs w,_,_,func41,rfl,rfl,by kernel_rfl,by kernel_rfl⟩,by kernel_rfl,aA rfl,rfl⟩

def x42:XFn:=⟨23,[(4,(some (true,40))),(5,none)],false,false,
 (.seq (.reg [] false [⟨0,some 4,(.alloc [.int .u8 0,.int .u8 0,.int .u8 0,.int .u8 0,.int .u8 0,.int .u8 0,.int .u8 0,.int .u8 0,
 (.int .u8 0),.int .u8 0,.int .u8 0,.int .u8 0,.int .u8 0,.int .u8 0,.int .u8 0,.int .u8 0,.int .u8 0,.int .u8 0,.int .u8 0,
 (.int .u8 0),.int .u8 0,.int .u8 0,.int .u8 0,.int .u8 0,.int .u8 0,.int .u8 0,.int .u8 0,.int .u8 0,.int .u8 0,.int .u8 0,
 (.int .u8 0),.int .u8 0,.int .u8 0,.int .u8 0,.int .u8 0,.int .u8 0,.int .u8 0,.int .u8 0,.int .u8 0,.int .u8 0]),none⟩,⟨0,
 (some 5),.mv (.c (.bool false)),none⟩]) (.seq (.reg [] false [⟨0,some 8,.mv (.t 0),none⟩,⟨0,some 9,(.slstr (.t 8) (some (.c (.int .i64 4)))
 (some (.c (.int .i64 44)))),none⟩,⟨0,some 6,.mv (.t 9),none⟩]) (.seq (.reg [] false [⟨0,some 10,.mv (.t 6),none⟩,⟨0,some 11,(.callf
 false (.c (.fn (.func 44) [] [])) [.t 10] []),none⟩,⟨0,some 7,(.alloc [.int .u8 0,.int .u8 0,.int .u8 0,.int .u8 0,.int .u8 0,(.int
 .u8 0),.int .u8 0,.int .u8 0,.int .u8 0,.int .u8 0,.int .u8 0,.int .u8 0,.int .u8 0,.int .u8 0,.int .u8 0,.int .u8 0,(.int
 .u8 0),.int .u8 0,.int .u8 0,.int .u8 0,.int .u8 0,.int .u8 0,.int .u8 0,.int .u8 0,.int .u8 0,.int .u8 0,.int .u8 0,(.int
 .u8 0),.int .u8 0,.int .u8 0,.int .u8 0,.int .u8 0,.int .u8 0,.int .u8 0,.int .u8 0,.int .u8 0,.int .u8 0,.int .u8 0,(.int
 .u8 0),.int .u8 0]),none⟩,⟨0,none,(.store 40 (.t 7) (.t 11) []),none⟩]) (.seq (.reg [(1,false)] true [⟨0,some 12,.load true 40 (.t 7),none⟩,
 ⟨1,some 13,.mv (.t 6),none⟩,⟨2,some 14,(.callf false (.c (.fn (.func 36) [] [])) [.t 13] [0]),none⟩,⟨3,some 15,.not (.t 14),none⟩,
 ⟨4,some 16,.mv (.t 15),none⟩,⟨5,some 17,.load true 40 (.t 7),some (16,true)⟩,⟨6,some 18,.mv (.t 1),some (16,true)⟩,⟨8,(some
 20),.mv (.t 0),some (16,true)⟩,⟨7,some 19,(.callf false (.c (.fn (.func 77) [] [])) [.t 17,.t 18] [0]),some (16,true)⟩,⟨9,some 21,
 (.bin .eql (.t 19) (.t 20)),some (16,true)⟩,⟨10,some 22,.pick (.t 16) (.t 21) (.c (.bool false)),none⟩,⟨11,none,(.store 40 (.t 4) (.t 12)
 []),none⟩,⟨12,some 5,.mv (.t 22),none⟩]) .ret)))),none,none⟩
theorem aPQ:aN prog (42,x42):=⟨⟨fun vs w=>call42 vs w,_,_,func42,rfl,rfl,by kernel_rfl,by kernel_rfl⟩,by kernel_rfl,aA rfl,rfl⟩

def aHS:XCode :=
 (.loop [2,3,7,8,9] (.seq (.reg [] false [⟨0,some 10,.bin .lss (.t 9) (.t 8),none⟩]) (.seq (.cond (.t 10) .skip (.exit 0)) (.seq (.block 1 (.seq
 (.reg [] false [⟨0,some 11,.idx 40 (.t 7) (.t 9),none⟩,⟨0,some 12,.load true 40 (.t 11),none⟩,⟨0,some 5,(.alloc [.int .u8 0,(.int .u8
 0),.int .u8 0,.int .u8 0,.int .u8 0,.int .u8 0,.int .u8 0,.int .u8 0,.int .u8 0,.int .u8 0,.int .u8 0,.int .u8 0,(.int .u8
 0),.int .u8 0,.int .u8 0,.int .u8 0,.int .u8 0,.int .u8 0,.int .u8 0,.int .u8 0,.int .u8 0,.int .u8 0,.int .u8 0,(.int .u8
 0),.int .u8 0,.int .u8 0,.int .u8 0,.int .u8 0,.int .u8 0,.int .u8 0,.int .u8 0,.int .u8 0,.int .u8 0,.int .u8 0,(.int .u8
 0),.int .u8 0,.int .u8 0,.int .u8 0,.int .u8 0,.int .u8 0]),none⟩,⟨0,none,(.store 40 (.t 5) (.t 12) []),none⟩]) (.reg [] false [⟨0,
 (some 13),.load true 40 (.t 3),none⟩,⟨0,some 14,.load true 40 (.t 5),none⟩,⟨0,some 15,(.callf false (.c (.fn (.func 45) [] [])) [.t 13,
 (.t 14),.c (.int .i64 1)] []),none⟩,⟨0,none,(.store 40 (.t 3) (.t 15) []),none⟩]))) (.reg [] false [⟨0,some 16,.bin .add (.t 9) (.c (.int .i64
 1)),none⟩,⟨0,some 9,.mv (.t 16),none⟩])))))
def x43:XFn:=⟨18,[(2,(some (true,40)))],false,false,
 (.seq (.reg [] false [⟨0,some 2,(.alloc [.int .u8 0,.int .u8 0,.int .u8 0,.int .u8 0,.int .u8 0,.int .u8 0,.int .u8 0,.int .u8 0,
 (.int .u8 0),.int .u8 0,.int .u8 0,.int .u8 0,.int .u8 0,.int .u8 0,.int .u8 0,.int .u8 0,.int .u8 0,.int .u8 0,.int .u8 0,
 (.int .u8 0),.int .u8 0,.int .u8 0,.int .u8 0,.int .u8 0,.int .u8 0,.int .u8 0,.int .u8 0,.int .u8 0,.int .u8 0,.int .u8 0,
 (.int .u8 0),.int .u8 0,.int .u8 0,.int .u8 0,.int .u8 0,.int .u8 0,.int .u8 0,.int .u8 0,.int .u8 0,.int .u8 0]),none⟩]) (.seq
 (.reg [] false [⟨0,some 6,(.callf false (.c (.fn (.func 44) [] [])) [.c (.str ⟨#[]⟩)] []),none⟩,⟨0,some 3,(.alloc [.int .u8 0,.int .u8 0,
 (.int .u8 0),.int .u8 0,.int .u8 0,.int .u8 0,.int .u8 0,.int .u8 0,.int .u8 0,.int .u8 0,.int .u8 0,.int .u8 0,.int .u8 0,
 (.int .u8 0),.int .u8 0,.int .u8 0,.int .u8 0,.int .u8 0,.int .u8 0,.int .u8 0,.int .u8 0,.int .u8 0,.int .u8 0,.int .u8 0,
 (.int .u8 0),.int .u8 0,.int .u8 0,.int .u8 0,.int .u8 0,.int .u8 0,.int .u8 0,.int .u8 0,.int .u8 0,.int .u8 0,.int .u8 0,
 (.int .u8 0),.int .u8 0,.int .u8 0,.int .u8 0,.int .u8 0]),none⟩,⟨0,none,(.store 40 (.t 3) (.t 6) []),none⟩]) (.seq (.seq (.reg [] false
 [⟨0,some 7,.mv (.t 0),none⟩,⟨0,some 8,.len false (.t 7),none⟩,⟨0,some 9,.mv (.c (.int .i64 0)),none⟩]) (.block 0 aHS)) (.seq (.reg
 [] false [⟨0,some 17,.load true 40 (.t 3),none⟩,⟨0,none,(.store 40 (.t 2) (.t 17) []),none⟩]) .ret)))),none,none⟩
theorem aPP:aN prog (43,x43):=⟨⟨fun vs w=>call43 vs w,_,_,func43,rfl,rfl,by kernel_rfl,by kernel_rfl⟩,by kernel_rfl,aA rfl,rfl⟩

def aHR:XCode :=
 (.loop [0,2,3,5] (.seq (.reg [] false [⟨0,some 6,.bin .lss (.t 5) (.c (.int .i64 40)),none⟩]) (.seq (.cond (.t 6) .skip (.exit 0)) (.seq (.block 1
 (.seq (.reg [] false [⟨0,some 7,.mv (.t 5),none⟩,⟨0,some 4,.mv (.t 7),none⟩]) (.reg [] false [⟨0,some 8,.mv (.t 4),none⟩,⟨0,(some
 9),.idxa 40 1 (.t 3) (.t 8),none⟩,⟨0,none,(.store 1 (.t 9) (.c (.int .u8 32)) []),none⟩]))) (.reg [] false [⟨0,some 10,.bin .add (.t 5) (.c
 (.int .i64 1)),none⟩,⟨0,some 5,.mv (.t 10),none⟩])))))
def x44:XFn:=⟨15,[(2,(some (true,40)))],false,false,
 (.seq (.reg [] false [⟨0,some 2,(.alloc [.int .u8 0,.int .u8 0,.int .u8 0,.int .u8 0,.int .u8 0,.int .u8 0,.int .u8 0,.int .u8 0,
 (.int .u8 0),.int .u8 0,.int .u8 0,.int .u8 0,.int .u8 0,.int .u8 0,.int .u8 0,.int .u8 0,.int .u8 0,.int .u8 0,.int .u8 0,
 (.int .u8 0),.int .u8 0,.int .u8 0,.int .u8 0,.int .u8 0,.int .u8 0,.int .u8 0,.int .u8 0,.int .u8 0,.int .u8 0,.int .u8 0,
 (.int .u8 0),.int .u8 0,.int .u8 0,.int .u8 0,.int .u8 0,.int .u8 0,.int .u8 0,.int .u8 0,.int .u8 0,.int .u8 0]),none⟩]) (.seq
 (.reg [] false [⟨0,some 3,(.alloc [.int .u8 0,.int .u8 0,.int .u8 0,.int .u8 0,.int .u8 0,.int .u8 0,.int .u8 0,.int .u8 0,(.int
 .u8 0),.int .u8 0,.int .u8 0,.int .u8 0,.int .u8 0,.int .u8 0,.int .u8 0,.int .u8 0,.int .u8 0,.int .u8 0,.int .u8 0,(.int
 .u8 0),.int .u8 0,.int .u8 0,.int .u8 0,.int .u8 0,.int .u8 0,.int .u8 0,.int .u8 0,.int .u8 0,.int .u8 0,.int .u8 0,(.int
 .u8 0),.int .u8 0,.int .u8 0,.int .u8 0,.int .u8 0,.int .u8 0,.int .u8 0,.int .u8 0,.int .u8 0,.int .u8 0]),none⟩]) (.seq (.seq
 (.reg [] false [⟨0,some 5,.mv (.c (.int .i64 0)),none⟩]) (.block 0 aHR)) (.seq (.reg [] false [⟨0,some 11,.slarr 40 1 (.t 3) none none,
 none⟩,⟨0,some 12,.mv (.t 0),none⟩,⟨0,some 13,.copy 1 (.t 11) (.t 12),none⟩]) (.seq (.reg [] false [⟨0,some 14,.load true 40 (.t 3),
 none⟩,⟨0,none,(.store 40 (.t 2) (.t 14) []),none⟩]) .ret))))),none,none⟩
theorem aPO:aN prog (44,x44):=⟨⟨fun vs w=>call44 vs w,_,_,func44,rfl,rfl,by kernel_rfl,by kernel_rfl⟩,by kernel_rfl,aA rfl,rfl⟩

def aHQ:XCode :=
 (.loop [2,3,4,6,8] (.seq (.reg [] false [⟨0,some 9,.bin .lss (.t 8) (.c (.int .i64 40)),none⟩]) (.seq (.cond (.t 9) .skip (.exit 0)) (.seq (.block
 1 (.seq (.reg [] false [⟨0,some 10,.mv (.t 8),none⟩,⟨0,some 7,.mv (.t 10),none⟩]) (.reg [] true [⟨0,some 11,.mv (.t 7),none⟩,⟨1,
 (some 12),.mv (.t 7),none⟩,⟨2,some 13,.idxa 40 1 (.t 3) (.t 12),none⟩,⟨3,some 14,.load false 1 (.t 13),none⟩,⟨4,some 15,(.bin .sub
 (.t 14) (.c (.int .u8 32))),none⟩,⟨5,some 16,.conv .i64 (.t 15),none⟩,⟨6,some 17,.mv (.t 2),none⟩,⟨7,some 18,.mv (.t 7),none⟩,⟨8,
 (some 19),.idxa 40 1 (.t 4) (.t 18),none⟩,⟨9,some 20,.load false 1 (.t 19),none⟩,⟨10,some 21,.bin .sub (.t 20) (.c (.int .u8 32)),none⟩,
 ⟨11,some 22,.conv .i64 (.t 21),none⟩,⟨12,some 23,.bin .mul (.t 17) (.t 22),none⟩,⟨13,some 24,.bin .add (.t 16) (.t 23),none⟩,⟨14,
 (some 25),.bin .rem (.t 24) (.c (.int .i64 95)),none⟩,⟨15,some 26,.conv .u8 (.t 25),none⟩,⟨16,some 27,.bin .add (.c (.int .u8 32)) (.t
 26),none⟩,⟨17,some 28,.idxa 40 1 (.t 3) (.t 11),none⟩,⟨18,none,(.store 1 (.t 28) (.t 27) []),none⟩]))) (.reg [] false [⟨0,some 29,(.bin
 .add (.t 8) (.c (.int .i64 1))),none⟩,⟨0,some 8,.mv (.t 29),none⟩])))))
def x45:XFn:=⟨31,[(6,(some (true,40)))],false,false,
 (.seq (.reg [] false [⟨0,some 3,.box (.t 0),none⟩,⟨0,some 4,.box (.t 1),none⟩,⟨0,some 6,(.alloc [.int .u8 0,.int .u8 0,.int .u8 0,
 (.int .u8 0),.int .u8 0,.int .u8 0,.int .u8 0,.int .u8 0,.int .u8 0,.int .u8 0,.int .u8 0,.int .u8 0,.int .u8 0,.int .u8 0,
 (.int .u8 0),.int .u8 0,.int .u8 0,.int .u8 0,.int .u8 0,.int .u8 0,.int .u8 0,.int .u8 0,.int .u8 0,.int .u8 0,.int .u8 0,
 (.int .u8 0),.int .u8 0,.int .u8 0,.int .u8 0,.int .u8 0,.int .u8 0,.int .u8 0,.int .u8 0,.int .u8 0,.int .u8 0,.int .u8 0,
 (.int .u8 0),.int .u8 0,.int .u8 0,.int .u8 0]),none⟩]) (.seq (.seq (.reg [] false [⟨0,some 8,.mv (.c (.int .i64 0)),none⟩]) (.block 0
 aHQ)) (.seq (.reg [] false [⟨0,some 30,.load true 40 (.t 3),none⟩,⟨0,none,(.store 40 (.t 6) (.t 30) []),none⟩]) .ret))),none,none⟩
theorem aPN:aN prog (45,x45):=⟨⟨fun vs w=>call45 vs w,_,_,func45,rfl,rfl,by kernel_rfl,by kernel_rfl⟩,by kernel_rfl,aA rfl,rfl⟩

def x46:XFn:=⟨6,[(2,none)],false,false,
 (.seq (.reg [] false [⟨0,some 1,.box (.t 0),none⟩,⟨0,some 2,.mv (.c (.str ⟨#[]⟩)),none⟩]) (.seq (.reg [] false [⟨0,some 3,.slarr 40 1 (.t
 1) none none,none⟩,⟨0,some 4,.strof (.t 3),none⟩,⟨0,some 5,(.callf false (.c (.fn (.func 80) [] [])) [.t 4,.c (.str ⟨#[32]⟩)] []),
 none⟩,⟨0,some 2,.mv (.t 5),none⟩]) .ret)),none,none⟩
theorem aPM:aN prog (46,x46):=⟨⟨fun vs w=>call46 vs w,_,_,func46,rfl,rfl,by kernel_rfl,by kernel_rfl⟩,by kernel_rfl,aA rfl,rfl⟩

def x48:XFn:=⟨17,[(4,none)],false,false,
 (.seq (.reg [] false [⟨0,some 4,.mv (.c (.bool false)),none⟩]) (.seq (.reg [] false [⟨0,some 6,.mv (.t 0),none⟩,⟨0,some 7,(.slstr (.t 6)
 (some (.c (.int .i64 4))) (some (.c (.int .i64 44)))),none⟩,⟨0,some 5,.mv (.t 7),none⟩]) (.seq (.reg [(1,false)] false [⟨0,some 8,.mv (.t
 5),none⟩,⟨0,some 9,(.callf false (.c (.fn (.func 40) [] [])) [.t 8] []),none⟩,⟨0,some 10,.mv (.t 9),none⟩,⟨0,some 11,.mv (.t 0),
 (some (10,true))⟩,⟨0,some 12,.mv (.t 5),some (10,true)⟩,⟨0,some 13,.mv (.t 1),some (10,true)⟩,⟨0,some 14,(.callf false (.c (.fn
 (.func 79) [] [])) [.t 12,.t 13] []),some (10,true)⟩,⟨0,some 15,.bin .eql (.t 11) (.t 14),some (10,true)⟩,⟨0,some 16,(.pick (.t 10)
 (.t 15) (.c (.bool false))),none⟩,⟨0,some 4,.mv (.t 16),none⟩]) .ret))),none,none⟩
theorem aPL:aN prog (48,x48):=⟨⟨fun vs w=>call48 vs w,_,_,func48,rfl,rfl,by kernel_rfl,by kernel_rfl⟩,by kernel_rfl,aA rfl,rfl⟩

def aHP:XCode :=
 (.loop [0,3,4,5,6] (.seq (.seq (.reg [] false [⟨0,some 11,.mv (.t 6),none⟩,⟨0,some 12,.mv (.t 0),none⟩,⟨0,some 13,.len false (.t
 12),none⟩,⟨0,some 14,.bin .lss (.t 11) (.t 13),none⟩]) (.cond (.t 14) .skip (.exit 2))) (.seq (.block 3 (.reg [] false [⟨0,some 17,.mv (.t
 5),none⟩,⟨0,some 18,.mv (.t 0),none⟩,⟨0,some 19,.mv (.t 6),none⟩,⟨0,some 20,.idx 1 (.t 18) (.t 19),none⟩,⟨0,some 21,(.load
 false 1 (.t 20)),none⟩,⟨0,some 22,.mv (.t 4),none⟩,⟨0,some 23,.idxs (.t 21) (.t 22),none⟩,⟨0,some 24,.conv .i64 (.t 23),none⟩,⟨0,
 (some 25),.bin .sub (.t 24) (.c (.int .i64 32)),none⟩,⟨0,some 26,.bin .add (.t 17) (.t 25),none⟩,⟨0,some 5,.mv (.t 26),none⟩])) (.reg []
 false [⟨0,some 15,.mv (.t 6),none⟩,⟨0,some 16,.bin .add (.t 15) (.c (.int .i64 1)),none⟩,⟨0,some 6,.mv (.t 16),none⟩]))))
def aHO:XCode :=
 (.loop [0,3,4] (.seq (.seq (.reg [] false [⟨0,some 7,.mv (.t 4),none⟩,⟨0,some 8,.bin .lss (.t 7) (.c (.int .i64 40)),none⟩]) (.cond (.t 8)
 .skip (.exit 0))) (.seq (.block 1 (.seq (.reg [] false [⟨0,some 5,.mv (.c (.int .i64 0)),none⟩]) (.seq (.seq (.reg [] false [⟨0,some 6,.mv (.c
 (.int .i64 0)),none⟩]) (.block 2 aHP)) (.reg [] false [⟨0,some 27,.mv (.t 3),none⟩,⟨0,some 28,.mv (.t 5),none⟩,⟨0,some 29,(.bin .rem
 (.t 28) (.c (.int .i64 95))),none⟩,⟨0,some 30,.bin .add (.c (.int .i64 32)) (.t 29),none⟩,⟨0,some 31,.conv .u8 (.t 30),none⟩,⟨0,(some
 32),(.bslice 1 1 [.int .u8 0] [(0,(1,(.t 31)))]),none⟩,⟨0,some 33,.app 1 1 (.t 27) (.t 32),none⟩,⟨0,some 3,.mv (.t 33),none⟩]))))
 (.reg [] false [⟨0,some 9,.mv (.t 4),none⟩,⟨0,some 10,.bin .add (.t 9) (.c (.int .i64 1)),none⟩,⟨0,some 4,.mv (.t 10),none⟩]))))
def x49:XFn:=⟨36,[(2,none)],false,false,
 (.seq (.reg [] false [⟨0,some 2,.mv (.c (.str ⟨#[]⟩)),none⟩]) (.seq (.reg [] false [⟨0,some 3,.mv (.c .nilsl),none⟩]) (.seq (.seq (.reg [] false
 [⟨0,some 4,.mv (.c (.int .i64 0)),none⟩]) (.block 0 aHO)) (.seq (.reg [] false [⟨0,some 34,.mv (.t 3),none⟩,⟨0,some 35,.strof (.t
 34),none⟩,⟨0,some 2,.mv (.t 35),none⟩]) .ret)))),none,none⟩
theorem aPK:aN prog (49,x49):=⟨⟨fun vs w=>call49 vs w,_,_,func49,rfl,rfl,by kernel_rfl,by kernel_rfl⟩,by kernel_rfl,aA rfl,rfl⟩

def aEH:XCode :=
 (.loop [0,1,5,6,7,8] (.seq (.seq (.reg [] false [⟨0,some 18,.mv (.t 8),none⟩,⟨0,some 19,.mv (.t 0),none⟩,⟨0,some 20,.len false (.t
 19),none⟩,⟨0,some 21,.bin .lss (.t 18) (.t 20),none⟩]) (.cond (.t 21) .skip (.exit 2))) (.seq (.block 3 (.reg [] false [⟨0,some 24,.mv (.t
 7),none⟩,⟨0,some 25,.mv (.t 0),none⟩,⟨0,some 26,.mv (.t 8),none⟩,⟨0,some 27,.idx 1 (.t 25) (.t 26),none⟩,⟨0,some 28,(.load
 false 1 (.t 27)),none⟩,⟨0,some 29,.mv (.t 6),none⟩,⟨0,some 30,.idxs (.t 28) (.t 29),none⟩,⟨0,some 31,.conv .i64 (.t 30),none⟩,⟨0,
 (some 32),.bin .sub (.t 31) (.c (.int .i64 32)),none⟩,⟨0,some 33,.bin .sub (.c (.int .i64 95)) (.t 32),none⟩,⟨0,some 34,(.bin .add (.t 24)
 (.t 33)),none⟩,⟨0,some 7,.mv (.t 34),none⟩])) (.reg [] false [⟨0,some 22,.mv (.t 8),none⟩,⟨0,some 23,.bin .add (.t 22) (.c (.int .i64
 1)),none⟩,⟨0,some 8,.mv (.t 23),none⟩]))))
def aHN:XCode :=
 (.loop [0,1,5,6] (.seq (.seq (.reg [] false [⟨0,some 9,.mv (.t 6),none⟩,⟨0,some 10,.bin .lss (.t 9) (.c (.int .i64 40)),none⟩]) (.cond (.t
 10) .skip (.exit 0))) (.seq (.block 1 (.seq (.reg [] false [⟨0,some 13,.mv (.t 1),none⟩,⟨0,some 14,.mv (.t 6),none⟩,⟨0,some 15,(.idxs
 (.t 13) (.t 14)),none⟩,⟨0,some 16,.conv .i64 (.t 15),none⟩,⟨0,some 17,.bin .sub (.t 16) (.c (.int .i64 32)),none⟩,⟨0,some 7,.mv (.t
 17),none⟩]) (.seq (.seq (.reg [] false [⟨0,some 8,.mv (.c (.int .i64 0)),none⟩]) (.block 2 aEH)) (.reg [] false [⟨0,some 35,.mv (.t 5),
 none⟩,⟨0,some 36,.mv (.t 7),none⟩,⟨0,some 37,.bin .rem (.t 36) (.c (.int .i64 95)),none⟩,⟨0,some 38,.bin .add (.c (.int .i64 32)) (.t
 37),none⟩,⟨0,some 39,.conv .u8 (.t 38),none⟩,⟨0,some 40,(.bslice 1 1 [.int .u8 0] [(0,(1,(.t 39)))]),none⟩,⟨0,some 41,.app 1 1 (.t
 35) (.t 40),none⟩,⟨0,some 5,.mv (.t 41),none⟩])))) (.reg [] false [⟨0,some 11,.mv (.t 6),none⟩,⟨0,some 12,.bin .add (.t 11) (.c (.int
 .i64 1)),none⟩,⟨0,some 6,.mv (.t 12),none⟩]))))
def x50:XFn:=⟨44,[(4,none)],false,false,
 (.seq (.reg [] false [⟨0,some 4,.mv (.c (.str ⟨#[]⟩)),none⟩]) (.seq (.reg [] false [⟨0,some 5,.mv (.c .nilsl),none⟩]) (.seq (.seq (.reg [] false
 [⟨0,some 6,.mv (.c (.int .i64 0)),none⟩]) (.block 0 aHN)) (.seq (.reg [] false [⟨0,some 42,.mv (.t 5),none⟩,⟨0,some 43,.strof (.t
 42),none⟩,⟨0,some 4,.mv (.t 43),none⟩]) .ret)))),none,none⟩
theorem aPJ:aN prog (50,x50):=⟨⟨fun vs w=>call50 vs w,_,_,func50,rfl,rfl,by kernel_rfl,by kernel_rfl⟩,by kernel_rfl,aA rfl,rfl⟩

def aHM:XCode :=
 (.loop [0,3] (.seq (.seq (.reg [] false [⟨0,some 6,.mv (.t 3),none⟩,⟨0,some 7,.bin .gtr (.t 6) (.c (.int .i64 0)),none⟩,⟨0,some 8,(.mv
 (.t 7)),none⟩,⟨0,some 9,.mv (.t 0),some (8,true)⟩,⟨0,some 10,.mv (.t 3),some (8,true)⟩,⟨0,some 11,.bin .sub (.t 10) (.c (.int
 .i64 1)),some (8,true)⟩,⟨0,some 12,.idxs (.t 9) (.t 11),some (8,true)⟩,⟨0,some 13,.bin .eql (.t 12) (.c (.int .u8 32)),some (8,
 true)⟩,⟨0,some 14,.pick (.t 8) (.t 13) (.c (.bool false)),none⟩]) (.cond (.t 14) .skip (.exit 0))) (.block 1 (.reg [] false [⟨0,some 15,(.mv
 (.t 3)),none⟩,⟨0,some 16,.bin .sub (.t 15) (.c (.int .i64 1)),none⟩,⟨0,some 3,.mv (.t 16),none⟩]))))
def x51:XFn:=⟨20,[(2,none)],false,false,
 (.seq (.reg [] false [⟨0,some 2,.mv (.c (.str ⟨#[]⟩)),none⟩]) (.seq (.reg [] false [⟨0,some 4,.mv (.t 0),none⟩,⟨0,some 5,.len true (.t
 4),none⟩,⟨0,some 3,.mv (.t 5),none⟩]) (.seq (.block 0 aHM) (.seq (.reg [] false [⟨0,some 17,.mv (.t 0),none⟩,⟨0,some 18,.mv (.t
 3),none⟩,⟨0,some 19,.slstr (.t 17) none (some (.t 18)),none⟩,⟨0,some 2,.mv (.t 19),none⟩]) .ret)))),none,none⟩
theorem aPI:aN prog (51,x51):=⟨⟨fun vs w=>call51 vs w,_,_,func51,rfl,rfl,by kernel_rfl,by kernel_rfl⟩,by kernel_rfl,aA rfl,rfl⟩

def x52:XFn:=⟨7,[(2,none)],false,false,
 (.seq (.reg [] false [⟨0,some 2,.mv (.c .nilpt),none⟩]) (.seq (.reg [] false [⟨0,some 3,.mkmap,none⟩,⟨0,some 4,.mv (.t 0),none⟩,⟨0,(some
 5),(.build [.nilsl,.nilmap,.int .i64 0] [(0,(1,(.c .nilsl))),(1,(1,(.t 3))),(2,(1,(.t 4)))]),none⟩,⟨0,some 6,.box (.t 5),none⟩,⟨0,
 (some 2),.mv (.t 6),none⟩]) .ret)),none,none⟩
theorem aPH:aN prog (52,x52):=⟨⟨fun vs w=>call52 vs w,_,_,func52,rfl,rfl,by kernel_rfl,by kernel_rfl⟩,by kernel_rfl,aA rfl,rfl⟩

def x53:XFn:=⟨7,[(2,none)],false,false,
 (.seq (.reg [] false [⟨0,some 2,.mv (.c .nilpt),none⟩]) (.seq (.reg [] false [⟨0,some 3,.mkmap,none⟩,⟨0,some 4,.mv (.t 0),none⟩,⟨0,(some
 5),(.build [.nilsl,.nilmap,.int .i64 0] [(0,(1,(.c .nilsl))),(1,(1,(.t 3))),(2,(1,(.t 4)))]),none⟩,⟨0,some 6,.box (.t 5),none⟩,⟨0,
 (some 2),.mv (.t 6),none⟩]) .ret)),none,none⟩
theorem aPG:aN prog (53,x53):=⟨⟨fun vs w=>call53 vs w,_,_,func53,rfl,rfl,by kernel_rfl,by kernel_rfl⟩,by kernel_rfl,aA rfl,rfl⟩

def x54:XFn:=⟨7,[(2,none)],false,false,
 (.seq (.reg [] false [⟨0,some 2,.mv (.c .nilpt),none⟩]) (.seq (.reg [] false [⟨0,some 3,.mkmap,none⟩,⟨0,some 4,.mv (.t 0),none⟩,⟨0,(some
 5),(.build [.nilsl,.nilmap,.int .i64 0] [(0,(1,(.c .nilsl))),(1,(1,(.t 3))),(2,(1,(.t 4)))]),none⟩,⟨0,some 6,.box (.t 5),none⟩,⟨0,
 (some 2),.mv (.t 6),none⟩]) .ret)),none,none⟩
theorem aPF:aN prog (54,x54):=⟨⟨fun vs w=>call54 vs w,_,_,func54,rfl,rfl,by kernel_rfl,by kernel_rfl⟩,by kernel_rfl,aA rfl,rfl⟩

def x55:XFn:=⟨7,[(2,none)],false,false,
 (.seq (.reg [] false [⟨0,some 2,.mv (.c .nilpt),none⟩]) (.seq (.reg [] false [⟨0,some 3,.mkmap,none⟩,⟨0,some 4,.mv (.t 0),none⟩,⟨0,(some
 5),(.build [.nilsl,.nilmap,.int .i64 0] [(0,(1,(.c .nilsl))),(1,(1,(.t 3))),(2,(1,(.t 4)))]),none⟩,⟨0,some 6,.box (.t 5),none⟩,⟨0,
 (some 2),.mv (.t 6),none⟩]) .ret)),none,none⟩
theorem aPE:aN prog (55,x55):=⟨⟨fun vs w=>call55 vs w,_,_,func55,rfl,rfl,by kernel_rfl,by kernel_rfl⟩,by kernel_rfl,aA rfl,rfl⟩

def x58:XFn:=⟨9,[],false,false,
 (.seq (.reg [] false [⟨0,some 4,.mv (.t 0),none⟩,⟨0,some 5,.not (.t 4),none⟩]) (.cond (.t 5) (.reg [] false [⟨0,some 6,.mv (.t 1),none⟩,
 ⟨0,some 7,(.build [.int .i64 0] [(0,(1,(.t 6)))]),none⟩,⟨0,some 8,.mkifc 110 (.t 7),none⟩,⟨0,none,.stuck,none⟩]) .skip)),none,none⟩
theorem aPD:aN prog (58,x58):=⟨⟨fun vs w=>call58 vs w,_,_,func58,rfl,rfl,by kernel_rfl,by kernel_rfl⟩,by kernel_rfl,aA rfl,rfl⟩

def x59:XFn:=⟨12,[(2,none)],false,false,
 (.seq (.reg [] false [⟨0,some 2,.mv (.c (.bool false)),none⟩]) (.seq (.reg [] false [⟨0,some 3,.mv (.t 0),none⟩,⟨0,some 4,.eqn 3 false (.t
 3) (.c .nilpt),none⟩,⟨0,some 5,.mv (.t 4),none⟩,⟨0,some 6,.mv (.t 0),some (5,false)⟩,⟨0,some 7,.nilck (.t 6),some (5,
 false)⟩,⟨0,some 8,.fld 0 (.t 7),some (5,false)⟩,⟨0,some 9,.load false 1 (.t 8),some (5,false)⟩,⟨0,some 10,(.eqn 3 false (.t 9)
 (.c .nilpt)),some (5,false)⟩,⟨0,some 11,.pick (.t 5) (.c (.bool true)) (.t 10),none⟩,⟨0,some 2,.mv (.t 11),none⟩]) .ret)),none,none⟩
theorem aPC:aN prog (59,x59):=⟨⟨fun vs w=>call59 vs w,_,_,func59,rfl,rfl,by kernel_rfl,by kernel_rfl⟩,by kernel_rfl,aA rfl,rfl⟩

def aKd:XCode :=
 (.loop [2,4,6,47] (.seq (.reg [] false [⟨0,some 48,.nxts (.t 47),none⟩,⟨0,some 49,.ext (.t 48) 0,none⟩]) (.seq (.cond (.t 49) .skip (.exit
 0)) (.block 1 (.seq (.reg [] false [⟨0,some 50,.ext (.t 48) 1,none⟩,⟨0,some 51,.ext (.t 48) 2,none⟩,⟨0,some 7,.mv (.t 50),none⟩,⟨0,
 (some 8),.mv (.t 51),none⟩]) (.reg [] false [⟨0,some 52,.mv (.t 8),none⟩,⟨0,some 53,.bin .eql (.t 52) (.c (.int .i32 110)),none⟩,⟨0,
 (some 54),.mv (.t 53),none⟩,⟨0,some 55,.fld 1 (.t 6),some (54,false)⟩,⟨0,some 56,.load false 1 (.t 55),some (54,false)⟩,⟨0,(some
 57),.mv (.t 7),some (54,false)⟩,⟨0,some 58,.idx 1 (.t 56) (.t 57),some (54,false)⟩,⟨0,some 59,.load false 1 (.t 58),some (54,
 false)⟩,⟨0,some 60,(.callf false (.c (.fn (.func 85) [] [])) [.t 59] []),some (54,false)⟩,⟨0,some 61,.pick (.t 54) (.c (.bool true)) (.t
 60),none⟩,⟨0,some 62,(.callf false (.c (.fn (.func 58) [] [])) [.t 61,.c (.int .i64 8)] []),none⟩]))))))
def aKc:XCode :=
 (.loop [2,6,64] (.seq (.reg [] false [⟨0,some 65,.nxts (.t 64),none⟩,⟨0,some 66,.ext (.t 65) 0,none⟩]) (.seq (.cond (.t 66) .skip (.exit 2))
 (.block 3 (.seq (.reg [] false [⟨0,some 67,.ext (.t 65) 1,none⟩,⟨0,some 68,.ext (.t 65) 2,none⟩,⟨0,some 9,.mv (.t 67),none⟩,⟨0,
 (some 10),.mv (.t 68),none⟩]) (.seq (.reg [] false [⟨0,some 69,.mv (.t 10),none⟩,⟨0,some 70,.bin .eql (.t 69) (.c (.int .i32 110)),
 none⟩]) (.cond (.t 70) (.seq (.reg [] false [⟨0,some 72,.fld 1 (.t 6),none⟩,⟨0,some 73,.load false 1 (.t 72),none⟩,⟨0,some 74,.mv (.t
 9),none⟩,⟨0,some 75,.idx 1 (.t 73) (.t 74),none⟩,⟨0,some 76,.load false 1 (.t 75),none⟩,⟨0,some 77,(.callf false (.c (.fn (.func 86)
 [] [])) [.t 76] []),none⟩,⟨0,some 71,.mv (.t 77),none⟩,⟨0,some 78,.ext (.t 71) 0,none⟩,⟨0,some 79,.ext (.t 71) 1,none⟩,⟨0,(some
 11),.mv (.t 78),none⟩,⟨0,some 12,.mv (.t 79),none⟩]) (.seq (.reg [(11,false)] true [⟨0,some 80,.mv (.t 12),none⟩,⟨1,some 81,(.eqn 5
 false (.t 80) (.c .nilifc)),none⟩,⟨2,some 82,.mv (.t 81),none⟩,⟨3,some 83,.mv (.t 11),some (82,true)⟩,⟨4,some 84,(.callf false (.c
 (.fn (.func 35) [] [])) [.c (.int .i64 0),.t 83,.c (.int .i64 99999)] []),some (82,true)⟩,⟨5,some 85,.pick (.t 82) (.t 84) (.c (.bool
 false)),none⟩,⟨6,some 86,.mv (.t 85),none⟩,⟨7,some 87,.mv (.t 11),some (86,true)⟩,⟨9,some 89,.fld 1 (.t 6),some (86,true)⟩,
 ⟨10,some 90,.load false 1 (.t 89),some (86,true)⟩,⟨11,some 91,.mv (.t 9),some (86,true)⟩,⟨12,some 92,.idx 1 (.t 90) (.t 91),
 (some (86,true))⟩,⟨13,some 93,.load false 1 (.t 92),some (86,true)⟩,⟨8,some 88,(.callf false (.c (.fn (.func 57) [] [])) [.t 87] [10,
 13]),some (86,true)⟩,⟨14,some 94,.bin .eql (.t 88) (.t 93),some (86,true)⟩,⟨15,some 95,.pick (.t 86) (.t 94) (.c (.bool false)),
 none⟩,⟨16,some 96,(.callf false (.c (.fn (.func 58) [] [])) [.t 95,.c (.int .i64 2)] []),none⟩]) (.reg [] false [⟨0,some 97,.fld 2 (.t 6),
 none⟩,⟨0,some 98,.load false 1 (.t 97),none⟩,⟨0,some 99,.mv (.t 9),none⟩,⟨0,some 100,.mv (.t 11),none⟩,⟨0,some 101,.idx 1 (.t
 98) (.t 99),none⟩,⟨0,none,(.store 1 (.t 101) (.t 100) []),none⟩]))) .skip)))))))
def x60:XFn:=⟨103,[(2,(some (true,3)))],false,false,
 (.seq (.reg [] false [⟨0,some 2,(.alloc [(.str ⟨#[]⟩),.nilsl,.nilsl]),none⟩]) (.seq (.reg [] false [⟨0,some 13,.mv (.t 0),none⟩,⟨0,some 14,
 (.len true (.t 13)),none⟩,⟨0,some 15,.bin .leq (.t 14) (.c (.int .i64 40)),none⟩,⟨0,some 16,(.callf false (.c (.fn (.func 58) [] [])) [(.t
 15),.c (.int .i64 14)] []),none⟩]) (.seq (.reg [(0,false)] false [⟨0,some 17,.mv (.t 0),none⟩,⟨0,some 18,(.callf false (.c (.fn (.func 83)
 [] [])) [.t 17,.c (.str ⟨#[32]⟩)] []),none⟩,⟨0,some 3,.mv (.t 18),none⟩]) (.seq (.reg [] true [⟨1,some 21,.mv (.t 3),none⟩,⟨2,(some
 22),.idx 1 (.t 21) (.c (.int .i64 0)),none⟩,⟨3,some 23,.load false 1 (.t 22),none⟩,⟨0,some 20,(.callf false (.c (.fn (.func 84) [] [])) []
 [3]),none⟩,⟨4,some 24,.lookup true true (.str ⟨#[]⟩) (.t 20) (.t 23),none⟩,⟨5,some 19,.mv (.t 24),none⟩,⟨6,some 25,.ext (.t 19) 0,
 none⟩,⟨7,some 26,.ext (.t 19) 1,none⟩,⟨8,some 4,.mv (.t 25),none⟩,⟨9,some 5,.mv (.t 26),none⟩]) (.seq (.reg [] false [⟨0,some 27,
 (.mv (.t 5)),none⟩,⟨0,some 28,.mv (.t 27),none⟩,⟨0,some 29,.mv (.t 3),some (28,true)⟩,⟨0,some 30,.len false (.t 29),some (28,
 true)⟩,⟨0,some 31,.mv (.t 4),some (28,true)⟩,⟨0,some 32,.len true (.t 31),some (28,true)⟩,⟨0,some 33,.bin .add (.t 32) (.c
 (.int .i64 1)),some (28,true)⟩,⟨0,some 34,.bin .eql (.t 30) (.t 33),some (28,true)⟩,⟨0,some 35,.pick (.t 28) (.t 34) (.c (.bool
 false)),none⟩,⟨0,some 36,(.callf false (.c (.fn (.func 58) [] [])) [.t 35,.c (.int .i64 13)] []),none⟩]) (.seq (.reg [] true [⟨0,some 37,
 (.mv (.t 3)),none⟩,⟨1,some 38,.idx 1 (.t 37) (.c (.int .i64 0)),none⟩,⟨2,some 39,.load false 1 (.t 38),none⟩,⟨3,some 40,.mv (.t 3),
 none⟩,⟨4,some 41,.slsl 1 (.t 40) (some (.c (.int .i64 1))) none,none⟩,⟨5,some 42,.mv (.t 4),none⟩,⟨6,some 43,.len true (.t 42),
 none⟩,⟨7,some 44,(.mksl 1 8 [.int .i64 0] (.t 43) (.t 43)),none⟩,⟨8,some 45,(.build [(.str ⟨#[]⟩),.nilsl,.nilsl] [(0,(1,(.t 39))),(1,(1,
 (.t 41))),(2,(1,(.t 44)))]),none⟩,⟨9,some 6,(.alloc [(.str ⟨#[]⟩),.nilsl,.nilsl]),none⟩,⟨10,none,(.store 3 (.t 6) (.t 45) []),none⟩]) (.seq
 (.seq (.reg [] false [⟨0,some 46,.mv (.t 4),none⟩,⟨0,some 47,.rngs (.t 46),none⟩]) (.block 0 aKd)) (.seq (.seq (.reg [] false [⟨0,(some
 63),.mv (.t 4),none⟩,⟨0,some 64,.rngs (.t 63),none⟩]) (.block 2 aKc)) (.seq (.reg [] false [⟨0,some 102,.load true 3 (.t 6),none⟩,⟨0,
 none,(.store 3 (.t 2) (.t 102) []),none⟩]) .ret))))))))),none,none⟩
theorem aPB:aN prog (60,x60):=⟨⟨fun vs w=>call60 vs w,_,_,func60,rfl,rfl,by kernel_rfl,by kernel_rfl⟩,by kernel_rfl,aA rfl,rfl⟩

def x61:XFn:=⟨90,[(4,none)],false,false,
 (.seq (.reg [] false [⟨0,some 2,.box (.t 0),none⟩,⟨0,some 3,.box (.t 1),none⟩,⟨0,some 4,.mv (.c .nilfn),none⟩]) (.seq (.seq (.reg []
 false [⟨0,some 5,.fld 0 (.t 3),none⟩,⟨0,some 6,.load false 1 (.t 5),none⟩]) (.block 0 (.seq (.reg [] false [⟨0,some 8,(.bin .eql (.t 6)
 (.c (.str ⟨#[102,97,114,109,101,114]⟩))),none⟩,⟨0,some 7,.mv (.t 8),none⟩]) (.cond (.t 7) (.seq (.reg [] true [⟨0,some 9,(.load false 1
 (.t 2)),none⟩,⟨1,some 10,.nilck (.t 9),none⟩,⟨2,some 11,.fld 0 (.t 10),none⟩,⟨3,some 12,.load false 1 (.t 11),none⟩,⟨4,some 13,
 (.nilck (.t 12)),none⟩,⟨5,some 14,.fld 1 (.t 13),none⟩,⟨6,some 15,.load false 1 (.t 14),none⟩,⟨7,some 16,.fld 1 (.t 3),none⟩,⟨8,
 (some 17),.load false 1 (.t 16),none⟩,⟨9,some 18,.idx 1 (.t 17) (.c (.int .i64 0)),none⟩,⟨10,some 19,.load false 1 (.t 18),none⟩,⟨11,
 (some 20),.lookup true false .nilpt (.t 15) (.t 19),none⟩,⟨12,some 21,.eqn 3 false (.t 20) (.c .nilpt),none⟩,⟨13,some 22,(.callf false (.c
 (.fn (.func 58) [] [])) [.t 21,.c (.int .i64 6)] []),none⟩]) (.seq (.reg [] true [⟨0,some 23,.load false 1 (.t 2),none⟩,⟨1,some 24,(.nilck
 (.t 23)),none⟩,⟨2,some 25,.fld 0 (.t 24),none⟩,⟨3,some 26,.load false 1 (.t 25),none⟩,⟨4,some 27,.fld 1 (.t 3),none⟩,⟨5,(some
 28),.load false 1 (.t 27),none⟩,⟨6,some 29,.idx 1 (.t 28) (.c (.int .i64 0)),none⟩,⟨7,some 30,.load false 1 (.t 29),none⟩,⟨8,(some
 31),(.callf false (.c (.fn (.func 87) [] [])) [.t 26,.t 30] []),none⟩,⟨9,some 32,.not (.t 31),none⟩,⟨10,some 33,(.callf false (.c (.fn
 (.func 58) [] [])) [.t 32,.c (.int .i64 15)] []),none⟩]) (.seq (.reg [] false [⟨0,some 34,(.mkf (.func 88) [] [.t 2,.t 3]),none⟩,⟨0,(some
 4),.mv (.t 34),none⟩]) .ret))) (.seq (.reg [] false [⟨0,some 36,.bin .eql (.t 6) (.c (.str ⟨#[119,97,103,111,110]⟩)),none⟩,⟨0,some 35,
 (.mv (.t 36)),none⟩]) (.cond (.t 35) (.seq (.reg [] false [⟨0,some 37,.load false 1 (.t 2),none⟩,⟨0,some 38,.load true 3 (.t 3),none⟩,⟨0,
 (some 39),(.callf false (.c (.fn (.func 90) [] [])) [.t 37,.t 38] []),none⟩,⟨0,some 4,.mv (.t 39),none⟩]) .ret) (.seq (.reg [] false [⟨0,
 (some 41),.bin .eql (.t 6) (.c (.str ⟨#[118,111,105,100]⟩)),none⟩,⟨0,some 40,.mv (.t 41),none⟩]) (.cond (.t 40) (.seq (.reg [] true [⟨0,
 (some 42),.load false 1 (.t 2),none⟩,⟨1,some 43,.fld 2 (.t 3),none⟩,⟨2,some 44,.load false 1 (.t 43),none⟩,⟨3,some 45,.idx 1 (.t
 44) (.c (.int .i64 0)),none⟩,⟨4,some 46,.load false 1 (.t 45),none⟩,⟨5,some 47,(.callf false (.c (.fn (.func 91) [] [])) [.t 42,.t 46]
 []),none⟩,⟨6,some 4,.mv (.t 47),none⟩]) .ret) (.seq (.reg [] false [⟨0,some 49,.bin .eql (.t 6) (.c (.str ⟨#[99,108,111,115,101]⟩)),
 none⟩,⟨0,some 48,.mv (.t 49),none⟩]) (.cond (.t 48) (.seq (.reg [] true [⟨0,some 50,.load false 1 (.t 2),none⟩,⟨1,some 51,.nilck (.t
 50),none⟩,⟨2,some 52,.fld 5 (.t 51),none⟩,⟨3,some 53,.load false 1 (.t 52),none⟩,⟨4,some 54,.load false 1 (.t 2),none⟩,⟨5,(some
 55),.nilck (.t 54),none⟩,⟨6,some 56,.fld 4 (.t 55),none⟩,⟨7,some 57,.load false 1 (.t 56),none⟩,⟨8,some 58,.len false (.t 57),
 none⟩,⟨9,some 59,.bin .lss (.t 53) (.t 58),none⟩,⟨10,some 60,(.callf false (.c (.fn (.func 58) [] [])) [.t 59,.c (.int .i64 4)] []),
 none⟩]) (.seq (.reg [] false [⟨0,some 61,(.mkf (.func 92) [] [.t 2]),none⟩,⟨0,some 4,.mv (.t 61),none⟩]) .ret)) (.seq (.reg [] false [⟨0,
 (some 63),.bin .eql (.t 6) (.c (.str ⟨#[109,101,116,101,114]⟩)),none⟩,⟨0,some 62,.mv (.t 63),none⟩]) (.cond (.t 62) (.seq (.reg [] true [⟨0,
 (some 64),.load false 1 (.t 2),none⟩,⟨1,some 65,.fld 1 (.t 3),none⟩,⟨2,some 66,.load false 1 (.t 65),none⟩,⟨3,some 67,.idx 1 (.t
 66) (.c (.int .i64 0)),none⟩,⟨4,some 68,.load false 1 (.t 67),none⟩,⟨5,some 69,.fld 2 (.t 3),none⟩,⟨6,some 70,.load false 1 (.t
 69),none⟩,⟨7,some 71,.idx 1 (.t 70) (.c (.int .i64 1)),none⟩,⟨8,some 72,.load false 1 (.t 71),none⟩,⟨9,some 73,(.callf false (.c (.fn
 (.func 93) [] [])) [.t 64,.t 68,.t 72] []),none⟩,⟨10,some 4,.mv (.t 73),none⟩]) .ret) (.seq (.reg [] false [⟨0,some 75,.bin .eql (.t
 6) (.c (.str ⟨#[112,97,110]⟩)),none⟩,⟨0,some 74,.mv (.t 75),none⟩]) (.cond (.t 74) (.seq (.reg [] true [⟨0,some 76,.load false 1 (.t 2),
 none⟩,⟨1,some 77,.fld 1 (.t 3),none⟩,⟨2,some 78,.load false 1 (.t 77),none⟩,⟨3,some 79,.idx 1 (.t 78) (.c (.int .i64 0)),none⟩,⟨4,
 (some 80),.load false 1 (.t 79),none⟩,⟨5,some 81,.fld 2 (.t 3),none⟩,⟨6,some 82,.load false 1 (.t 81),none⟩,⟨7,some 83,.idx 1 (.t
 82) (.c (.int .i64 1)),none⟩,⟨8,some 84,.load false 1 (.t 83),none⟩,⟨9,some 85,.fld 2 (.t 3),none⟩,⟨10,some 86,.load false 1 (.t
 85),none⟩,⟨11,some 87,.idx 1 (.t 86) (.c (.int .i64 2)),none⟩,⟨12,some 88,.load false 1 (.t 87),none⟩,⟨13,some 89,(.callf false (.c
 (.fn (.func 94) [] [])) [.t 76,.t 80,.t 84,.t 88] []),none⟩,⟨14,some 4,.mv (.t 89),none⟩]) .ret) .skip)))))))))))))) (.seq (.reg []
 false [⟨0,some 4,.mv (.c .nilfn),none⟩]) .ret))),none,none⟩
theorem aPA:aN prog (61,x61):=⟨⟨fun vs w=>call61 vs w,_,_,func61,rfl,rfl,by kernel_rfl,by kernel_rfl⟩,by kernel_rfl,aA rfl,rfl⟩

def aKb:XCode :=
 (.loop [0,5,20,21,22] (.seq (.reg [] false [⟨0,some 23,.bin .lss (.t 22) (.t 21),none⟩]) (.seq (.cond (.t 23) .skip (.exit 1)) (.seq (.block 2
 (.seq (.reg [] false [⟨0,some 24,.idx 1 (.t 20) (.t 22),none⟩,⟨0,some 25,.load false 1 (.t 24),none⟩,⟨0,some 7,.mv (.t 25),none⟩])
 (.reg [(7,false)] false [⟨0,some 26,.mv (.t 5),none⟩,⟨0,some 27,.mv (.t 0),none⟩,⟨0,some 28,.nilck (.t 27),none⟩,⟨0,some 29,
 (.fld 0 (.t 28)),none⟩,⟨0,some 30,.load false 1 (.t 29),none⟩,⟨0,some 31,.mv (.t 7),none⟩,⟨0,some 32,(.callf false (.c (.fn (.func 95)
 [] [])) [.t 30,.t 31] []),none⟩,⟨0,some 33,.nilck (.t 32),none⟩,⟨0,some 34,.fld 0 (.t 33),none⟩,⟨0,some 35,.load false 1 (.t
 34),none⟩,⟨0,some 36,.bin .add (.t 26) (.t 35),none⟩,⟨0,some 5,.mv (.t 36),none⟩]))) (.reg [] false [⟨0,some 37,.bin .add (.t 22) (.c
 (.int .i64 1)),none⟩,⟨0,some 22,.mv (.t 37),none⟩])))))
def x62:XFn:=⟨136,[(4,none)],false,false,
 (.seq (.reg [] false [⟨0,some 3,.box (.t 1),none⟩,⟨0,some 4,.mv (.c (.str ⟨#[]⟩)),none⟩]) (.seq (.reg [] false [⟨0,some 5,.mv (.c (.int
 .i64 0)),none⟩]) (.seq (.seq (.reg [] false [⟨0,some 10,.fld 0 (.t 3),none⟩,⟨0,some 11,.load false 1 (.t 10),none⟩]) (.block 0 (.seq (.reg
 [] false [⟨0,some 13,.bin .eql (.t 11) (.c (.str ⟨#[116,111,116,97,108]⟩)),none⟩,⟨0,some 12,.mv (.t 13),none⟩]) (.cond (.t 12) (.seq
 (.reg [] false [⟨0,some 14,.mv (.t 0),none⟩,⟨0,some 15,.nilck (.t 14),none⟩,⟨0,some 16,.fld 0 (.t 15),none⟩,⟨0,some 17,(.load
 false 1 (.t 16)),none⟩,⟨0,some 18,.nilck (.t 17),none⟩,⟨0,some 19,.fld 0 (.t 18),none⟩,⟨0,some 20,.load false 1 (.t 19),none⟩,⟨0,
 (some 21),.len false (.t 20),none⟩,⟨0,some 22,.mv (.c (.int .i64 0)),none⟩]) (.block 1 aKb)) (.seq (.reg [] false [⟨0,some 39,(.bin .eql
 (.t 11) (.c (.str ⟨#[110,101,116]⟩))),none⟩,⟨0,some 38,.mv (.t 39),none⟩]) (.cond (.t 38) (.reg [] true [⟨0,some 40,.mv (.t 0),none⟩,⟨1,
 (some 41),.nilck (.t 40),none⟩,⟨2,some 42,.fld 0 (.t 41),none⟩,⟨3,some 43,.load false 1 (.t 42),none⟩,⟨4,some 44,.fld 1 (.t 3),
 none⟩,⟨5,some 45,.load false 1 (.t 44),none⟩,⟨6,some 46,.idx 1 (.t 45) (.c (.int .i64 0)),none⟩,⟨7,some 47,.load false 1 (.t 46),
 none⟩,⟨8,some 48,(.callf false (.c (.fn (.func 95) [] [])) [.t 43,.t 47] []),none⟩,⟨9,some 49,.nilck (.t 48),none⟩,⟨10,some 50,(.fld
 0 (.t 49)),none⟩,⟨11,some 51,.load false 1 (.t 50),none⟩,⟨12,some 5,.mv (.t 51),none⟩]) (.seq (.reg [] false [⟨0,some 53,.bin .eql (.t
 11) (.c (.str ⟨#[117,115,101,100]⟩)),none⟩,⟨0,some 52,.mv (.t 53),none⟩]) (.cond (.t 52) (.reg [] true [⟨0,some 54,.mv (.t 0),none⟩,⟨1,
 (some 55),.nilck (.t 54),none⟩,⟨2,some 56,.fld 1 (.t 55),none⟩,⟨3,some 57,.load false 1 (.t 56),none⟩,⟨4,some 58,.fld 1 (.t 3),
 none⟩,⟨5,some 59,.load false 1 (.t 58),none⟩,⟨6,some 60,.idx 1 (.t 59) (.c (.int .i64 0)),none⟩,⟨7,some 61,.load false 1 (.t 60),
 none⟩,⟨8,some 62,(.callf false (.c (.fn (.func 96) [] [])) [.t 57,.t 61] []),none⟩,⟨9,some 63,.nilck (.t 62),none⟩,⟨10,some 64,(.fld
 1 (.t 63)),none⟩,⟨11,some 65,.load false 1 (.t 64),none⟩,⟨12,some 5,.mv (.t 65),none⟩]) (.seq (.reg [] false [⟨0,some 67,.bin .eql (.t
 11) (.c (.str ⟨#[108,111,115,115]⟩)),none⟩,⟨0,some 66,.mv (.t 67),none⟩]) (.cond (.t 66) (.reg [] true [⟨0,some 68,.mv (.t 0),none⟩,⟨1,
 (some 69),.nilck (.t 68),none⟩,⟨2,some 70,.fld 2 (.t 69),none⟩,⟨3,some 71,.load false 1 (.t 70),none⟩,⟨4,some 72,.fld 1 (.t 3),
 none⟩,⟨5,some 73,.load false 1 (.t 72),none⟩,⟨6,some 74,.idx 1 (.t 73) (.c (.int .i64 0)),none⟩,⟨7,some 75,.load false 1 (.t 74),
 none⟩,⟨8,some 76,(.callf false (.c (.fn (.func 97) [] [])) [.t 71,.t 75] []),none⟩,⟨9,some 77,.nilck (.t 76),none⟩,⟨10,some 78,(.fld
 0 (.t 77)),none⟩,⟨11,some 79,.load false 1 (.t 78),none⟩,⟨12,some 5,.mv (.t 79),none⟩]) (.seq (.reg [] false [⟨0,some 81,.bin .eql (.t
 11) (.c (.str ⟨#[112,111,119,101,114]⟩)),none⟩,⟨0,some 80,.mv (.t 81),none⟩]) (.cond (.t 80) (.reg [(0,false)] false [⟨0,some 82,.mv (.t
 0),none⟩,⟨0,some 83,.fld 1 (.t 3),none⟩,⟨0,some 84,.load false 1 (.t 83),none⟩,⟨0,some 85,.idx 1 (.t 84) (.c (.int .i64 0)),none⟩,
 ⟨0,some 86,.load false 1 (.t 85),none⟩,⟨0,some 87,(.callf false (.c (.fn (.func 98) [] [])) [.t 82,.t 86] []),none⟩,⟨0,some 5,(.mv
 (.t 87)),none⟩]) (.seq (.reg [] false [⟨0,some 89,.bin .eql (.t 11) (.c (.str ⟨#[116,105,99,107,101,116]⟩)),none⟩,⟨0,some 88,.mv (.t
 89),none⟩]) (.cond (.t 88) (.seq (.reg [] true [⟨0,some 90,.fld 2 (.t 3),none⟩,⟨1,some 91,.load false 1 (.t 90),none⟩,⟨2,some 92,(.idx
 1 (.t 91) (.c (.int .i64 0))),none⟩,⟨3,some 93,.load false 1 (.t 92),none⟩,⟨4,some 94,.mv (.t 0),none⟩,⟨5,some 95,.nilck (.t 94),
 none⟩,⟨6,some 96,.fld 4 (.t 95),none⟩,⟨7,some 97,.load false 1 (.t 96),none⟩,⟨8,some 98,.len false (.t 97),none⟩,⟨9,some 99,
 (.bin .lss (.t 93) (.t 98)),none⟩,⟨10,some 100,(.callf false (.c (.fn (.func 58) [] [])) [.t 99,.c (.int .i64 5)] []),none⟩]) (.seq (.reg []
 true [⟨0,some 101,.mv (.t 0),none⟩,⟨1,some 102,.nilck (.t 101),none⟩,⟨2,some 103,.fld 4 (.t 102),none⟩,⟨3,some 104,(.load false
 1 (.t 103)),none⟩,⟨4,some 105,.fld 2 (.t 3),none⟩,⟨5,some 106,.load false 1 (.t 105),none⟩,⟨6,some 107,.idx 1 (.t 106) (.c (.int .i64
 0)),none⟩,⟨7,some 108,.load false 1 (.t 107),none⟩,⟨8,some 109,.idx 1 (.t 104) (.t 108),none⟩,⟨9,some 110,.load false 1 (.t 109),
 none⟩,⟨10,some 8,.mv (.t 110),none⟩]) (.seq (.reg [] true [⟨0,some 111,.mv (.t 8),none⟩,⟨1,some 112,.nilck (.t 111),none⟩,⟨2,(some
 113),.fld 0 (.t 112),none⟩,⟨3,some 114,.load false 1 (.t 113),none⟩,⟨4,some 115,.mv (.t 8),none⟩,⟨5,some 116,.nilck (.t 115),
 none⟩,⟨6,some 117,.fld 1 (.t 116),none⟩,⟨7,some 118,.load false 1 (.t 117),none⟩,⟨8,some 119,.mv (.t 8),none⟩,⟨9,some 120,
 (.nilck (.t 119)),none⟩,⟨10,some 121,.fld 2 (.t 120),none⟩,⟨11,some 122,.load false 1 (.t 121),none⟩,⟨12,some 123,(.callf false (.c
 (.fn (.func 57) [] [])) [.t 122] [3,7]),none⟩,⟨13,some 124,(.bslice 1 3 [(.str ⟨#[]⟩)] [(0,(1,(.t 114))),(1,(1,(.t 118))),(2,(1,(.t
 123)))]),none⟩,⟨14,some 9,.mv (.t 124),none⟩]) (.seq (.seq (.reg [] false [⟨0,some 125,.mv (.t 8),none⟩,⟨0,some 126,.nilck (.t 125),
 none⟩,⟨0,some 127,.fld 3 (.t 126),none⟩,⟨0,some 128,.load false 1 (.t 127),none⟩]) (.cond (.t 128) (.reg [] false [⟨0,some 129,.mv (.t
 9),none⟩,⟨0,some 130,(.bslice 1 1 [(.str ⟨#[]⟩)] [(0,(1,(.c (.str ⟨#[118,111,105,100]⟩))))]),none⟩,⟨0,some 131,.app 1 16 (.t 129) (.t
 130),none⟩,⟨0,some 9,.mv (.t 131),none⟩]) .skip)) (.seq (.reg [(9,false)] false [⟨0,some 132,.mv (.t 9),none⟩,⟨0,some 133,(.callf
 false (.c (.fn (.func 99) [] [])) [.t 132,.c (.str ⟨#[32]⟩)] []),none⟩,⟨0,some 4,.mv (.t 133),none⟩]) .ret))))) .skip)))))))))))))) (.seq
 (.reg [] false [⟨0,some 134,.mv (.t 5),none⟩,⟨0,some 135,(.callf false (.c (.fn (.func 57) [] [])) [.t 134] []),none⟩,⟨0,some 4,.mv (.t
 135),none⟩]) .ret)))),none,none⟩
theorem aPz:aN prog (62,x62):=⟨⟨fun vs w=>call62 vs w,_,_,func62,rfl,rfl,by kernel_rfl,by kernel_rfl⟩,by kernel_rfl,aA rfl,rfl⟩

def x69:XFn:=⟨19,[(4,none),(5,none)],false,false,
 (.seq (.reg [] false [⟨0,some 4,.mv (.c (.int .i64 0)),none⟩,⟨0,some 5,.mv (.c .nilifc),none⟩]) (.seq (.reg [(0,false)] false [⟨0,some 6,
 (.mv (.t 0)),none⟩,⟨0,some 7,(.callf false (.c (.fn (.func 115) [] [])) [.t 6] []),none⟩]) (.seq (.reg [] false [⟨0,some 8,.mv (.t 0),none⟩,
 ⟨0,some 9,.mv (.t 0),none⟩,⟨0,some 10,.nilck (.t 9),none⟩,⟨0,some 11,.fld 1 (.t 10),none⟩,⟨0,some 12,.load false 1 (.t 11),
 none⟩,⟨0,some 13,.mv (.t 1),none⟩,⟨0,some 14,.app 1 1048577 (.t 12) (.t 13),none⟩,⟨0,some 15,.nilck (.t 8),none⟩,⟨0,some 16,
 (.fld 1 (.t 15)),none⟩,⟨0,none,(.store 1 (.t 16) (.t 14) []),none⟩]) (.seq (.reg [] false [⟨0,some 17,.mv (.t 1),none⟩,⟨0,some 18,(.len
 true (.t 17)),none⟩,⟨0,some 4,.mv (.t 18),none⟩,⟨0,some 5,.mv (.c .nilifc),none⟩]) .ret)))),none,none⟩
theorem aPy:aN prog (69,x69):=⟨⟨fun vs w=>call69 vs w,_,_,func69,rfl,rfl,by kernel_rfl,by kernel_rfl⟩,by kernel_rfl,aA rfl,rfl⟩

def x70:XFn:=⟨4,[(2,none)],false,false,
 (.seq (.reg [] false [⟨0,some 1,.box (.t 0),none⟩,⟨0,some 2,.mv (.c .nilfn),none⟩]) (.seq (.reg [] false [⟨0,some 3,(.mkf (.func 116) []
 [.t 1]),none⟩,⟨0,some 2,.mv (.t 3),none⟩]) .ret)),none,none⟩
theorem aPx:aN prog (70,x70):=⟨⟨fun vs w=>call70 vs w,_,_,func70,rfl,rfl,by kernel_rfl,by kernel_rfl⟩,by kernel_rfl,aA rfl,rfl⟩

def x73:XFn:=⟨30,[(2,none)],false,false,
 (.seq (.reg [] false [⟨0,some 2,.mv (.c (.int .i64 0)),none⟩]) (.seq (.reg [] false [⟨0,some 6,.mv (.t 0),none⟩,⟨0,some 7,(.bin .quo (.t 6)
 (.c (.int .i64 45))),none⟩,⟨0,some 3,.mv (.t 7),none⟩]) (.seq (.reg [] false [⟨0,some 8,.mv (.t 3),none⟩,⟨0,some 9,(.bin .quo (.t 8)
 (.c (.int .i64 6))),none⟩,⟨0,some 10,.bin .mul (.t 9) (.c (.int .i64 5)),none⟩,⟨0,some 4,.mv (.t 10),none⟩]) (.seq (.seq (.reg [] false
 [⟨0,some 11,.mv (.t 3),none⟩,⟨0,some 12,.bin .rem (.t 11) (.c (.int .i64 6)),none⟩,⟨0,some 5,.mv (.t 12),none⟩]) (.seq (.reg [] false
 [⟨0,some 13,.mv (.t 5),none⟩]) (.block 0 (.seq (.block 3 (.seq (.block 2 (.seq (.block 1 (.seq (.seq (.seq (.reg [] false [⟨0,some 15,(.bin .eql
 (.t 13) (.c (.int .i64 1))),none⟩,⟨0,some 14,.mv (.t 15),none⟩]) (.cond (.t 14) (.exit 1) .skip)) (.seq (.seq (.reg [] false [⟨0,some 17,(.bin
 .eql (.t 13) (.c (.int .i64 2))),none⟩,⟨0,some 16,.mv (.t 17),none⟩]) (.cond (.t 16) .skip (.seq (.reg [] false [⟨0,some 18,(.bin .eql (.t 13)
 (.c (.int .i64 3))),none⟩,⟨0,some 16,.mv (.t 18),none⟩]) (.cond (.t 16) .skip (.seq (.reg [] false [⟨0,some 19,.bin .eql (.t 13) (.c (.int
 .i64 4)),none⟩,⟨0,some 16,.mv (.t 19),none⟩]) (.cond (.t 16) .skip (.reg [] false [⟨0,some 20,.bin .eql (.t 13) (.c (.int .i64 5)),none⟩,
 ⟨0,some 16,.mv (.t 20),none⟩]))))))) (.cond (.t 16) (.exit 2) .skip))) (.exit 3))) (.seq (.seq (.reg [] false [⟨0,some 2,.mv (.c (.int .i64
 20)),none⟩]) .ret) (.exit 0)))) (.reg [] false [⟨0,some 21,.mv (.t 4),none⟩,⟨0,some 22,.mv (.t 5),none⟩,⟨0,some 23,(.bin .sub (.t 22)
 (.c (.int .i64 1))),none⟩,⟨0,some 24,.bin .add (.t 21) (.t 23),none⟩,⟨0,some 4,.mv (.t 24),none⟩]))) (.seq (.seq (.reg [] false [⟨0,(some
 25),.mv (.t 0),none⟩,⟨0,some 26,.bin .rem (.t 25) (.c (.int .i64 45)),none⟩,⟨0,some 27,.bin .neq (.t 26) (.c (.int .i64 0)),none⟩])
 (.cond (.t 27) (.seq (.reg [] false [⟨0,some 2,.mv (.c (.int .i64 20)),none⟩]) .ret) .skip)) (.exit 0)))))) (.seq (.seq (.reg [] false [⟨0,(some
 28),.mv (.t 4),none⟩,⟨0,some 29,.bin .gtr (.t 28) (.c (.int .i64 300)),none⟩]) (.cond (.t 29) (.seq (.reg [] false [⟨0,some 2,.mv (.c (.int
 .i64 1)),none⟩]) .ret) .skip)) (.seq (.reg [] false [⟨0,some 2,.mv (.c (.int .i64 0)),none⟩]) .ret)))))),none,none⟩
theorem aPw:aN prog (73,x73):=⟨⟨fun vs w=>call73 vs w,_,_,func73,rfl,rfl,by kernel_rfl,by kernel_rfl⟩,by kernel_rfl,aA rfl,rfl⟩

def x75:XFn:=⟨9,[(2,none)],false,false,
 (.seq (.reg [] false [⟨0,some 2,.mv (.c (.bool false)),none⟩]) (.seq (.reg [] false [⟨0,some 3,.mv (.t 0),none⟩,⟨0,some 4,(.bin .lss (.t 3)
 (.c (.int .i32 32))),none⟩,⟨0,some 5,.mv (.t 4),none⟩,⟨0,some 6,.mv (.t 0),some (5,false)⟩,⟨0,some 7,.bin .gtr (.t 6) (.c (.int
 .i32 126)),some (5,false)⟩,⟨0,some 8,.pick (.t 5) (.c (.bool true)) (.t 7),none⟩,⟨0,some 2,.mv (.t 8),none⟩]) .ret)),none,none⟩
theorem aPv:aN prog (75,x75):=⟨⟨fun vs w=>call75 vs w,_,_,func75,rfl,rfl,by kernel_rfl,by kernel_rfl⟩,by kernel_rfl,aA rfl,rfl⟩

def x77:XFn:=⟨12,[(4,none)],false,false,
 (.seq (.reg [] false [⟨0,some 2,.box (.t 0),none⟩,⟨0,some 4,.mv (.c (.str ⟨#[]⟩)),none⟩]) (.seq (.reg [(1,false)] true [⟨0,some 5,(.load
 true 40 (.t 2)),none⟩,⟨1,some 6,.mv (.t 1),none⟩,⟨3,some 8,.slarr 40 1 (.t 2) none none,none⟩,⟨4,some 9,.strof (.t 8),none⟩,⟨2,
 (some 7),(.callf true (.c (.fn (.func 119) [] [])) [.t 5,.t 6] []),none⟩,⟨5,some 10,.bin .add (.t 7) (.t 9),none⟩,⟨6,some 11,(.bin .add
 (.t 10) (.c (.str ⟨#[10]⟩))),none⟩,⟨7,some 4,.mv (.t 11),none⟩]) .ret)),none,none⟩
theorem aPu:aN prog (77,x77):=⟨⟨fun vs w=>call77 vs w,_,_,func77,rfl,rfl,by kernel_rfl,by kernel_rfl⟩,by kernel_rfl,aA rfl,rfl⟩

def aHL:XCode :=
 (.loop [0] (.seq (.seq (.reg [] false [⟨0,some 3,.mv (.t 0),none⟩,⟨0,some 4,.len true (.t 3),none⟩,⟨0,some 5,.bin .lss (.t 4) (.c (.int
 .i64 40)),none⟩]) (.cond (.t 5) .skip (.exit 0))) (.block 1 (.reg [] false [⟨0,some 6,.mv (.t 0),none⟩,⟨0,some 7,.bin .add (.t 6) (.c (.str
 ⟨#[32]⟩)),none⟩,⟨0,some 0,.mv (.t 7),none⟩]))))
def x78:XFn:=⟨9,[(2,none)],false,false,
 (.seq (.reg [] false [⟨0,some 2,.mv (.c (.str ⟨#[]⟩)),none⟩]) (.seq (.block 0 aHL) (.seq (.reg [] false [⟨0,some 8,.mv (.t 0),none⟩,⟨0,(some
 2),.mv (.t 8),none⟩]) .ret))),none,none⟩
theorem aPt:aN prog (78,x78):=⟨⟨fun vs w=>call78 vs w,_,_,func78,rfl,rfl,by kernel_rfl,by kernel_rfl⟩,by kernel_rfl,aA rfl,rfl⟩

def aHK:XCode :=
 (.loop [0,5,6] (.seq (.seq (.reg [] false [⟨0,some 9,.mv (.t 6),none⟩,⟨0,some 10,.bin .lss (.t 9) (.c (.int .i64 40)),none⟩]) (.cond (.t 10)
 .skip (.exit 0))) (.seq (.block 1 (.reg [] false [⟨0,some 13,.mv (.t 5),none⟩,⟨0,some 14,.mv (.t 6),none⟩,⟨0,some 15,(.bin .add (.t 14)
 (.c (.int .i64 1))),none⟩,⟨0,some 16,.mv (.t 0),none⟩,⟨0,some 17,.mv (.t 6),none⟩,⟨0,some 18,.idxs (.t 16) (.t 17),none⟩,⟨0,(some
 19),.conv .i64 (.t 18),none⟩,⟨0,some 20,.bin .sub (.t 19) (.c (.int .i64 32)),none⟩,⟨0,some 21,.bin .mul (.t 15) (.t 20),none⟩,⟨0,
 (some 22),.bin .add (.t 13) (.t 21),none⟩,⟨0,some 5,.mv (.t 22),none⟩])) (.reg [] false [⟨0,some 11,.mv (.t 6),none⟩,⟨0,some 12,
 (.bin .add (.t 11) (.c (.int .i64 1))),none⟩,⟨0,some 6,.mv (.t 12),none⟩]))))
def x79:XFn:=⟨49,[(4,none)],false,false,
 (.seq (.reg [] false [⟨0,some 4,.mv (.c (.str ⟨#[]⟩)),none⟩]) (.seq (.reg [] false [⟨0,some 8,.mv (.t 1),none⟩,⟨0,some 5,.mv (.t 8),
 none⟩]) (.seq (.seq (.reg [] false [⟨0,some 6,.mv (.c (.int .i64 0)),none⟩]) (.block 0 aHK)) (.seq (.reg [] false [⟨0,some 23,.mv (.t 5),
 none⟩,⟨0,some 24,.bin .rem (.t 23) (.c (.int .i64 9973)),none⟩,⟨0,some 5,.mv (.t 24),none⟩]) (.seq (.reg [] false [⟨0,some 25,.mv (.t
 5),none⟩,⟨0,some 26,.bin .quo (.t 25) (.c (.int .i64 1000)),none⟩,⟨0,some 27,.bin .add (.c (.int .i64 48)) (.t 26),none⟩,⟨0,some 28,
 (.conv .u8 (.t 27)),none⟩,⟨0,some 29,.mv (.t 5),none⟩,⟨0,some 30,.bin .quo (.t 29) (.c (.int .i64 100)),none⟩,⟨0,some 31,(.bin .rem
 (.t 30) (.c (.int .i64 10))),none⟩,⟨0,some 32,.bin .add (.c (.int .i64 48)) (.t 31),none⟩,⟨0,some 33,.conv .u8 (.t 32),none⟩,⟨0,(some
 34),.mv (.t 5),none⟩,⟨0,some 35,.bin .quo (.t 34) (.c (.int .i64 10)),none⟩,⟨0,some 36,.bin .rem (.t 35) (.c (.int .i64 10)),none⟩,⟨0,
 (some 37),.bin .add (.c (.int .i64 48)) (.t 36),none⟩,⟨0,some 38,.conv .u8 (.t 37),none⟩,⟨0,some 39,.mv (.t 5),none⟩,⟨0,some 40,
 (.bin .rem (.t 39) (.c (.int .i64 10))),none⟩,⟨0,some 41,.bin .add (.c (.int .i64 48)) (.t 40),none⟩,⟨0,some 42,.conv .u8 (.t 41),none⟩,
 ⟨0,some 43,(.bslice 1 4 [.int .u8 0] [(0,(1,(.t 28))),(1,(1,(.t 33))),(2,(1,(.t 38))),(3,(1,(.t 42)))]),none⟩,⟨0,some 7,.mv (.t
 43),none⟩]) (.seq (.reg [] false [⟨0,some 44,.mv (.t 7),none⟩,⟨0,some 45,.strof (.t 44),none⟩,⟨0,some 46,.mv (.t 0),none⟩,⟨0,
 (some 47),.bin .add (.t 45) (.t 46),none⟩,⟨0,some 48,.bin .add (.t 47) (.c (.str ⟨#[10]⟩)),none⟩,⟨0,some 4,.mv (.t 48),none⟩])
 .ret)))))),none,none⟩
theorem aPs:aN prog (79,x79):=⟨⟨fun vs w=>call79 vs w,_,_,func79,rfl,rfl,by kernel_rfl,by kernel_rfl⟩,by kernel_rfl,aA rfl,rfl⟩

def x84:XFn:=⟨3,[(0,none)],false,false,
 (.seq (.reg [] false [⟨0,some 0,.mv (.c .nilmap),none⟩]) (.seq (.reg [] false [⟨0,some 1,.mkmap,none⟩,⟨0,none,.mapup true (.t 1) (.c (.str
 ⟨#[102,97,114,109,101,114]⟩)) (.c (.str ⟨#[102]⟩)),none⟩,⟨0,none,.mapup true (.t 1) (.c (.str ⟨#[119,97,103,111,110]⟩)) (.c (.str ⟨#[119,
 110,110,102]⟩)),none⟩,⟨0,none,.mapup true (.t 1) (.c (.str ⟨#[118,111,105,100]⟩)) (.c (.str ⟨#[110]⟩)),none⟩,⟨0,none,.mapup true (.t 1) (.c
 (.str ⟨#[99,108,111,115,101]⟩)) (.c (.str ⟨#[]⟩)),none⟩,⟨0,none,.mapup true (.t 1) (.c (.str ⟨#[109,101,116,101,114]⟩)) (.c (.str ⟨#[109,
 110]⟩)),none⟩,⟨0,none,.mapup true (.t 1) (.c (.str ⟨#[112,97,110]⟩)) (.c (.str ⟨#[112,110,110]⟩)),none⟩,⟨0,none,.mapup true (.t 1) (.c (.str
 ⟨#[110,101,116]⟩)) (.c (.str ⟨#[102]⟩)),none⟩,⟨0,none,.mapup true (.t 1) (.c (.str ⟨#[116,111,116,97,108]⟩)) (.c (.str ⟨#[]⟩)),none⟩,⟨0,
 none,.mapup true (.t 1) (.c (.str ⟨#[116,105,99,107,101,116]⟩)) (.c (.str ⟨#[110]⟩)),none⟩,⟨0,none,.mapup true (.t 1) (.c (.str ⟨#[117,115,
 101,100]⟩)) (.c (.str ⟨#[109]⟩)),none⟩,⟨0,none,.mapup true (.t 1) (.c (.str ⟨#[108,111,115,115]⟩)) (.c (.str ⟨#[112]⟩)),none⟩,⟨0,none,(.mapup
 true (.t 1) (.c (.str ⟨#[112,111,119,101,114]⟩)) (.c (.str ⟨#[102]⟩))),none⟩,⟨0,some 2,.mv (.t 1),none⟩,⟨0,some 0,.mv (.t 2),none⟩])
 .ret)),none,none⟩
theorem aPr:aN prog (84,x84):=⟨⟨fun vs w=>call84 vs w,_,_,func84,rfl,rfl,by kernel_rfl,by kernel_rfl⟩,by kernel_rfl,aA rfl,rfl⟩

def aKa:XCode :=
 (.loop [0,6,7,8] (.seq (.reg [] false [⟨0,some 9,.bin .lss (.t 8) (.t 7),none⟩]) (.seq (.cond (.t 9) .skip (.exit 0)) (.seq (.block 1 (.seq (.reg []
 false [⟨0,some 10,.mv (.t 8),none⟩,⟨0,some 11,.idx 1 (.t 6) (.t 8),none⟩,⟨0,some 12,.load false 1 (.t 11),none⟩,⟨0,some 3,(.mv
 (.t 10)),none⟩,⟨0,some 4,.mv (.t 12),none⟩]) (.seq (.reg [] false [⟨0,some 13,.mv (.t 4),none⟩,⟨0,some 14,.bin .lss (.t 13) (.c (.int
 .u8 97)),none⟩,⟨0,some 15,.mv (.t 14),none⟩,⟨0,some 16,.mv (.t 4),some (15,false)⟩,⟨0,some 17,.bin .gtr (.t 16) (.c (.int .u8
 122)),some (15,false)⟩,⟨0,some 18,.pick (.t 15) (.c (.bool true)) (.t 17),none⟩,⟨0,some 19,.mv (.t 18),none⟩,⟨0,some 20,.mv (.t
 3),some (19,true)⟩,⟨0,some 21,.bin .eql (.t 20) (.c (.int .i64 0)),some (19,true)⟩,⟨0,some 22,.mv (.t 21),some (19,true)⟩,⟨0,
 (some 23),.mv (.t 4),some (22,false)⟩,⟨0,some 24,.bin .lss (.t 23) (.c (.int .u8 48)),some (22,false)⟩,⟨0,some 25,.pick (.t 22) (.c
 (.bool true)) (.t 24),some (19,true)⟩,⟨0,some 26,.mv (.t 25),some (19,true)⟩,⟨0,some 27,.mv (.t 4),some (26,false)⟩,⟨0,(some
 28),.bin .gtr (.t 27) (.c (.int .u8 57)),some (26,false)⟩,⟨0,some 29,.pick (.t 26) (.c (.bool true)) (.t 28),some (19,true)⟩,⟨0,(some
 30),.pick (.t 19) (.t 29) (.c (.bool false)),none⟩]) (.cond (.t 30) (.seq (.reg [] false [⟨0,some 2,.mv (.c (.bool false)),none⟩]) .ret)
 .skip)))) (.reg [] false [⟨0,some 31,.bin .add (.t 8) (.c (.int .i64 1)),none⟩,⟨0,some 8,.mv (.t 31),none⟩])))))
def x85:XFn:=⟨40,[(2,none)],false,false,
 (.seq (.reg [] false [⟨0,some 2,.mv (.c (.bool false)),none⟩]) (.seq (.seq (.reg [] false [⟨0,some 5,.mv (.t 0),none⟩,⟨0,some 6,.bytes (.t
 5),none⟩,⟨0,some 7,.len false (.t 6),none⟩,⟨0,some 8,.mv (.c (.int .i64 0)),none⟩]) (.block 0 aKa)) (.seq (.reg [] false [⟨0,some 32,
 (.mv (.t 0)),none⟩,⟨0,some 33,.len true (.t 32),none⟩,⟨0,some 34,.bin .gtr (.t 33) (.c (.int .i64 0)),none⟩,⟨0,some 35,.mv (.t 34),
 none⟩,⟨0,some 36,.mv (.t 0),some (35,true)⟩,⟨0,some 37,.len true (.t 36),some (35,true)⟩,⟨0,some 38,.bin .leq (.t 37) (.c (.int
 .i64 10)),some (35,true)⟩,⟨0,some 39,.pick (.t 35) (.t 38) (.c (.bool false)),none⟩,⟨0,some 2,.mv (.t 39),none⟩]) .ret))),none,none⟩
theorem aPq:aN prog (85,x85):=⟨⟨fun vs w=>call85 vs w,_,_,func85,rfl,rfl,by kernel_rfl,by kernel_rfl⟩,by kernel_rfl,aA rfl,rfl⟩

def x86:XFn:=⟨18,[(2,none),(3,none)],false,false,
 (.seq (.reg [] false [⟨0,some 2,.mv (.c (.int .i64 0)),none⟩,⟨0,some 3,.mv (.c .nilifc),none⟩]) (.seq (.reg [(0,false)] false [⟨0,some 7,
 (.mv (.t 0)),none⟩,⟨0,some 8,(.callf false (.c (.fn (.func 126) [] [])) [.t 7] []),none⟩,⟨0,some 6,.mv (.t 8),none⟩,⟨0,some 9,(.ext
 (.t 6) 0),none⟩,⟨0,some 10,.ext (.t 6) 1,none⟩,⟨0,some 4,.mv (.t 9),none⟩,⟨0,some 5,.mv (.t 10),none⟩]) (.seq (.seq (.reg [] false
 [⟨0,some 11,.mv (.t 5),none⟩,⟨0,some 12,.eqn 5 true (.t 11) (.c .nilifc),none⟩]) (.cond (.t 12) (.seq (.reg [(0,false),(5,false)] false
 [⟨0,some 13,.mv (.t 4),none⟩,⟨0,some 14,.mv (.t 0),none⟩,⟨0,some 15,.mv (.t 5),none⟩,⟨0,some 16,(.callf false (.c (.fn (.func
 127) [] [])) [.c (.str ⟨#[65,116,111,105]⟩),.t 14,.c (.int .i64 0),.c (.int .i64 0),.t 15] []),none⟩,⟨0,some 2,.mv (.t 13),none⟩,
 ⟨0,some 3,.mv (.t 16),none⟩]) .ret) .skip)) (.seq (.reg [] false [⟨0,some 17,.mv (.t 4),none⟩,⟨0,some 2,.mv (.t 17),none⟩,⟨0,(some
 3),.mv (.c .nilifc),none⟩]) .ret)))),none,none⟩
theorem aPp:aN prog (86,x86):=⟨⟨fun vs w=>call86 vs w,_,_,func86,rfl,rfl,by kernel_rfl,by kernel_rfl⟩,by kernel_rfl,aA rfl,rfl⟩

def x87:XFn:=⟨24,[(4,none)],false,false,
 (.seq (.reg [] false [⟨0,some 4,.mv (.c (.bool false)),none⟩]) (.seq (.reg [] true [⟨0,some 5,.mv (.t 0),none⟩,⟨1,some 6,.nilck (.t 5),
 none⟩,⟨2,some 7,.fld 1 (.t 6),none⟩,⟨3,some 8,.load false 1 (.t 7),none⟩,⟨4,some 9,.mv (.t 1),none⟩,⟨5,some 10,(.lookup true
 false .nilpt (.t 8) (.t 9)),none⟩,⟨6,some 11,.eqn 3 false (.t 10) (.c .nilpt),none⟩,⟨7,some 12,.mv (.t 11),none⟩,⟨8,some 13,.mv (.t
 0),some (12,true)⟩,⟨9,some 14,.nilck (.t 13),some (12,true)⟩,⟨10,some 15,.fld 0 (.t 14),some (12,true)⟩,⟨11,some 16,(.load
 false 1 (.t 15)),some (12,true)⟩,⟨12,some 17,.len false (.t 16),some (12,true)⟩,⟨13,some 18,.mv (.t 0),some (12,true)⟩,⟨14,(some
 19),.nilck (.t 18),some (12,true)⟩,⟨15,some 20,.fld 2 (.t 19),some (12,true)⟩,⟨16,some 21,.load false 1 (.t 20),some (12,
 true)⟩,⟨17,some 22,.bin .eql (.t 17) (.t 21),some (12,true)⟩,⟨18,some 23,.pick (.t 12) (.t 22) (.c (.bool false)),none⟩,⟨19,some 4,
 (.mv (.t 23)),none⟩]) .ret)),none,none⟩
theorem aPo:aN prog (87,x87):=⟨⟨fun vs w=>call87 vs w,_,_,func87,rfl,rfl,by kernel_rfl,by kernel_rfl⟩,by kernel_rfl,aA rfl,rfl⟩

def x88:XFn:=⟨11,[],false,false,
 (.reg [] true [⟨0,some 2,.load false 1 (.t 0),none⟩,⟨1,some 3,.nilck (.t 2),none⟩,⟨2,some 4,.fld 0 (.t 3),none⟩,⟨3,some 5,(.load
 false 1 (.t 4)),none⟩,⟨4,some 6,.fld 1 (.t 1),none⟩,⟨5,some 7,.load false 1 (.t 6),none⟩,⟨6,some 8,.idx 1 (.t 7) (.c (.int .i64 0)),
 none⟩,⟨7,some 9,.load false 1 (.t 8),none⟩,⟨8,some 10,(.callf false (.c (.fn (.func 89) [] [])) [.t 5,.t 9] []),none⟩]),none,none⟩
theorem aPn:aN prog (88,x88):=⟨⟨fun vs w=>call88 vs w,_,_,func88,rfl,rfl,by kernel_rfl,by kernel_rfl⟩,by kernel_rfl,aA rfl,rfl⟩

def x89:XFn:=⟨38,[(4,none),(5,none)],false,false,
 (.seq (.reg [] false [⟨0,some 4,.mv (.c .nilpt),none⟩,⟨0,some 5,.mv (.c (.bool false)),none⟩]) (.seq (.seq (.reg [] false [⟨0,some 7,(.mv
 (.t 0)),none⟩,⟨0,some 8,.nilck (.t 7),none⟩,⟨0,some 9,.fld 1 (.t 8),none⟩,⟨0,some 10,.load false 1 (.t 9),none⟩,⟨0,some 11,
 (.mv (.t 1)),none⟩,⟨0,some 12,.lookup true false .nilpt (.t 10) (.t 11),none⟩,⟨0,some 6,.mv (.t 12),none⟩]) (.seq (.reg [] false [⟨0,(some
 13),.mv (.t 6),none⟩,⟨0,some 14,.eqn 3 true (.t 13) (.c .nilpt),none⟩]) (.cond (.t 14) (.seq (.reg [] false [⟨0,some 15,.mv (.t 6),none⟩,
 ⟨0,some 4,.mv (.t 15),none⟩,⟨0,some 5,.mv (.c (.bool false)),none⟩]) .ret) .skip))) (.seq (.reg [] false [⟨0,some 16,.mv (.t 0),none⟩,
 ⟨0,some 17,.mv (.t 0),none⟩,⟨0,some 18,.nilck (.t 17),none⟩,⟨0,some 19,.fld 0 (.t 18),none⟩,⟨0,some 20,.load false 1 (.t 19),
 none⟩,⟨0,some 21,.mv (.t 1),none⟩,⟨0,some 22,(.bslice 1 1 [(.str ⟨#[]⟩)] [(0,(1,(.t 21)))]),none⟩,⟨0,some 23,.app 1 16 (.t 20) (.t
 22),none⟩,⟨0,some 24,.nilck (.t 16),none⟩,⟨0,some 25,.fld 0 (.t 24),none⟩,⟨0,none,(.store 1 (.t 25) (.t 23) []),none⟩]) (.seq (.reg []
 false [⟨0,some 26,.mv (.t 0),none⟩,⟨0,some 27,.nilck (.t 26),none⟩,⟨0,some 28,.fld 1 (.t 27),none⟩,⟨0,some 29,.load false 1 (.t
 28),none⟩,⟨0,some 30,.mv (.t 1),none⟩,⟨0,some 31,(.alloc [.int .i64 0]),none⟩,⟨0,none,.mapup true (.t 29) (.t 30) (.t 31),none⟩])
 (.seq (.reg [] false [⟨0,some 32,.mv (.t 0),none⟩,⟨0,some 33,.nilck (.t 32),none⟩,⟨0,some 34,.fld 1 (.t 33),none⟩,⟨0,some 35,
 (.load false 1 (.t 34)),none⟩,⟨0,some 36,.mv (.t 1),none⟩,⟨0,some 37,.lookup true false .nilpt (.t 35) (.t 36),none⟩,⟨0,some 4,(.mv
 (.t 37)),none⟩,⟨0,some 5,.mv (.c (.bool true)),none⟩]) .ret))))),none,none⟩
theorem aPm:aN prog (89,x89):=⟨⟨fun vs w=>call89 vs w,_,_,func89,rfl,rfl,by kernel_rfl,by kernel_rfl⟩,by kernel_rfl,aA rfl,rfl⟩

def x90:XFn:=⟨62,[(4,none)],false,false,
 (.seq (.reg [] false [⟨0,some 2,.box (.t 0),none⟩,⟨0,some 3,.box (.t 1),none⟩,⟨0,some 4,.mv (.c .nilfn),none⟩]) (.seq (.reg [] true
 [⟨0,some 11,.fld 1 (.t 3),none⟩,⟨1,some 12,.load false 1 (.t 11),none⟩,⟨2,some 13,.idx 1 (.t 12) (.c (.int .i64 0)),none⟩,⟨3,(some
 14),.load false 1 (.t 13),none⟩,⟨4,some 15,.fld 2 (.t 3),none⟩,⟨5,some 16,.load false 1 (.t 15),none⟩,⟨6,some 17,(.idx 1 (.t 16)
 (.c (.int .i64 1))),none⟩,⟨7,some 18,.load false 1 (.t 17),none⟩,⟨8,some 19,.fld 2 (.t 3),none⟩,⟨9,some 20,.load false 1 (.t 19),
 none⟩,⟨10,some 21,.idx 1 (.t 20) (.c (.int .i64 2)),none⟩,⟨11,some 22,.load false 1 (.t 21),none⟩,⟨12,some 23,.fld 1 (.t 3),none⟩,
 ⟨13,some 24,.load false 1 (.t 23),none⟩,⟨14,some 25,.idx 1 (.t 24) (.c (.int .i64 3)),none⟩,⟨15,some 26,.load false 1 (.t 25),none⟩,
 ⟨16,some 5,(.alloc [(.str ⟨#[]⟩)]),none⟩,⟨17,some 6,(.alloc [.int .i64 0]),none⟩,⟨18,some 7,(.alloc [.int .i64 0]),none⟩,⟨19,(some
 8),(.alloc [(.str ⟨#[]⟩)]),none⟩,⟨20,none,(.store 1 (.t 5) (.t 14) [5,7,9,11,13,15]),none⟩,⟨21,none,(.store 1 (.t 6) (.t 18) [9,11,13,15]),
 none⟩,⟨22,none,(.store 1 (.t 7) (.t 22) [13,15]),none⟩,⟨23,none,(.store 1 (.t 8) (.t 26) []),none⟩]) (.seq (.reg [] true [⟨0,some 27,(.load
 false 1 (.t 2)),none⟩,⟨1,some 28,.nilck (.t 27),none⟩,⟨2,some 29,.fld 0 (.t 28),none⟩,⟨3,some 30,.load false 1 (.t 29),none⟩,⟨4,
 (some 31),.load false 1 (.t 8),none⟩,⟨5,some 32,(.callf false (.c (.fn (.func 95) [] [])) [.t 30,.t 31] []),none⟩,⟨6,some 9,(.alloc
 [.nilpt]),none⟩,⟨7,none,(.store 1 (.t 9) (.t 32) []),none⟩]) (.seq (.reg [] false [⟨0,some 33,.load false 1 (.t 7),none⟩,⟨0,some 34,(.load
 false 1 (.t 6)),none⟩,⟨0,some 35,.bin .leq (.t 33) (.t 34),none⟩,⟨0,some 36,(.callf false (.c (.fn (.func 58) [] [])) [.t 35,.c (.int .i64
 10)] []),none⟩]) (.seq (.seq (.reg [] true [⟨0,some 37,.load false 1 (.t 2),none⟩,⟨1,some 38,.nilck (.t 37),none⟩,⟨2,some 39,(.fld 3
 (.t 38)),none⟩,⟨3,some 40,.load false 1 (.t 39),none⟩,⟨4,some 41,.nilck (.t 40),none⟩,⟨5,some 42,.fld 1 (.t 41),none⟩,⟨6,(some
 43),.load false 1 (.t 42),none⟩,⟨7,some 44,.load false 1 (.t 5),none⟩,⟨8,some 45,.lookup true false .nilpt (.t 43) (.t 44),none⟩,⟨9,
 (some 10),.mv (.t 45),none⟩]) (.seq (.reg [] false [⟨0,some 46,.mv (.t 10),none⟩,⟨0,some 47,.eqn 3 true (.t 46) (.c .nilpt),none⟩])
 (.cond (.t 47) (.reg [] true [⟨0,some 48,.mv (.t 10),none⟩,⟨1,some 49,.nilck (.t 48),none⟩,⟨2,some 50,.fld 0 (.t 49),none⟩,⟨3,(some
 51),.load false 1 (.t 50),none⟩,⟨4,some 52,.bin .sub (.t 51) (.c (.int .i64 500)),none⟩,⟨5,some 53,.load false 1 (.t 7),none⟩,⟨6,(some
 54),.mv (.t 10),none⟩,⟨7,some 55,.nilck (.t 54),none⟩,⟨8,some 56,.fld 0 (.t 55),none⟩,⟨9,some 57,.load false 1 (.t 56),none⟩,
 ⟨10,some 58,.bin .add (.t 57) (.c (.int .i64 500)),none⟩,⟨11,some 59,(.callf false (.c (.fn (.func 35) [] [])) [.t 52,.t 53,.t 58] []),
 none⟩,⟨12,some 60,(.callf false (.c (.fn (.func 58) [] [])) [.t 59,.c (.int .i64 22)] []),none⟩]) .skip))) (.seq (.reg [] false [⟨0,some 61,
 (.mkf (.func 128) [] [.t 2,.t 5,.t 7,.t 9,.t 6,.t 8]),none⟩,⟨0,some 4,.mv (.t 61),none⟩]) .ret)))))),none,none⟩
theorem aPl:aN prog (90,x90):=⟨⟨fun vs w=>call90 vs w,_,_,func90,rfl,rfl,by kernel_rfl,by kernel_rfl⟩,by kernel_rfl,aA rfl,rfl⟩

def x91:XFn:=⟨35,[(4,none)],false,false,
 (.seq (.reg [] false [⟨0,some 2,.box (.t 0),none⟩,⟨0,some 4,.mv (.c .nilfn),none⟩]) (.seq (.reg [] false [⟨0,some 6,.mv (.t 1),none⟩,
 ⟨0,some 7,.load false 1 (.t 2),none⟩,⟨0,some 8,.nilck (.t 7),none⟩,⟨0,some 9,.fld 4 (.t 8),none⟩,⟨0,some 10,.load false 1 (.t
 9),none⟩,⟨0,some 11,.len false (.t 10),none⟩,⟨0,some 12,.bin .lss (.t 6) (.t 11),none⟩,⟨0,some 13,(.callf false (.c (.fn (.func 58)
 [] [])) [.t 12,.c (.int .i64 5)] []),none⟩]) (.seq (.reg [] false [⟨0,some 14,.load false 1 (.t 2),none⟩,⟨0,some 15,.nilck (.t 14),
 none⟩,⟨0,some 16,.fld 4 (.t 15),none⟩,⟨0,some 17,.load false 1 (.t 16),none⟩,⟨0,some 18,.mv (.t 1),none⟩,⟨0,some 19,.idx 1 (.t
 17) (.t 18),none⟩,⟨0,some 20,.load false 1 (.t 19),none⟩,⟨0,some 5,(.alloc [.nilpt]),none⟩,⟨0,none,(.store 1 (.t 5) (.t 20) []),none⟩])
 (.seq (.reg [] false [⟨0,some 21,.load false 1 (.t 5),none⟩,⟨0,some 22,.nilck (.t 21),none⟩,⟨0,some 23,.fld 3 (.t 22),none⟩,⟨0,
 (some 24),.load false 1 (.t 23),none⟩,⟨0,some 25,.not (.t 24),none⟩,⟨0,some 26,(.callf false (.c (.fn (.func 58) [] [])) [.t 25,(.c
 (.int .i64 6))] []),none⟩]) (.seq (.reg [] false [⟨0,some 27,.mv (.t 1),none⟩,⟨0,some 28,.load false 1 (.t 2),none⟩,⟨0,some 29,(.nilck
 (.t 28)),none⟩,⟨0,some 30,.fld 5 (.t 29),none⟩,⟨0,some 31,.load false 1 (.t 30),none⟩,⟨0,some 32,.bin .geq (.t 27) (.t 31),none⟩,
 ⟨0,some 33,(.callf false (.c (.fn (.func 58) [] [])) [.t 32,.c (.int .i64 23)] []),none⟩]) (.seq (.reg [] false [⟨0,some 34,(.mkf (.func 130)
 [] [.t 5,.t 2]),none⟩,⟨0,some 4,.mv (.t 34),none⟩]) .ret)))))),none,none⟩
theorem aPk:aN prog (91,x91):=⟨⟨fun vs w=>call91 vs w,_,_,func91,rfl,rfl,by kernel_rfl,by kernel_rfl⟩,by kernel_rfl,aA rfl,rfl⟩

end Go.Proofs.YtmapgnepfgnphaaGreatDoor
end
section
set_option maxRecDepth 100000
namespace Go.Proofs.YtmapgnepfgnphaaGreatDoor
open Go Go.DL Go.Proofs.Tryz

def x92:XFn:=⟨9,[],false,false,
 (.reg [] true [⟨0,some 1,.load false 1 (.t 0),none⟩,⟨1,some 2,.load false 1 (.t 0),none⟩,⟨2,some 3,.nilck (.t 2),none⟩,⟨3,some 4,
 (.fld 4 (.t 3)),none⟩,⟨4,some 5,.load false 1 (.t 4),none⟩,⟨5,some 6,.len false (.t 5),none⟩,⟨6,some 7,.nilck (.t 1),none⟩,⟨7,
 (some 8),.fld 5 (.t 7),none⟩,⟨8,none,(.store 1 (.t 8) (.t 6) []),none⟩]),none,none⟩
theorem aPj:aN prog (92,x92):=⟨⟨fun vs w=>call92 vs w,_,_,func92,rfl,rfl,by kernel_rfl,by kernel_rfl⟩,by kernel_rfl,aA rfl,rfl⟩

def x93:XFn:=⟨16,[(6,none)],false,false,
 (.seq (.reg [] false [⟨0,some 3,.box (.t 0),none⟩,⟨0,some 4,.box (.t 1),none⟩,⟨0,some 5,.box (.t 2),none⟩,⟨0,some 6,.mv (.c
 .nilfn),none⟩]) (.seq (.reg [] true [⟨0,some 7,.load false 1 (.t 3),none⟩,⟨1,some 8,.nilck (.t 7),none⟩,⟨2,some 9,.fld 1 (.t 8),
 none⟩,⟨3,some 10,.load false 1 (.t 9),none⟩,⟨4,some 11,.load false 1 (.t 4),none⟩,⟨5,some 12,(.callf false (.c (.fn (.func 131) [] []))
 [.t 10,.t 11] []),none⟩,⟨6,some 13,.not (.t 12),none⟩,⟨7,some 14,(.callf false (.c (.fn (.func 58) [] [])) [.t 13,.c (.int .i64 15)]
 []),none⟩]) (.seq (.reg [] false [⟨0,some 15,(.mkf (.func 132) [] [.t 3,.t 4,.t 5]),none⟩,⟨0,some 6,.mv (.t 15),none⟩]) .ret))),none,none⟩
theorem aPi:aN prog (93,x93):=⟨⟨fun vs w=>call93 vs w,_,_,func93,rfl,rfl,by kernel_rfl,by kernel_rfl⟩,by kernel_rfl,aA rfl,rfl⟩

def x94:XFn:=⟨22,[(8,none)],false,false,
 (.seq (.reg [] false [⟨0,some 4,.box (.t 0),none⟩,⟨0,some 5,.box (.t 1),none⟩,⟨0,some 6,.box (.t 2),none⟩,⟨0,some 7,.box (.t 3),
 none⟩,⟨0,some 8,.mv (.c .nilfn),none⟩]) (.seq (.reg [] false [⟨0,some 9,.load false 1 (.t 7),none⟩,⟨0,some 10,.load false 1 (.t 6),
 none⟩,⟨0,some 11,.bin .leq (.t 9) (.t 10),none⟩,⟨0,some 12,(.callf false (.c (.fn (.func 58) [] [])) [.t 11,.c (.int .i64 10)] []),
 none⟩]) (.seq (.reg [] true [⟨0,some 13,.load false 1 (.t 4),none⟩,⟨1,some 14,.nilck (.t 13),none⟩,⟨2,some 15,.fld 2 (.t 14),none⟩,
 ⟨3,some 16,.load false 1 (.t 15),none⟩,⟨4,some 17,.load false 1 (.t 5),none⟩,⟨5,some 18,(.callf false (.c (.fn (.func 134) [] [])) [(.t
 16),.t 17] []),none⟩,⟨6,some 19,.not (.t 18),none⟩,⟨7,some 20,(.callf false (.c (.fn (.func 58) [] [])) [.t 19,.c (.int .i64 15)] []),
 none⟩]) (.seq (.reg [] false [⟨0,some 21,(.mkf (.func 135) [] [.t 4,.t 5,.t 6,.t 7]),none⟩,⟨0,some 8,.mv (.t 21),none⟩]) .ret)))),none,none⟩
theorem aPh:aN prog (94,x94):=⟨⟨fun vs w=>call94 vs w,_,_,func94,rfl,rfl,by kernel_rfl,by kernel_rfl⟩,by kernel_rfl,aA rfl,rfl⟩

def x95:XFn:=⟨16,[(4,none)],false,false,
 (.seq (.reg [] false [⟨0,some 4,.mv (.c .nilpt),none⟩]) (.seq (.reg [] false [⟨0,some 6,.mv (.t 0),none⟩,⟨0,some 7,.nilck (.t 6),none⟩,
 ⟨0,some 8,.fld 1 (.t 7),none⟩,⟨0,some 9,.load false 1 (.t 8),none⟩,⟨0,some 10,.mv (.t 1),none⟩,⟨0,some 11,(.lookup true false
 .nilpt (.t 9) (.t 10)),none⟩,⟨0,some 5,.mv (.t 11),none⟩]) (.seq (.reg [] false [⟨0,some 12,.mv (.t 5),none⟩,⟨0,some 13,(.eqn 3 true
 (.t 12) (.c .nilpt)),none⟩,⟨0,some 14,(.callf false (.c (.fn (.func 58) [] [])) [.t 13,.c (.int .i64 5)] []),none⟩]) (.seq (.reg [] false [⟨0,
 (some 15),.mv (.t 5),none⟩,⟨0,some 4,.mv (.t 15),none⟩]) .ret)))),none,none⟩
theorem aPg:aN prog (95,x95):=⟨⟨fun vs w=>call95 vs w,_,_,func95,rfl,rfl,by kernel_rfl,by kernel_rfl⟩,by kernel_rfl,aA rfl,rfl⟩

def x96:XFn:=⟨16,[(4,none)],false,false,
 (.seq (.reg [] false [⟨0,some 4,.mv (.c .nilpt),none⟩]) (.seq (.reg [] false [⟨0,some 6,.mv (.t 0),none⟩,⟨0,some 7,.nilck (.t 6),none⟩,
 ⟨0,some 8,.fld 1 (.t 7),none⟩,⟨0,some 9,.load false 1 (.t 8),none⟩,⟨0,some 10,.mv (.t 1),none⟩,⟨0,some 11,(.lookup true false
 .nilpt (.t 9) (.t 10)),none⟩,⟨0,some 5,.mv (.t 11),none⟩]) (.seq (.reg [] false [⟨0,some 12,.mv (.t 5),none⟩,⟨0,some 13,(.eqn 3 true
 (.t 12) (.c .nilpt)),none⟩,⟨0,some 14,(.callf false (.c (.fn (.func 58) [] [])) [.t 13,.c (.int .i64 5)] []),none⟩]) (.seq (.reg [] false [⟨0,
 (some 15),.mv (.t 5),none⟩,⟨0,some 4,.mv (.t 15),none⟩]) .ret)))),none,none⟩
theorem aPf:aN prog (96,x96):=⟨⟨fun vs w=>call96 vs w,_,_,func96,rfl,rfl,by kernel_rfl,by kernel_rfl⟩,by kernel_rfl,aA rfl,rfl⟩

def x97:XFn:=⟨16,[(4,none)],false,false,
 (.seq (.reg [] false [⟨0,some 4,.mv (.c .nilpt),none⟩]) (.seq (.reg [] false [⟨0,some 6,.mv (.t 0),none⟩,⟨0,some 7,.nilck (.t 6),none⟩,
 ⟨0,some 8,.fld 1 (.t 7),none⟩,⟨0,some 9,.load false 1 (.t 8),none⟩,⟨0,some 10,.mv (.t 1),none⟩,⟨0,some 11,(.lookup true false
 .nilpt (.t 9) (.t 10)),none⟩,⟨0,some 5,.mv (.t 11),none⟩]) (.seq (.reg [] false [⟨0,some 12,.mv (.t 5),none⟩,⟨0,some 13,(.eqn 3 true
 (.t 12) (.c .nilpt)),none⟩,⟨0,some 14,(.callf false (.c (.fn (.func 58) [] [])) [.t 13,.c (.int .i64 5)] []),none⟩]) (.seq (.reg [] false [⟨0,
 (some 15),.mv (.t 5),none⟩,⟨0,some 4,.mv (.t 15),none⟩]) .ret)))),none,none⟩
theorem aPe:aN prog (97,x97):=⟨⟨fun vs w=>call97 vs w,_,_,func97,rfl,rfl,by kernel_rfl,by kernel_rfl⟩,by kernel_rfl,aA rfl,rfl⟩

def aJZ:XCode :=
 (.loop [0,1,5,6,7,26,27,28] (.seq (.reg [] false [⟨0,some 29,.bin .lss (.t 28) (.t 27),none⟩]) (.seq (.cond (.t 29) .skip (.exit 0)) (.seq
 (.block 1 (.seq (.reg [] false [⟨0,some 30,.mv (.t 28),none⟩,⟨0,some 31,.idx 1 (.t 26) (.t 28),none⟩,⟨0,some 32,.load false 1 (.t 31),
 none⟩,⟨0,some 8,.mv (.t 30),none⟩,⟨0,some 9,.mv (.t 32),none⟩]) (.seq (.reg [] false [⟨0,some 33,.mv (.t 0),none⟩,⟨0,some 34,
 (.nilck (.t 33)),none⟩,⟨0,some 35,.fld 0 (.t 34),none⟩,⟨0,some 36,.load false 1 (.t 35),none⟩,⟨0,some 37,.mv (.t 9),none⟩,⟨0,
 (some 38),(.callf false (.c (.fn (.func 95) [] [])) [.t 36,.t 37] []),none⟩,⟨0,some 39,.nilck (.t 38),none⟩,⟨0,some 40,.fld 0 (.t 39),
 none⟩,⟨0,some 41,.load false 1 (.t 40),none⟩,⟨0,some 42,.bin .quo (.t 41) (.c (.int .i64 1000)),none⟩,⟨0,some 10,.mv (.t 42),none⟩])
 (.seq (.reg [] false [⟨0,some 43,.fld 1 (.t 5),none⟩,⟨0,some 44,.load false 1 (.t 43),none⟩,⟨0,some 45,.mv (.t 10),none⟩,⟨0,(some
 46),(.bslice 1 1 [.int .i64 0] [(0,(1,(.t 45)))]),none⟩,⟨0,some 47,.app 1 8 (.t 44) (.t 46),none⟩,⟨0,some 48,.fld 1 (.t 5),none⟩,⟨0,
 none,(.store 1 (.t 48) (.t 47) []),none⟩]) (.seq (.reg [] false [⟨0,some 49,.mv (.t 7),none⟩,⟨0,some 50,.mv (.t 10),none⟩,⟨0,some 51,
 (.bin .add (.t 49) (.t 50)),none⟩,⟨0,some 7,.mv (.t 51),none⟩]) (.seq (.reg [] false [⟨0,some 52,.mv (.t 9),none⟩,⟨0,some 53,.mv (.t
 1),none⟩,⟨0,some 54,.bin .eql (.t 52) (.t 53),none⟩]) (.cond (.t 54) (.reg [] false [⟨0,some 55,.mv (.t 8),none⟩,⟨0,some 6,.mv (.t
 55),none⟩]) .skip))))))) (.reg [] false [⟨0,some 56,.bin .add (.t 28) (.c (.int .i64 1)),none⟩,⟨0,some 28,.mv (.t 56),none⟩])))))
def x98:XFn:=⟨72,[(4,none)],false,false,
 (.seq (.reg [] false [⟨0,some 4,.mv (.c (.int .i64 0)),none⟩]) (.seq (.reg [] false [⟨0,some 13,.mv (.t 0),none⟩,⟨0,some 14,.nilck (.t
 13),none⟩,⟨0,some 15,.fld 0 (.t 14),none⟩,⟨0,some 16,.load false 1 (.t 15),none⟩,⟨0,some 17,.mv (.t 1),none⟩,⟨0,some 18,
 (.callf false (.c (.fn (.func 95) [] [])) [.t 16,.t 17] []),none⟩]) (.seq (.reg [] false [⟨0,some 19,(.build [.int .i64 0,.nilsl] []),none⟩,
 ⟨0,some 5,(.alloc [.int .i64 0,.nilsl]),none⟩,⟨0,none,(.store 2 (.t 5) (.t 19) []),none⟩]) (.seq (.reg [] false [⟨0,some 6,.mv (.c (.int
 .i64 0)),none⟩,⟨0,some 7,.mv (.c (.int .i64 0)),none⟩]) (.seq (.seq (.reg [] false [⟨0,some 20,.mv (.t 0),none⟩,⟨0,some 21,.nilck (.t
 20),none⟩,⟨0,some 22,.fld 0 (.t 21),none⟩,⟨0,some 23,.load false 1 (.t 22),none⟩,⟨0,some 24,.nilck (.t 23),none⟩,⟨0,some 25,
 (.fld 0 (.t 24)),none⟩,⟨0,some 26,.load false 1 (.t 25),none⟩,⟨0,some 27,.len false (.t 26),none⟩,⟨0,some 28,.mv (.c (.int .i64 0)),
 none⟩]) (.block 0 aJZ)) (.seq (.reg [] false [⟨0,some 57,.mv (.t 7),none⟩,⟨0,some 58,.bin .quo (.t 57) (.c (.int .i64 2)),none⟩,⟨0,(some
 59),.bin .add (.t 58) (.c (.int .i64 1)),none⟩,⟨0,some 60,.fld 0 (.t 5),none⟩,⟨0,none,(.store 1 (.t 60) (.t 59) []),none⟩]) (.seq (.reg []
 false [⟨0,some 62,.load true 2 (.t 5),none⟩,⟨0,some 63,(.bslice 2 1 [.int .i64 0,.nilsl] [(0,(2,(.t 62)))]),none⟩,⟨0,some 64,(.build
 [.nilsl] [(0,(1,(.t 63)))]),none⟩,⟨0,some 65,(.callf false (.c (.fn (.func 137) [] [])) [.t 64] []),none⟩,⟨0,some 61,.mv (.t 65),none⟩,
 ⟨0,some 66,.ext (.t 61) 0,none⟩,⟨0,some 67,.ext (.t 61) 1,none⟩,⟨0,some 11,.mv (.t 66),none⟩,⟨0,some 12,.mv (.t 67),none⟩])
 (.seq (.reg [] false [⟨0,some 68,.mv (.t 11),none⟩,⟨0,some 69,.mv (.t 6),none⟩,⟨0,some 70,.idx 1 (.t 68) (.t 69),none⟩,⟨0,(some
 71),.load false 1 (.t 70),none⟩,⟨0,some 4,.mv (.t 71),none⟩]) .ret)))))))),none,none⟩
theorem aPd:aN prog (98,x98):=⟨⟨fun vs w=>call98 vs w,_,_,func98,rfl,rfl,by kernel_rfl,by kernel_rfl⟩,by kernel_rfl,aA rfl,rfl⟩

def aIP:XCode :=
 (.loop [0,3,4] (.seq (.seq (.reg [] false [⟨0,some 10,.mv (.t 4),none⟩,⟨0,some 11,.len false (.t 10),none⟩,⟨0,some 12,(.bin .gtr (.t 11)
 (.c (.int .i64 0))),none⟩]) (.cond (.t 12) .skip (.exit 0))) (.block 1 (.seq (.reg [] false [⟨0,some 13,.mv (.t 4),none⟩,⟨0,some 14,(.len false
 (.t 13)),none⟩,⟨0,some 15,.mm false (.t 14) (.c (.int .i64 5)),none⟩,⟨0,some 5,.mv (.t 15),none⟩]) (.seq (.seq (.reg [] false [⟨0,(some
 16),.mv (.t 0),none⟩,⟨0,some 17,.mv (.t 3),none⟩,⟨0,some 18,.mv (.t 4),none⟩,⟨0,some 19,.mv (.t 5),none⟩,⟨0,some 20,(.slsl
 1 (.t 18) none (some (.t 19))),none⟩,⟨0,some 21,(.callf false (.t 16) [.t 17,.t 20] []),none⟩,⟨0,some 22,.not (.t 21),none⟩]) (.cond (.t
 22) .ret .skip)) (.seq (.reg [] false [⟨0,some 23,.mv (.t 3),none⟩,⟨0,some 24,.mv (.t 5),none⟩,⟨0,some 25,.bin .add (.t 24) (.c (.int
 .i64 1)),none⟩,⟨0,some 26,.bin .add (.t 23) (.t 25),none⟩,⟨0,some 3,.mv (.t 26),none⟩]) (.reg [] false [⟨0,some 27,.mv (.t 4),
 none⟩,⟨0,some 28,.mv (.t 5),none⟩,⟨0,some 29,.slsl 1 (.t 27) (some (.t 28)) none,none⟩,⟨0,some 4,.mv (.t 29),none⟩])))))))
def aLk:XFn:=⟨30,[],false,false,
 (.seq (.reg [] false [⟨0,some 3,.mv (.c (.int .i64 0)),none⟩]) (.seq (.reg [] false [⟨0,some 6,.load false 1 (.t 1),none⟩,⟨0,some 7,(.nilck
 (.t 6)),none⟩,⟨0,some 8,.fld 6 (.t 7),none⟩,⟨0,some 9,.load false 1 (.t 8),none⟩,⟨0,some 4,.mv (.t 9),none⟩]) (.block 0 aIP))),none,none⟩
theorem aMX:aN prog (116,aLk):=⟨⟨fun vs w=>call116 vs w,_,_,func116,rfl,rfl,by kernel_rfl,by kernel_rfl⟩,by kernel_rfl,aA rfl,rfl⟩

def aEK:XCode :=
 (.loop [5,10,11] (.seq (.reg [] false [⟨0,some 12,.bin .lss (.t 11) (.c (.int .i64 40)),none⟩]) (.seq (.cond (.t 12) .skip (.exit 0)) (.seq (.block 1
 (.seq (.reg [] false [⟨0,some 13,.mv (.t 11),none⟩,⟨0,some 14,.idxv false 40 1 (.t 10) (.t 11),none⟩,⟨0,some 6,.mv (.t 13),none⟩,⟨0,
 (some 7),.mv (.t 14),none⟩]) (.reg [] false [⟨0,some 15,.mv (.t 5),none⟩,⟨0,some 16,.mv (.t 6),none⟩,⟨0,some 17,(.bin .add (.t 16)
 (.c (.int .i64 1))),none⟩,⟨0,some 18,.mv (.t 7),none⟩,⟨0,some 19,.bin .sub (.t 18) (.c (.int .u8 32)),none⟩,⟨0,some 20,.conv .i64 (.t
 19),none⟩,⟨0,some 21,.bin .mul (.t 17) (.t 20),none⟩,⟨0,some 22,.bin .add (.t 15) (.t 21),none⟩,⟨0,some 5,.mv (.t 22),none⟩])))
 (.reg [] false [⟨0,some 23,.bin .add (.t 11) (.c (.int .i64 1)),none⟩,⟨0,some 11,.mv (.t 23),none⟩])))))
def x119:XFn:=⟨33,[(4,none)],false,false,
 (.seq (.reg [] false [⟨0,some 2,.box (.t 0),none⟩,⟨0,some 4,.mv (.c (.str ⟨#[]⟩)),none⟩]) (.seq (.reg [] false [⟨0,some 9,.mv (.t 1),
 none⟩,⟨0,some 5,.mv (.t 9),none⟩]) (.seq (.seq (.reg [] false [⟨0,some 10,.load true 40 (.t 2),none⟩,⟨0,some 11,.mv (.c (.int .i64
 0)),none⟩]) (.block 0 aEK)) (.seq (.reg [] false [⟨0,some 24,.mv (.t 5),none⟩,⟨0,some 25,.bin .rem (.t 24) (.c (.int .i64 9973)),none⟩,
 ⟨0,some 26,(.callf false (.c (.fn (.func 57) [] [])) [.t 25] []),none⟩,⟨0,some 8,.mv (.t 26),none⟩]) (.seq (.reg [] false [⟨0,some 27,
 (.mv (.t 8)),none⟩,⟨0,some 28,.len true (.t 27),none⟩,⟨0,some 29,.bin .sub (.c (.int .i64 4)) (.t 28),none⟩,⟨0,some 30,(.callf false
 (.c (.fn (.func 143) [] [])) [.c (.str ⟨#[48]⟩),.t 29] []),none⟩,⟨0,some 31,.mv (.t 8),none⟩,⟨0,some 32,.bin .add (.t 30) (.t 31),
 none⟩,⟨0,some 4,.mv (.t 32),none⟩]) .ret))))),none,none⟩
theorem aMW:aN prog (119,x119):=⟨⟨fun vs w=>call119 vs w,_,_,func119,rfl,rfl,by kernel_rfl,by kernel_rfl⟩,by kernel_rfl,aA rfl,rfl⟩

def aIO:XCode :=
 (.loop [5,6,47,48,49] (.seq (.reg [] false [⟨0,some 50,.bin .lss (.t 49) (.t 48),none⟩]) (.seq (.cond (.t 50) .skip (.exit 0)) (.seq (.block 1
 (.seq (.reg [] false [⟨0,some 51,.idx 1 (.t 47) (.t 49),none⟩,⟨0,some 52,.load false 1 (.t 51),none⟩,⟨0,some 8,.mv (.t 52),none⟩])
 (.seq (.reg [] false [⟨0,some 53,.mv (.t 8),none⟩,⟨0,some 54,.bin .sub (.t 53) (.c (.int .u8 48)),none⟩,⟨0,some 8,.mv (.t 54),none⟩])
 (.seq (.seq (.reg [] false [⟨0,some 55,.mv (.t 8),none⟩,⟨0,some 56,.bin .gtr (.t 55) (.c (.int .u8 9)),none⟩]) (.cond (.t 56) (.seq (.reg []
 false [⟨0,some 57,.mkifc 229 (.c (.int .i64 2)),none⟩,⟨0,some 2,.mv (.c (.int .i64 0)),none⟩,⟨0,some 3,.mv (.t 57),none⟩]) .ret)
 .skip)) (.reg [] false [⟨0,some 58,.mv (.t 6),none⟩,⟨0,some 59,.bin .mul (.t 58) (.c (.int .i64 10)),none⟩,⟨0,some 60,.mv (.t 8),
 none⟩,⟨0,some 61,.conv .i64 (.t 60),none⟩,⟨0,some 62,.bin .add (.t 59) (.t 61),none⟩,⟨0,some 6,.mv (.t 62),none⟩]))))) (.reg []
 false [⟨0,some 63,.bin .add (.t 49) (.c (.int .i64 1)),none⟩,⟨0,some 49,.mv (.t 63),none⟩])))))
def aLj:XFn:=⟨77,[(2,none),(3,none)],false,false,
 (.seq (.reg [] false [⟨0,some 2,.mv (.c (.int .i64 0)),none⟩,⟨0,some 3,.mv (.c .nilifc),none⟩]) (.seq (.reg [] false [⟨0,some 11,.mv (.t
 0),none⟩,⟨0,some 12,.len true (.t 11),none⟩,⟨0,some 4,.mv (.t 12),none⟩]) (.seq (.seq (.reg [] false [⟨0,some 13,.mv (.c (.bool
 false)),none⟩,⟨0,some 14,.mv (.t 4),some (13,true)⟩,⟨0,some 15,.bin .lss (.c (.int .i64 0)) (.t 14),some (13,true)⟩,⟨0,some 16,
 (.mv (.t 15)),some (13,true)⟩,⟨0,some 17,.mv (.t 4),some (16,true)⟩,⟨0,some 18,.bin .lss (.t 17) (.c (.int .i64 10)),some (16,
 true)⟩,⟨0,some 19,.pick (.t 16) (.t 18) (.c (.bool false)),some (13,true)⟩,⟨0,some 20,.pick (.t 13) (.t 19) (.c (.bool false)),none⟩,
 ⟨0,some 21,.mv (.t 20),none⟩,⟨0,some 22,.mv (.c (.bool true)),some (21,false)⟩,⟨0,some 23,.mv (.t 4),some (22,true)⟩,⟨0,(some
 24),.bin .lss (.c (.int .i64 0)) (.t 23),some (22,true)⟩,⟨0,some 25,.mv (.t 24),some (22,true)⟩,⟨0,some 26,.mv (.t 4),some (25,
 true)⟩,⟨0,some 27,.bin .lss (.t 26) (.c (.int .i64 19)),some (25,true)⟩,⟨0,some 28,.pick (.t 25) (.t 27) (.c (.bool false)),some (22,
 true)⟩,⟨0,some 29,.pick (.t 22) (.t 28) (.c (.bool false)),some (21,false)⟩,⟨0,some 30,.pick (.t 21) (.c (.bool true)) (.t 29),none⟩])
 (.cond (.t 30) (.seq (.reg [] false [⟨0,some 31,.mv (.t 0),none⟩,⟨0,some 5,.mv (.t 31),none⟩]) (.seq (.seq (.reg [] false [⟨0,some 32,
 (.mv (.t 0)),none⟩,⟨0,some 33,.idxs (.t 32) (.c (.int .i64 0)),none⟩,⟨0,some 34,.bin .eql (.t 33) (.c (.int .u8 45)),none⟩,⟨0,some 35,
 (.mv (.t 34)),none⟩,⟨0,some 36,.mv (.t 0),some (35,false)⟩,⟨0,some 37,.idxs (.t 36) (.c (.int .i64 0)),some (35,false)⟩,⟨0,(some
 38),.bin .eql (.t 37) (.c (.int .u8 43)),some (35,false)⟩,⟨0,some 39,.pick (.t 35) (.c (.bool true)) (.t 38),none⟩]) (.cond (.t 39) (.seq
 (.reg [] false [⟨0,some 40,.mv (.t 0),none⟩,⟨0,some 41,.slstr (.t 40) (some (.c (.int .i64 1))) none,none⟩,⟨0,some 0,.mv (.t 41),
 none⟩]) (.seq (.reg [] false [⟨0,some 42,.mv (.t 0),none⟩,⟨0,some 43,.len true (.t 42),none⟩,⟨0,some 44,.bin .lss (.t 43) (.c (.int
 .i64 1)),none⟩]) (.cond (.t 44) (.seq (.reg [] false [⟨0,some 45,.mkifc 229 (.c (.int .i64 2)),none⟩,⟨0,some 2,.mv (.c (.int .i64 0)),
 none⟩,⟨0,some 3,.mv (.t 45),none⟩]) .ret) .skip))) .skip)) (.seq (.reg [] false [⟨0,some 6,.mv (.c (.int .i64 0)),none⟩]) (.seq (.seq (.reg
 [] false [⟨0,some 46,.mv (.t 0),none⟩,⟨0,some 47,.bytes (.t 46),none⟩,⟨0,some 48,.len false (.t 47),none⟩,⟨0,some 49,.mv (.c
 (.int .i64 0)),none⟩]) (.block 0 aIO)) (.seq (.seq (.reg [] false [⟨0,some 64,.mv (.t 5),none⟩,⟨0,some 65,.idxs (.t 64) (.c (.int .i64
 0)),none⟩,⟨0,some 66,.bin .eql (.t 65) (.c (.int .u8 45)),none⟩]) (.cond (.t 66) (.reg [] false [⟨0,some 67,.mv (.t 6),none⟩,⟨0,(some
 68),.neg (.t 67),none⟩,⟨0,some 6,.mv (.t 68),none⟩]) .skip)) (.seq (.reg [] false [⟨0,some 69,.mv (.t 6),none⟩,⟨0,some 2,.mv (.t
 69),none⟩,⟨0,some 3,.mv (.c .nilifc),none⟩]) .ret)))))) .skip)) (.seq (.reg [] false [⟨0,some 71,.mv (.t 0),none⟩,⟨0,some 72,(.callf
 false (.c (.fn (.func 154) [] [])) [.t 71,.c (.int .i64 10),.c (.int .i64 0)] []),none⟩,⟨0,some 70,.mv (.t 72),none⟩,⟨0,some 73,(.ext
 (.t 70) 0),none⟩,⟨0,some 74,.ext (.t 70) 1,none⟩,⟨0,some 9,.mv (.t 73),none⟩,⟨0,some 10,.mv (.t 74),none⟩]) (.seq (.reg [] false
 [⟨0,some 75,.mv (.t 9),none⟩,⟨0,some 76,.mv (.t 10),none⟩,⟨0,some 2,.mv (.t 75),none⟩,⟨0,some 3,.mv (.t 76),none⟩]) .ret))))),none,none⟩
theorem aMV:aN prog (126,aLj):=⟨⟨fun vs w=>call126 vs w,_,_,func126,rfl,rfl,by kernel_rfl,by kernel_rfl⟩,by kernel_rfl,aA rfl,rfl⟩

def aLi:XFn:=⟨43,[(10,none)],false,false,
 (.seq (.reg [] false [⟨0,some 10,.mv (.c .nilifc),none⟩]) (.seq (.seq (.reg [] false [⟨0,some 11,.mv (.t 4),none⟩]) (.block 0 (.seq (.reg []
 false [⟨0,some 13,.mkifc 229 (.c (.int .i64 2)),none⟩,⟨0,some 14,.eqn 4 false (.t 11) (.t 13),none⟩,⟨0,some 12,.mv (.t 14),none⟩])
 (.cond (.t 12) (.seq (.reg [(0,false),(1,false)] false [⟨0,some 15,.mv (.t 0),none⟩,⟨0,some 16,.mv (.t 1),none⟩,⟨0,some 17,(.callf
 false (.c (.fn (.func 155) [] [])) [.t 15,.t 16] []),none⟩,⟨0,some 18,.mkifc 232 (.t 17),none⟩,⟨0,some 10,.mv (.t 18),none⟩]) .ret)
 (.seq (.reg [] false [⟨0,some 20,.mkifc 229 (.c (.int .i64 1)),none⟩,⟨0,some 21,.eqn 4 false (.t 11) (.t 20),none⟩,⟨0,some 19,.mv (.t
 21),none⟩]) (.cond (.t 19) (.seq (.reg [(0,false),(1,false)] false [⟨0,some 22,.mv (.t 0),none⟩,⟨0,some 23,.mv (.t 1),none⟩,⟨0,(some
 24),(.callf false (.c (.fn (.func 156) [] [])) [.t 22,.t 23] []),none⟩,⟨0,some 25,.mkifc 232 (.t 24),none⟩,⟨0,some 10,.mv (.t 25),
 none⟩]) .ret) (.seq (.reg [] false [⟨0,some 27,.mkifc 229 (.c (.int .i64 3)),none⟩,⟨0,some 28,.eqn 4 false (.t 11) (.t 27),none⟩,⟨0,(some
 26),.mv (.t 28),none⟩]) (.cond (.t 26) (.seq (.reg [(0,false),(1,false),(2,false)] false [⟨0,some 29,.mv (.t 0),none⟩,⟨0,some 30,(.mv
 (.t 1)),none⟩,⟨0,some 31,.mv (.t 2),none⟩,⟨0,some 32,(.callf false (.c (.fn (.func 157) [] [])) [.t 29,.t 30,.t 31] []),none⟩,⟨0,
 (some 33),.mkifc 232 (.t 32),none⟩,⟨0,some 10,.mv (.t 33),none⟩]) .ret) (.seq (.reg [] false [⟨0,some 35,.mkifc 229 (.c (.int .i64 4)),
 none⟩,⟨0,some 36,.eqn 4 false (.t 11) (.t 35),none⟩,⟨0,some 34,.mv (.t 36),none⟩]) (.cond (.t 34) (.seq (.reg [(0,false),(1,false),(3,
 false)] false [⟨0,some 37,.mv (.t 0),none⟩,⟨0,some 38,.mv (.t 1),none⟩,⟨0,some 39,.mv (.t 3),none⟩,⟨0,some 40,(.callf false (.c
 (.fn (.func 158) [] [])) [.t 37,.t 38,.t 39] []),none⟩,⟨0,some 41,.mkifc 232 (.t 40),none⟩,⟨0,some 10,.mv (.t 41),none⟩]) .ret)
 .skip)))))))))) (.seq (.reg [] false [⟨0,some 42,.mv (.t 4),none⟩,⟨0,some 10,.mv (.t 42),none⟩]) .ret))),none,none⟩
theorem aMU:aN prog (127,aLi):=⟨⟨fun vs w=>call127 vs w,_,_,func127,rfl,rfl,by kernel_rfl,by kernel_rfl⟩,by kernel_rfl,aA rfl,rfl⟩

def aLh:XFn:=⟨48,[],false,false,
 (.seq (.seq (.reg [] true [⟨0,some 9,.load false 1 (.t 0),none⟩,⟨1,some 10,.nilck (.t 9),none⟩,⟨2,some 11,.fld 3 (.t 10),none⟩,⟨3,
 (some 12),.load false 1 (.t 11),none⟩,⟨4,some 13,.load false 1 (.t 1),none⟩,⟨5,some 14,(.callf false (.c (.fn (.func 129) [] [])) [.t 12,
 (.t 13)] []),none⟩,⟨6,some 8,.mv (.t 14),none⟩,⟨7,some 15,.ext (.t 8) 0,none⟩,⟨8,some 16,.ext (.t 8) 1,none⟩,⟨9,some 6,(.mv
 (.t 15)),none⟩,⟨10,some 7,.mv (.t 16),none⟩]) (.seq (.reg [] false [⟨0,some 17,.mv (.t 7),none⟩]) (.cond (.t 17) (.reg [] false [⟨0,(some
 18),.mv (.t 6),none⟩,⟨0,some 19,.load false 1 (.t 2),none⟩,⟨0,some 20,.nilck (.t 18),none⟩,⟨0,some 21,.fld 0 (.t 20),none⟩,⟨0,
 none,(.store 1 (.t 21) (.t 19) []),none⟩]) .skip))) (.seq (.reg [] true [⟨0,some 22,.load false 1 (.t 3),none⟩,⟨1,some 23,.nilck (.t 22),
 none⟩,⟨2,some 24,.fld 0 (.t 23),none⟩,⟨3,some 25,.load false 1 (.t 24),none⟩,⟨4,some 26,.load false 1 (.t 4),none⟩,⟨5,some 27,
 (.load false 1 (.t 2)),none⟩,⟨6,some 28,.bin .sub (.t 26) (.t 27),none⟩,⟨7,some 29,.bin .add (.t 25) (.t 28),none⟩,⟨8,some 30,(.nilck
 (.t 22)),none⟩,⟨9,some 31,.fld 0 (.t 30),none⟩,⟨10,none,(.store 1 (.t 31) (.t 29) []),none⟩]) (.reg [] true [⟨0,some 32,.load false 1 (.t
 0),none⟩,⟨1,some 33,.load false 1 (.t 0),none⟩,⟨2,some 34,.nilck (.t 33),none⟩,⟨3,some 35,.fld 4 (.t 34),none⟩,⟨4,some 36,
 (.load false 1 (.t 35)),none⟩,⟨5,some 37,.load false 1 (.t 1),none⟩,⟨6,some 38,.load false 1 (.t 5),none⟩,⟨7,some 39,(.load false 1
 (.t 4)),none⟩,⟨8,some 40,.load false 1 (.t 2),none⟩,⟨9,some 41,.bin .sub (.t 39) (.t 40),none⟩,⟨10,some 42,(.build [(.str ⟨#[]⟩),
 (.str ⟨#[]⟩),.int .i64 0,.bool false,.bool false] [(0,(1,(.t 37))),(1,(1,(.t 38))),(2,(1,(.t 41)))]),none⟩,⟨11,some 43,.box (.t
 42),none⟩,⟨12,some 44,(.bslice 1 1 [.nilpt] [(0,(1,(.t 43)))]),none⟩,⟨13,some 45,.app 1 8 (.t 36) (.t 44),none⟩,⟨14,some 46,(.nilck
 (.t 32)),none⟩,⟨15,some 47,.fld 4 (.t 46),none⟩,⟨16,none,(.store 1 (.t 47) (.t 45) []),none⟩]))),none,none⟩
theorem aMT:aN prog (128,aLh):=⟨⟨fun vs w=>call128 vs w,_,_,func128,rfl,rfl,by kernel_rfl,by kernel_rfl⟩,by kernel_rfl,aA rfl,rfl⟩

def aLg:XFn:=⟨38,[(4,none),(5,none)],false,false,
 (.seq (.reg [] false [⟨0,some 4,.mv (.c .nilpt),none⟩,⟨0,some 5,.mv (.c (.bool false)),none⟩]) (.seq (.seq (.reg [] false [⟨0,some 7,(.mv
 (.t 0)),none⟩,⟨0,some 8,.nilck (.t 7),none⟩,⟨0,some 9,.fld 1 (.t 8),none⟩,⟨0,some 10,.load false 1 (.t 9),none⟩,⟨0,some 11,
 (.mv (.t 1)),none⟩,⟨0,some 12,.lookup true false .nilpt (.t 10) (.t 11),none⟩,⟨0,some 6,.mv (.t 12),none⟩]) (.seq (.reg [] false [⟨0,(some
 13),.mv (.t 6),none⟩,⟨0,some 14,.eqn 3 true (.t 13) (.c .nilpt),none⟩]) (.cond (.t 14) (.seq (.reg [] false [⟨0,some 15,.mv (.t 6),none⟩,
 ⟨0,some 4,.mv (.t 15),none⟩,⟨0,some 5,.mv (.c (.bool false)),none⟩]) .ret) .skip))) (.seq (.reg [] false [⟨0,some 16,.mv (.t 0),none⟩,
 ⟨0,some 17,.mv (.t 0),none⟩,⟨0,some 18,.nilck (.t 17),none⟩,⟨0,some 19,.fld 0 (.t 18),none⟩,⟨0,some 20,.load false 1 (.t 19),
 none⟩,⟨0,some 21,.mv (.t 1),none⟩,⟨0,some 22,(.bslice 1 1 [(.str ⟨#[]⟩)] [(0,(1,(.t 21)))]),none⟩,⟨0,some 23,.app 1 16 (.t 20) (.t
 22),none⟩,⟨0,some 24,.nilck (.t 16),none⟩,⟨0,some 25,.fld 0 (.t 24),none⟩,⟨0,none,(.store 1 (.t 25) (.t 23) []),none⟩]) (.seq (.reg []
 false [⟨0,some 26,.mv (.t 0),none⟩,⟨0,some 27,.nilck (.t 26),none⟩,⟨0,some 28,.fld 1 (.t 27),none⟩,⟨0,some 29,.load false 1 (.t
 28),none⟩,⟨0,some 30,.mv (.t 1),none⟩,⟨0,some 31,(.alloc [.int .i64 0]),none⟩,⟨0,none,.mapup true (.t 29) (.t 30) (.t 31),none⟩])
 (.seq (.reg [] false [⟨0,some 32,.mv (.t 0),none⟩,⟨0,some 33,.nilck (.t 32),none⟩,⟨0,some 34,.fld 1 (.t 33),none⟩,⟨0,some 35,
 (.load false 1 (.t 34)),none⟩,⟨0,some 36,.mv (.t 1),none⟩,⟨0,some 37,.lookup true false .nilpt (.t 35) (.t 36),none⟩,⟨0,some 4,(.mv
 (.t 37)),none⟩,⟨0,some 5,.mv (.c (.bool true)),none⟩]) .ret))))),none,none⟩
theorem aMS:aN prog (129,aLg):=⟨⟨fun vs w=>call129 vs w,_,_,func129,rfl,rfl,by kernel_rfl,by kernel_rfl⟩,by kernel_rfl,aA rfl,rfl⟩

def aLf:XFn:=⟨24,[],false,false,
 (.seq (.reg [] false [⟨0,some 2,.load false 1 (.t 0),none⟩,⟨0,some 3,.nilck (.t 2),none⟩,⟨0,some 4,.fld 3 (.t 3),none⟩,⟨0,none,
 (.store 1 (.t 4) (.c (.bool true)) []),none⟩]) (.reg [] true [⟨0,some 5,.load false 1 (.t 1),none⟩,⟨1,some 6,.nilck (.t 5),none⟩,⟨2,(some
 7),.fld 0 (.t 6),none⟩,⟨3,some 8,.load false 1 (.t 7),none⟩,⟨4,some 9,.load false 1 (.t 0),none⟩,⟨5,some 10,.nilck (.t 9),none⟩,
 ⟨6,some 11,.fld 1 (.t 10),none⟩,⟨7,some 12,.load false 1 (.t 11),none⟩,⟨12,some 17,.load false 1 (.t 0),none⟩,⟨13,some 18,
 (.nilck (.t 17)),none⟩,⟨14,some 19,.fld 2 (.t 18),none⟩,⟨15,some 20,.load false 1 (.t 19),none⟩,⟨8,some 13,(.callf false (.c (.fn
 (.func 95) [] [])) [.t 8,.t 12] [12,15]),none⟩,⟨9,some 14,.nilck (.t 13),none⟩,⟨10,some 15,.fld 0 (.t 14),none⟩,⟨11,some 16,
 (.load false 1 (.t 15)),none⟩,⟨16,some 21,.bin .sub (.t 16) (.t 20),none⟩,⟨17,some 22,.nilck (.t 13),none⟩,⟨18,some 23,.fld 0 (.t
 22),none⟩,⟨19,none,(.store 1 (.t 23) (.t 21) []),none⟩])),none,none⟩
theorem aMR:aN prog (130,aLf):=⟨⟨fun vs w=>call130 vs w,_,_,func130,rfl,rfl,by kernel_rfl,by kernel_rfl⟩,by kernel_rfl,aA rfl,rfl⟩

def aLe:XFn:=⟨24,[(4,none)],false,false,
 (.seq (.reg [] false [⟨0,some 4,.mv (.c (.bool false)),none⟩]) (.seq (.reg [] true [⟨0,some 5,.mv (.t 0),none⟩,⟨1,some 6,.nilck (.t 5),
 none⟩,⟨2,some 7,.fld 1 (.t 6),none⟩,⟨3,some 8,.load false 1 (.t 7),none⟩,⟨4,some 9,.mv (.t 1),none⟩,⟨5,some 10,(.lookup true
 false .nilpt (.t 8) (.t 9)),none⟩,⟨6,some 11,.eqn 3 false (.t 10) (.c .nilpt),none⟩,⟨7,some 12,.mv (.t 11),none⟩,⟨8,some 13,.mv (.t
 0),some (12,true)⟩,⟨9,some 14,.nilck (.t 13),some (12,true)⟩,⟨10,some 15,.fld 0 (.t 14),some (12,true)⟩,⟨11,some 16,(.load
 false 1 (.t 15)),some (12,true)⟩,⟨12,some 17,.len false (.t 16),some (12,true)⟩,⟨13,some 18,.mv (.t 0),some (12,true)⟩,⟨14,(some
 19),.nilck (.t 18),some (12,true)⟩,⟨15,some 20,.fld 2 (.t 19),some (12,true)⟩,⟨16,some 21,.load false 1 (.t 20),some (12,
 true)⟩,⟨17,some 22,.bin .eql (.t 17) (.t 21),some (12,true)⟩,⟨18,some 23,.pick (.t 12) (.t 22) (.c (.bool false)),none⟩,⟨19,some 4,
 (.mv (.t 23)),none⟩]) .ret)),none,none⟩
theorem aMQ:aN prog (131,aLe):=⟨⟨fun vs w=>call131 vs w,_,_,func131,rfl,rfl,by kernel_rfl,by kernel_rfl⟩,by kernel_rfl,aA rfl,rfl⟩

def aLd:XFn:=⟨36,[],false,false,
 (.seq (.reg [] true [⟨0,some 6,.load false 1 (.t 0),none⟩,⟨1,some 7,.nilck (.t 6),none⟩,⟨2,some 8,.fld 1 (.t 7),none⟩,⟨3,some 9,
 (.load false 1 (.t 8)),none⟩,⟨4,some 10,.load false 1 (.t 1),none⟩,⟨5,some 11,(.callf false (.c (.fn (.func 133) [] [])) [.t 9,.t 10]
 []),none⟩,⟨6,some 5,.mv (.t 11),none⟩,⟨7,some 12,.ext (.t 5) 0,none⟩,⟨8,some 13,.ext (.t 5) 1,none⟩,⟨9,some 3,.mv (.t 12),
 none⟩,⟨10,some 4,.mv (.t 13),none⟩]) (.seq (.seq (.reg [] false [⟨0,some 14,.mv (.t 4),none⟩,⟨0,some 15,.not (.t 14),none⟩]) (.cond
 (.t 15) (.reg [] true [⟨0,some 16,.mv (.t 3),none⟩,⟨1,some 17,.nilck (.t 16),none⟩,⟨2,some 18,.fld 1 (.t 17),none⟩,⟨3,some 19,
 (.load false 1 (.t 18)),none⟩,⟨4,some 20,.load false 1 (.t 2),none⟩,⟨5,some 21,.mv (.t 3),none⟩,⟨6,some 22,.nilck (.t 21),none⟩,
 ⟨7,some 23,.fld 0 (.t 22),none⟩,⟨8,some 24,.load false 1 (.t 23),none⟩,⟨9,some 25,.bin .sub (.t 20) (.t 24),none⟩,⟨10,some 26,
 (.bin .add (.t 25) (.c (.int .i64 99999))),none⟩,⟨11,some 27,.bin .add (.t 26) (.c (.int .i64 1)),none⟩,⟨12,some 28,.bin .rem (.t 27) (.c
 (.int .i64 100000)),none⟩,⟨13,some 29,.bin .add (.t 19) (.t 28),none⟩,⟨14,some 30,.nilck (.t 16),none⟩,⟨15,some 31,.fld 1 (.t 30),
 none⟩,⟨16,none,(.store 1 (.t 31) (.t 29) []),none⟩]) .skip)) (.reg [] false [⟨0,some 32,.mv (.t 3),none⟩,⟨0,some 33,.load false 1 (.t 2),
 none⟩,⟨0,some 34,.nilck (.t 32),none⟩,⟨0,some 35,.fld 0 (.t 34),none⟩,⟨0,none,(.store 1 (.t 35) (.t 33) []),none⟩]))),none,none⟩
theorem aMP:aN prog (132,aLd):=⟨⟨fun vs w=>call132 vs w,_,_,func132,rfl,rfl,by kernel_rfl,by kernel_rfl⟩,by kernel_rfl,aA rfl,rfl⟩

def aLc:XFn:=⟨38,[(4,none),(5,none)],false,false,
 (.seq (.reg [] false [⟨0,some 4,.mv (.c .nilpt),none⟩,⟨0,some 5,.mv (.c (.bool false)),none⟩]) (.seq (.seq (.reg [] false [⟨0,some 7,(.mv
 (.t 0)),none⟩,⟨0,some 8,.nilck (.t 7),none⟩,⟨0,some 9,.fld 1 (.t 8),none⟩,⟨0,some 10,.load false 1 (.t 9),none⟩,⟨0,some 11,
 (.mv (.t 1)),none⟩,⟨0,some 12,.lookup true false .nilpt (.t 10) (.t 11),none⟩,⟨0,some 6,.mv (.t 12),none⟩]) (.seq (.reg [] false [⟨0,(some
 13),.mv (.t 6),none⟩,⟨0,some 14,.eqn 3 true (.t 13) (.c .nilpt),none⟩]) (.cond (.t 14) (.seq (.reg [] false [⟨0,some 15,.mv (.t 6),none⟩,
 ⟨0,some 4,.mv (.t 15),none⟩,⟨0,some 5,.mv (.c (.bool false)),none⟩]) .ret) .skip))) (.seq (.reg [] false [⟨0,some 16,.mv (.t 0),none⟩,
 ⟨0,some 17,.mv (.t 0),none⟩,⟨0,some 18,.nilck (.t 17),none⟩,⟨0,some 19,.fld 0 (.t 18),none⟩,⟨0,some 20,.load false 1 (.t 19),
 none⟩,⟨0,some 21,.mv (.t 1),none⟩,⟨0,some 22,(.bslice 1 1 [(.str ⟨#[]⟩)] [(0,(1,(.t 21)))]),none⟩,⟨0,some 23,.app 1 16 (.t 20) (.t
 22),none⟩,⟨0,some 24,.nilck (.t 16),none⟩,⟨0,some 25,.fld 0 (.t 24),none⟩,⟨0,none,(.store 1 (.t 25) (.t 23) []),none⟩]) (.seq (.reg []
 false [⟨0,some 26,.mv (.t 0),none⟩,⟨0,some 27,.nilck (.t 26),none⟩,⟨0,some 28,.fld 1 (.t 27),none⟩,⟨0,some 29,.load false 1 (.t
 28),none⟩,⟨0,some 30,.mv (.t 1),none⟩,⟨0,some 31,(.alloc [.int .i64 0,.int .i64 0]),none⟩,⟨0,none,.mapup true (.t 29) (.t 30) (.t
 31),none⟩]) (.seq (.reg [] false [⟨0,some 32,.mv (.t 0),none⟩,⟨0,some 33,.nilck (.t 32),none⟩,⟨0,some 34,.fld 1 (.t 33),none⟩,⟨0,
 (some 35),.load false 1 (.t 34),none⟩,⟨0,some 36,.mv (.t 1),none⟩,⟨0,some 37,.lookup true false .nilpt (.t 35) (.t 36),none⟩,⟨0,(some
 4),.mv (.t 37),none⟩,⟨0,some 5,.mv (.c (.bool true)),none⟩]) .ret))))),none,none⟩
theorem aMO:aN prog (133,aLc):=⟨⟨fun vs w=>call133 vs w,_,_,func133,rfl,rfl,by kernel_rfl,by kernel_rfl⟩,by kernel_rfl,aA rfl,rfl⟩

def aLb:XFn:=⟨24,[(4,none)],false,false,
 (.seq (.reg [] false [⟨0,some 4,.mv (.c (.bool false)),none⟩]) (.seq (.reg [] true [⟨0,some 5,.mv (.t 0),none⟩,⟨1,some 6,.nilck (.t 5),
 none⟩,⟨2,some 7,.fld 1 (.t 6),none⟩,⟨3,some 8,.load false 1 (.t 7),none⟩,⟨4,some 9,.mv (.t 1),none⟩,⟨5,some 10,(.lookup true
 false .nilpt (.t 8) (.t 9)),none⟩,⟨6,some 11,.eqn 3 false (.t 10) (.c .nilpt),none⟩,⟨7,some 12,.mv (.t 11),none⟩,⟨8,some 13,.mv (.t
 0),some (12,true)⟩,⟨9,some 14,.nilck (.t 13),some (12,true)⟩,⟨10,some 15,.fld 0 (.t 14),some (12,true)⟩,⟨11,some 16,(.load
 false 1 (.t 15)),some (12,true)⟩,⟨12,some 17,.len false (.t 16),some (12,true)⟩,⟨13,some 18,.mv (.t 0),some (12,true)⟩,⟨14,(some
 19),.nilck (.t 18),some (12,true)⟩,⟨15,some 20,.fld 2 (.t 19),some (12,true)⟩,⟨16,some 21,.load false 1 (.t 20),some (12,
 true)⟩,⟨17,some 22,.bin .eql (.t 17) (.t 21),some (12,true)⟩,⟨18,some 23,.pick (.t 12) (.t 22) (.c (.bool false)),none⟩,⟨19,some 4,
 (.mv (.t 23)),none⟩]) .ret)),none,none⟩
theorem aMN:aN prog (134,aLb):=⟨⟨fun vs w=>call134 vs w,_,_,func134,rfl,rfl,by kernel_rfl,by kernel_rfl⟩,by kernel_rfl,aA rfl,rfl⟩

def aLa:XFn:=⟨25,[],false,false,
 (.seq (.reg [] true [⟨0,some 7,.load false 1 (.t 0),none⟩,⟨1,some 8,.nilck (.t 7),none⟩,⟨2,some 9,.fld 2 (.t 8),none⟩,⟨3,some 10,
 (.load false 1 (.t 9)),none⟩,⟨4,some 11,.load false 1 (.t 1),none⟩,⟨5,some 12,(.callf false (.c (.fn (.func 136) [] [])) [.t 10,.t 11]
 []),none⟩,⟨6,some 6,.mv (.t 12),none⟩,⟨7,some 13,.ext (.t 6) 0,none⟩,⟨8,some 14,.ext (.t 6) 1,none⟩,⟨9,some 4,.mv (.t 13),
 none⟩,⟨10,some 5,.mv (.t 14),none⟩]) (.reg [] true [⟨0,some 15,.mv (.t 4),none⟩,⟨1,some 16,.nilck (.t 15),none⟩,⟨2,some 17,(.fld
 0 (.t 16)),none⟩,⟨3,some 18,.load false 1 (.t 17),none⟩,⟨4,some 19,.load false 1 (.t 2),none⟩,⟨5,some 20,.load false 1 (.t 3),
 none⟩,⟨6,some 21,.bin .sub (.t 19) (.t 20),none⟩,⟨7,some 22,.bin .add (.t 18) (.t 21),none⟩,⟨8,some 23,.nilck (.t 15),none⟩,⟨9,
 (some 24),.fld 0 (.t 23),none⟩,⟨10,none,(.store 1 (.t 24) (.t 22) []),none⟩])),none,none⟩
theorem aMM:aN prog (135,aLa):=⟨⟨fun vs w=>call135 vs w,_,_,func135,rfl,rfl,by kernel_rfl,by kernel_rfl⟩,by kernel_rfl,aA rfl,rfl⟩

def aKZ:XFn:=⟨38,[(4,none),(5,none)],false,false,
 (.seq (.reg [] false [⟨0,some 4,.mv (.c .nilpt),none⟩,⟨0,some 5,.mv (.c (.bool false)),none⟩]) (.seq (.seq (.reg [] false [⟨0,some 7,(.mv
 (.t 0)),none⟩,⟨0,some 8,.nilck (.t 7),none⟩,⟨0,some 9,.fld 1 (.t 8),none⟩,⟨0,some 10,.load false 1 (.t 9),none⟩,⟨0,some 11,
 (.mv (.t 1)),none⟩,⟨0,some 12,.lookup true false .nilpt (.t 10) (.t 11),none⟩,⟨0,some 6,.mv (.t 12),none⟩]) (.seq (.reg [] false [⟨0,(some
 13),.mv (.t 6),none⟩,⟨0,some 14,.eqn 3 true (.t 13) (.c .nilpt),none⟩]) (.cond (.t 14) (.seq (.reg [] false [⟨0,some 15,.mv (.t 6),none⟩,
 ⟨0,some 4,.mv (.t 15),none⟩,⟨0,some 5,.mv (.c (.bool false)),none⟩]) .ret) .skip))) (.seq (.reg [] false [⟨0,some 16,.mv (.t 0),none⟩,
 ⟨0,some 17,.mv (.t 0),none⟩,⟨0,some 18,.nilck (.t 17),none⟩,⟨0,some 19,.fld 0 (.t 18),none⟩,⟨0,some 20,.load false 1 (.t 19),
 none⟩,⟨0,some 21,.mv (.t 1),none⟩,⟨0,some 22,(.bslice 1 1 [(.str ⟨#[]⟩)] [(0,(1,(.t 21)))]),none⟩,⟨0,some 23,.app 1 16 (.t 20) (.t
 22),none⟩,⟨0,some 24,.nilck (.t 16),none⟩,⟨0,some 25,.fld 0 (.t 24),none⟩,⟨0,none,(.store 1 (.t 25) (.t 23) []),none⟩]) (.seq (.reg []
 false [⟨0,some 26,.mv (.t 0),none⟩,⟨0,some 27,.nilck (.t 26),none⟩,⟨0,some 28,.fld 1 (.t 27),none⟩,⟨0,some 29,.load false 1 (.t
 28),none⟩,⟨0,some 30,.mv (.t 1),none⟩,⟨0,some 31,(.alloc [.int .i64 0]),none⟩,⟨0,none,.mapup true (.t 29) (.t 30) (.t 31),none⟩])
 (.seq (.reg [] false [⟨0,some 32,.mv (.t 0),none⟩,⟨0,some 33,.nilck (.t 32),none⟩,⟨0,some 34,.fld 1 (.t 33),none⟩,⟨0,some 35,
 (.load false 1 (.t 34)),none⟩,⟨0,some 36,.mv (.t 1),none⟩,⟨0,some 37,.lookup true false .nilpt (.t 35) (.t 36),none⟩,⟨0,some 4,(.mv
 (.t 37)),none⟩,⟨0,some 5,.mv (.c (.bool true)),none⟩]) .ret))))),none,none⟩
theorem aML:aN prog (136,aKZ):=⟨⟨fun vs w=>call136 vs w,_,_,func136,rfl,rfl,by kernel_rfl,by kernel_rfl⟩,by kernel_rfl,aA rfl,rfl⟩

def aKY:XFn:=⟨8,[(2,none),(3,none)],false,false,
 (.seq (.reg [] false [⟨0,some 1,.box (.t 0),none⟩,⟨0,some 2,.mv (.c .nilsl),none⟩,⟨0,some 3,.mv (.c (.int .i64 0)),none⟩]) (.seq (.reg
 [] false [⟨0,some 4,.load true 1 (.t 1),none⟩,⟨0,some 5,(.callf false (.c (.fn (.func 159) [] [])) [.t 4,.c (.fn (.func 160) [] [])] []),
 none⟩,⟨0,some 6,.ext (.t 5) 0,none⟩,⟨0,some 7,.ext (.t 5) 1,none⟩,⟨0,some 2,.mv (.t 6),none⟩,⟨0,some 3,.mv (.t 7),none⟩])
 .ret)),none,none⟩
theorem aMK:aN prog (137,aKY):=⟨⟨fun vs w=>call137 vs w,_,_,func137,rfl,rfl,by kernel_rfl,by kernel_rfl⟩,by kernel_rfl,aA rfl,rfl⟩

def aKX:XFn:=⟨73,[(6,none),(7,none)],false,false,
 (.seq (.reg [] false [⟨0,some 6,.mv (.c (.int .i64 0)),none⟩,⟨0,some 7,.mv (.c .nilifc),none⟩]) (.seq (.seq (.reg [] false [⟨0,some 12,(.mv
 (.t 0)),none⟩,⟨0,some 13,.bin .eql (.t 12) (.c (.str ⟨#[]⟩)),none⟩]) (.cond (.t 13) (.seq (.reg [] false [⟨0,some 14,.mkifc 229 (.c (.int .i64
 2)),none⟩,⟨0,some 6,.mv (.c (.int .i64 0)),none⟩,⟨0,some 7,.mv (.t 14),none⟩]) .ret) .skip)) (.seq (.reg [] false [⟨0,some 8,.mv (.c
 (.bool false)),none⟩]) (.seq (.seq (.reg [] false [⟨0,some 15,.mv (.t 0),none⟩,⟨0,some 16,.idxs (.t 15) (.c (.int .i64 0)),none⟩]) (.block
 0 (.seq (.reg [] false [⟨0,some 18,.bin .eql (.t 16) (.c (.int .u8 43)),none⟩,⟨0,some 17,.mv (.t 18),none⟩]) (.cond (.t 17) (.reg [] false
 [⟨0,some 19,.mv (.t 0),none⟩,⟨0,some 20,.slstr (.t 19) (some (.c (.int .i64 1))) none,none⟩,⟨0,some 0,.mv (.t 20),none⟩]) (.seq (.reg
 [] false [⟨0,some 22,.bin .eql (.t 16) (.c (.int .u8 45)),none⟩,⟨0,some 21,.mv (.t 22),none⟩]) (.cond (.t 21) (.seq (.reg [] false [⟨0,(some
 23),.mv (.t 0),none⟩,⟨0,some 24,.slstr (.t 23) (some (.c (.int .i64 1))) none,none⟩,⟨0,some 0,.mv (.t 24),none⟩]) (.reg [] false [⟨0,
 (some 8),.mv (.c (.bool true)),none⟩])) .skip)))))) (.seq (.reg [] false [⟨0,some 9,.mv (.c (.int .u64 0)),none⟩]) (.seq (.reg [(1,false)] false
 [⟨0,some 26,.mv (.t 0),none⟩,⟨0,some 27,.mv (.t 1),none⟩,⟨0,some 28,.mv (.t 2),none⟩,⟨0,some 29,(.callf false (.c (.fn (.func
 179) [] [])) [.t 26,.t 27,.t 28] []),none⟩,⟨0,some 25,.mv (.t 29),none⟩,⟨0,some 30,.ext (.t 25) 0,none⟩,⟨0,some 31,.ext (.t
 25) 1,none⟩,⟨0,some 9,.mv (.t 30),none⟩,⟨0,some 7,.mv (.t 31),none⟩]) (.seq (.seq (.reg [] false [⟨0,some 32,.mv (.t 7),none⟩,⟨0,
 (some 33),.eqn 5 true (.t 32) (.c .nilifc),none⟩,⟨0,some 34,.mv (.t 33),none⟩,⟨0,some 35,.mv (.t 7),some (34,true)⟩,⟨0,some 36,
 (.mkifc 229 (.c (.int .i64 1))),some (34,true)⟩,⟨0,some 37,.eqn 4 true (.t 35) (.t 36),some (34,true)⟩,⟨0,some 38,(.pick (.t 34) (.t 37)
 (.c (.bool false))),none⟩]) (.cond (.t 38) (.seq (.reg [] false [⟨0,some 39,.mv (.t 7),none⟩,⟨0,some 6,.mv (.c (.int .i64 0)),none⟩,⟨0,
 (some 7),.mv (.t 39),none⟩]) .ret) .skip)) (.seq (.seq (.reg [] false [⟨0,some 40,.mv (.t 2),none⟩,⟨0,some 41,.bin .eql (.t 40) (.c (.int
 .i64 0)),none⟩]) (.cond (.t 41) (.reg [] false [⟨0,some 2,.mv (.c (.int .i64 64)),none⟩]) .skip)) (.seq (.reg [] false [⟨0,some 42,.mv (.t
 2),none⟩,⟨0,some 43,.bin .sub (.t 42) (.c (.int .i64 1)),none⟩,⟨0,some 44,.conv .u64 (.t 43),none⟩,⟨0,some 45,.bin .shl (.c (.int
 .u64 1)) (.t 44),none⟩,⟨0,some 10,.mv (.t 45),none⟩]) (.seq (.seq (.reg [] false [⟨0,some 46,.mv (.t 8),none⟩,⟨0,some 47,.not (.t
 46),none⟩,⟨0,some 48,.mv (.t 47),none⟩,⟨0,some 49,.mv (.t 9),some (48,true)⟩,⟨0,some 50,.mv (.t 10),some (48,true)⟩,⟨0,
 (some 51),.bin .geq (.t 49) (.t 50),some (48,true)⟩,⟨0,some 52,.pick (.t 48) (.t 51) (.c (.bool false)),none⟩]) (.cond (.t 52) (.seq (.reg []
 false [⟨0,some 53,.mv (.t 10),none⟩,⟨0,some 54,.bin .sub (.t 53) (.c (.int .u64 1)),none⟩,⟨0,some 55,.conv .i64 (.t 54),none⟩,⟨0,
 (some 56),.mkifc 229 (.c (.int .i64 1)),none⟩,⟨0,some 6,.mv (.t 55),none⟩,⟨0,some 7,.mv (.t 56),none⟩]) .ret) .skip)) (.seq (.seq (.reg
 [] false [⟨0,some 57,.mv (.t 8),none⟩,⟨0,some 58,.mv (.t 57),none⟩,⟨0,some 59,.mv (.t 9),some (58,true)⟩,⟨0,some 60,.mv (.t
 10),some (58,true)⟩,⟨0,some 61,.bin .gtr (.t 59) (.t 60),some (58,true)⟩,⟨0,some 62,.pick (.t 58) (.t 61) (.c (.bool false)),none⟩])
 (.cond (.t 62) (.seq (.reg [] false [⟨0,some 63,.mv (.t 10),none⟩,⟨0,some 64,.conv .i64 (.t 63),none⟩,⟨0,some 65,.neg (.t 64),none⟩,
 ⟨0,some 66,.mkifc 229 (.c (.int .i64 1)),none⟩,⟨0,some 6,.mv (.t 65),none⟩,⟨0,some 7,.mv (.t 66),none⟩]) .ret) .skip)) (.seq (.reg []
 false [⟨0,some 67,.mv (.t 9),none⟩,⟨0,some 68,.conv .i64 (.t 67),none⟩,⟨0,some 11,.mv (.t 68),none⟩]) (.seq (.seq (.reg [] false [⟨0,
 (some 69),.mv (.t 8),none⟩]) (.cond (.t 69) (.reg [] false [⟨0,some 70,.mv (.t 11),none⟩,⟨0,some 71,.neg (.t 70),none⟩,⟨0,some 11,
 (.mv (.t 71)),none⟩]) .skip)) (.seq (.reg [] false [⟨0,some 72,.mv (.t 11),none⟩,⟨0,some 6,.mv (.t 72),none⟩,⟨0,some 7,.mv (.c
 .nilifc),none⟩]) .ret)))))))))))))),none,none⟩
theorem aMJ:aN prog (154,aKX):=⟨⟨fun vs w=>call154 vs w,_,_,func154,rfl,rfl,by kernel_rfl,by kernel_rfl⟩,by kernel_rfl,aA rfl,rfl⟩

def aKW:XFn:=⟨11,[(4,none)],false,false,
 (.seq (.reg [] false [⟨0,some 4,.mv (.c .nilpt),none⟩]) (.seq (.reg [(1,false)] true [⟨0,some 5,.mv (.t 0),none⟩,⟨1,some 6,.mv (.t 1),
 none⟩,⟨3,some 8,.stuck,none⟩,⟨2,some 7,(.callf false (.c (.fn (.func 180) [] [])) [.t 6] []),none⟩,⟨4,some 9,(.build [(.str ⟨#[]⟩),(.str
 ⟨#[]⟩),.nilifc] [(0,(1,(.t 5))),(1,(1,(.t 7))),(2,(1,(.t 8)))]),none⟩,⟨5,some 10,.box (.t 9),none⟩,⟨6,some 4,.mv (.t 10),none⟩])
 .ret)),none,none⟩
theorem aMI:aN prog (155,aKW):=⟨⟨fun vs w=>call155 vs w,_,_,func155,rfl,rfl,by kernel_rfl,by kernel_rfl⟩,by kernel_rfl,aA rfl,rfl⟩

def aKV:XFn:=⟨11,[(4,none)],false,false,
 (.seq (.reg [] false [⟨0,some 4,.mv (.c .nilpt),none⟩]) (.seq (.reg [(1,false)] true [⟨0,some 5,.mv (.t 0),none⟩,⟨1,some 6,.mv (.t 1),
 none⟩,⟨3,some 8,.stuck,none⟩,⟨2,some 7,(.callf false (.c (.fn (.func 180) [] [])) [.t 6] []),none⟩,⟨4,some 9,(.build [(.str ⟨#[]⟩),(.str
 ⟨#[]⟩),.nilifc] [(0,(1,(.t 5))),(1,(1,(.t 7))),(2,(1,(.t 8)))]),none⟩,⟨5,some 10,.box (.t 9),none⟩,⟨6,some 4,.mv (.t 10),none⟩])
 .ret)),none,none⟩
theorem aMH:aN prog (156,aKV):=⟨⟨fun vs w=>call156 vs w,_,_,func156,rfl,rfl,by kernel_rfl,by kernel_rfl⟩,by kernel_rfl,aA rfl,rfl⟩

def aKU:XFn:=⟨16,[(6,none)],false,false,
 (.seq (.reg [] false [⟨0,some 6,.mv (.c .nilpt),none⟩]) (.seq (.reg [(1,false),(2,false)] false [⟨0,some 7,.mv (.t 0),none⟩,⟨0,some 8,
 (.mv (.t 1)),none⟩,⟨0,some 9,(.callf false (.c (.fn (.func 180) [] [])) [.t 8] []),none⟩,⟨0,some 10,.mv (.t 2),none⟩,⟨0,some 11,
 (.callf false (.c (.fn (.func 57) [] [])) [.t 10] []),none⟩,⟨0,some 12,.bin .add (.c (.str ⟨#[105,110,118,97,108,105,100,32,98,97,115,
 101,32]⟩)) (.t 11),none⟩,⟨0,some 13,(.callf false (.c (.fn (.func 181) [] [])) [.t 12] []),none⟩,⟨0,some 14,(.build [(.str ⟨#[]⟩),(.str
 ⟨#[]⟩),.nilifc] [(0,(1,(.t 7))),(1,(1,(.t 9))),(2,(1,(.t 13)))]),none⟩,⟨0,some 15,.box (.t 14),none⟩,⟨0,some 6,.mv (.t 15),none⟩])
 .ret)),none,none⟩
theorem aMG:aN prog (157,aKU):=⟨⟨fun vs w=>call157 vs w,_,_,func157,rfl,rfl,by kernel_rfl,by kernel_rfl⟩,by kernel_rfl,aA rfl,rfl⟩

def aKT:XFn:=⟨16,[(6,none)],false,false,
 (.seq (.reg [] false [⟨0,some 6,.mv (.c .nilpt),none⟩]) (.seq (.reg [(1,false),(2,false)] false [⟨0,some 7,.mv (.t 0),none⟩,⟨0,some 8,
 (.mv (.t 1)),none⟩,⟨0,some 9,(.callf false (.c (.fn (.func 180) [] [])) [.t 8] []),none⟩,⟨0,some 10,.mv (.t 2),none⟩,⟨0,some 11,
 (.callf false (.c (.fn (.func 57) [] [])) [.t 10] []),none⟩,⟨0,some 12,.bin .add (.c (.str ⟨#[105,110,118,97,108,105,100,32,98,105,116,
 32,115,105,122,101,32]⟩)) (.t 11),none⟩,⟨0,some 13,(.callf false (.c (.fn (.func 181) [] [])) [.t 12] []),none⟩,⟨0,some 14,(.build
 [(.str ⟨#[]⟩),(.str ⟨#[]⟩),.nilifc] [(0,(1,(.t 7))),(1,(1,(.t 9))),(2,(1,(.t 13)))]),none⟩,⟨0,some 15,.box (.t 14),none⟩,⟨0,some 6,
 (.mv (.t 15)),none⟩]) .ret)),none,none⟩
theorem aMF:aN prog (158,aKT):=⟨⟨fun vs w=>call158 vs w,_,_,func158,rfl,rfl,by kernel_rfl,by kernel_rfl⟩,by kernel_rfl,aA rfl,rfl⟩

def aKS:XFn:=⟨19,[(4,none),(5,none)],false,false,
 (.seq (.reg [] false [⟨0,some 2,.box (.t 0),none⟩,⟨0,some 3,.box (.t 1),none⟩,⟨0,some 4,.mv (.c .nilsl),none⟩,⟨0,some 5,.mv (.c
 (.int .i64 0)),none⟩]) (.seq (.reg [(2,true)] false [⟨0,some 9,.load true 1 (.t 2),none⟩,⟨0,some 10,(.callf false (.c (.fn (.func 182) []
 [])) [.t 9] []),none⟩,⟨0,some 8,.mv (.t 10),none⟩,⟨0,some 11,.ext (.t 8) 0,none⟩,⟨0,some 12,.ext (.t 8) 1,none⟩,⟨0,some 6,
 (.alloc [.nilsl,.nilifc,.int .i64 0,.int .u64 0]),none⟩,⟨0,none,(.store 4 (.t 6) (.t 11) []),none⟩,⟨0,some 7,.mv (.t 12),none⟩]) (.seq
 (.seq (.reg [] false [⟨0,some 13,.mv (.t 7),none⟩,⟨0,some 14,.bin .neq (.t 13) (.c (.int .i64 0)),none⟩]) (.cond (.t 14) (.seq (.reg [] false
 [⟨0,some 15,.mv (.t 7),none⟩,⟨0,some 4,.mv (.c .nilsl),none⟩,⟨0,some 5,.mv (.t 15),none⟩]) .ret) .skip)) (.seq (.reg [(6,true)]
 false [⟨0,some 16,.load true 4 (.t 6),none⟩,⟨0,some 17,(.mkf (.func 184) [] [.t 6,.t 3]),none⟩,⟨0,some 18,(.callf false (.c (.fn
 (.func 183) [] [])) [.t 16,.t 17] []),none⟩,⟨0,some 4,.mv (.t 18),none⟩,⟨0,some 5,.mv (.c (.int .i64 0)),none⟩]) .ret)))),none,none⟩
theorem aME:aN prog (159,aKS):=⟨⟨fun vs w=>call159 vs w,_,_,func159,rfl,rfl,by kernel_rfl,by kernel_rfl⟩,by kernel_rfl,aA rfl,rfl⟩

def aKR:XFn:=⟨5,[(4,none)],false,false,
 (.seq (.reg [] false [⟨0,some 2,.box (.t 0),none⟩,⟨0,some 4,.mv (.c (.int .i64 0)),none⟩]) (.seq (.reg [] false [⟨0,some 4,.mv (.c (.int
 .i64 1)),none⟩]) .ret)),none,none⟩
theorem aMD:aN prog (160,aKR):=⟨⟨fun vs w=>call160 vs w,_,_,func160,rfl,rfl,by kernel_rfl,by kernel_rfl⟩,by kernel_rfl,aA rfl,rfl⟩

def aKO:XFn:=⟨8,[(2,none)],false,false,
 (.seq (.reg [] false [⟨0,some 2,.mv (.c (.int .i64 0)),none⟩]) (.seq (.cond (.c (.bool false)) (.seq (.reg [] false [⟨0,some 3,.mv (.t 0),none⟩,
 ⟨0,some 4,.conv .u32 (.t 3),none⟩,⟨0,some 5,(.callf false (.c (.fn (.func 197) [] [])) [.t 4] []),none⟩,⟨0,some 2,.mv (.t 5),none⟩])
 .ret) .skip) (.seq (.reg [] false [⟨0,some 6,.mv (.t 0),none⟩,⟨0,some 7,(.callf false (.c (.fn (.func 198) [] [])) [.t 6] []),none⟩,⟨0,
 (some 2),.mv (.t 7),none⟩]) .ret))),none,none⟩
theorem aMC:aN prog (175,aKO):=⟨⟨fun vs w=>call175 vs w,_,_,func175,rfl,rfl,by kernel_rfl,by kernel_rfl⟩,by kernel_rfl,aA rfl,rfl⟩

def aIN:XCode :=
 (.loop [1,8,9,10,11,12,13,99,100,101] (.seq (.reg [] false [⟨0,some 102,.bin .lss (.t 101) (.t 100),none⟩]) (.seq (.cond (.t 102) .skip (.exit
 3)) (.seq (.block 4 (.seq (.reg [] false [⟨0,some 103,.idx 1 (.t 99) (.t 101),none⟩,⟨0,some 104,.load false 1 (.t 103),none⟩,⟨0,some 15,
 (.mv (.t 104)),none⟩]) (.seq (.reg [] false [⟨0,some 16,.mv (.c (.int .u8 0)),none⟩]) (.seq (.block 5 (.seq (.reg [] false [⟨0,some 107,.mv (.t
 15),none⟩,⟨0,some 108,.bin .eql (.t 107) (.c (.int .u8 95)),none⟩,⟨0,some 109,.mv (.t 108),none⟩,⟨0,some 110,.mv (.t 8),(some
 (109,true))⟩,⟨0,some 111,.pick (.t 109) (.t 110) (.c (.bool false)),none⟩,⟨0,some 106,.mv (.t 111),none⟩]) (.cond (.t 106) (.seq (.reg []
 false [⟨0,some 12,.mv (.c (.bool true)),none⟩]) (.exit 4)) (.seq (.reg [] false [⟨0,some 113,.mv (.t 15),none⟩,⟨0,some 114,.bin .leq (.c
 (.int .u8 48)) (.t 113),none⟩,⟨0,some 115,.mv (.t 114),none⟩,⟨0,some 116,.mv (.t 15),some (115,true)⟩,⟨0,some 117,.bin .leq (.t
 116) (.c (.int .u8 57)),some (115,true)⟩,⟨0,some 118,.pick (.t 115) (.t 117) (.c (.bool false)),none⟩,⟨0,some 112,.mv (.t 118),none⟩])
 (.cond (.t 112) (.reg [] false [⟨0,some 119,.mv (.t 15),none⟩,⟨0,some 120,.bin .sub (.t 119) (.c (.int .u8 48)),none⟩,⟨0,some 16,(.mv
 (.t 120)),none⟩]) (.seq (.reg [] false [⟨0,some 122,.mv (.t 15),none⟩,⟨0,some 123,(.callf false (.c (.fn (.func 201) [] [])) [.t 122] []),
 none⟩,⟨0,some 124,.bin .leq (.c (.int .u8 97)) (.t 123),none⟩,⟨0,some 125,.mv (.t 124),none⟩,⟨0,some 126,.mv (.t 15),some (125,
 true)⟩,⟨0,some 127,(.callf false (.c (.fn (.func 201) [] [])) [.t 126] []),some (125,true)⟩,⟨0,some 128,.bin .leq (.t 127) (.c (.int .u8
 122)),some (125,true)⟩,⟨0,some 129,.pick (.t 125) (.t 128) (.c (.bool false)),none⟩,⟨0,some 121,.mv (.t 129),none⟩]) (.cond (.t 121)
 (.reg [] false [⟨0,some 130,.mv (.t 15),none⟩,⟨0,some 131,(.callf false (.c (.fn (.func 201) [] [])) [.t 130] []),none⟩,⟨0,some 132,
 (.bin .sub (.t 131) (.c (.int .u8 97))),none⟩,⟨0,some 133,.bin .add (.t 132) (.c (.int .u8 10)),none⟩,⟨0,some 16,.mv (.t 133),none⟩]) (.seq
 (.reg [] false [⟨0,some 105,.mkifc 229 (.c (.int .i64 2)),none⟩,⟨0,some 6,.mv (.c (.int .u64 0)),none⟩,⟨0,some 7,.mv (.t 105),none⟩])
 .ret)))))))) (.seq (.seq (.reg [] false [⟨0,some 134,.mv (.t 16),none⟩,⟨0,some 135,.mv (.t 1),none⟩,⟨0,some 136,.conv .u8 (.t 135),
 none⟩,⟨0,some 137,.bin .geq (.t 134) (.t 136),none⟩]) (.cond (.t 137) (.seq (.reg [] false [⟨0,some 138,.mkifc 229 (.c (.int .i64 2)),none⟩,
 ⟨0,some 6,.mv (.c (.int .u64 0)),none⟩,⟨0,some 7,.mv (.t 138),none⟩]) .ret) .skip)) (.seq (.seq (.reg [] false [⟨0,some 139,.mv (.t
 13),none⟩,⟨0,some 140,.mv (.t 10),none⟩,⟨0,some 141,.bin .geq (.t 139) (.t 140),none⟩]) (.cond (.t 141) (.seq (.reg [] false [⟨0,(some
 142),.mv (.t 11),none⟩,⟨0,some 143,.mkifc 229 (.c (.int .i64 1)),none⟩,⟨0,some 6,.mv (.t 142),none⟩,⟨0,some 7,.mv (.t 143),
 none⟩]) .ret) .skip)) (.seq (.reg [] false [⟨0,some 144,.mv (.t 13),none⟩,⟨0,some 145,.mv (.t 1),none⟩,⟨0,some 146,.conv .u64 (.t
 145),none⟩,⟨0,some 147,.bin .mul (.t 144) (.t 146),none⟩,⟨0,some 13,.mv (.t 147),none⟩]) (.seq (.reg [] false [⟨0,some 148,.mv (.t
 13),none⟩,⟨0,some 149,.mv (.t 16),none⟩,⟨0,some 150,.conv .u64 (.t 149),none⟩,⟨0,some 151,.bin .add (.t 148) (.t 150),none⟩,⟨0,
 (some 17),.mv (.t 151),none⟩]) (.seq (.seq (.reg [] false [⟨0,some 152,.mv (.t 17),none⟩,⟨0,some 153,.mv (.t 13),none⟩,⟨0,some 154,
 (.bin .lss (.t 152) (.t 153)),none⟩,⟨0,some 155,.mv (.t 154),none⟩,⟨0,some 156,.mv (.t 17),some (155,false)⟩,⟨0,some 157,.mv (.t
 11),some (155,false)⟩,⟨0,some 158,.bin .gtr (.t 156) (.t 157),some (155,false)⟩,⟨0,some 159,.pick (.t 155) (.c (.bool true)) (.t
 158),none⟩]) (.cond (.t 159) (.seq (.reg [] false [⟨0,some 160,.mv (.t 11),none⟩,⟨0,some 161,.mkifc 229 (.c (.int .i64 1)),none⟩,⟨0,(some
 6),.mv (.t 160),none⟩,⟨0,some 7,.mv (.t 161),none⟩]) .ret) .skip)) (.reg [] false [⟨0,some 162,.mv (.t 17),none⟩,⟨0,some 13,.mv (.t
 162),none⟩])))))))))) (.reg [] false [⟨0,some 163,.bin .add (.t 101) (.c (.int .i64 1)),none⟩,⟨0,some 101,.mv (.t 163),none⟩])))))
def aKN:XFn:=⟨172,[(6,none),(7,none)],false,false,
 (.seq (.reg [] false [⟨0,some 6,.mv (.c (.int .u64 0)),none⟩,⟨0,some 7,.mv (.c .nilifc),none⟩]) (.seq (.seq (.reg [] false [⟨0,some 18,(.mv
 (.t 0)),none⟩,⟨0,some 19,.bin .eql (.t 18) (.c (.str ⟨#[]⟩)),none⟩]) (.cond (.t 19) (.seq (.reg [] false [⟨0,some 20,.mkifc 229 (.c (.int .i64
 2)),none⟩,⟨0,some 6,.mv (.c (.int .u64 0)),none⟩,⟨0,some 7,.mv (.t 20),none⟩]) .ret) .skip)) (.seq (.reg [] false [⟨0,some 21,.mv (.t
 1),none⟩,⟨0,some 22,.bin .eql (.t 21) (.c (.int .i64 0)),none⟩,⟨0,some 8,.mv (.t 22),none⟩]) (.seq (.reg [] false [⟨0,some 23,.mv (.t
 0),none⟩,⟨0,some 9,.mv (.t 23),none⟩]) (.seq (.block 0 (.seq (.reg [] false [⟨0,some 26,.mv (.t 1),none⟩,⟨0,some 27,.bin .leq (.c
 (.int .i64 2)) (.t 26),none⟩,⟨0,some 28,.mv (.t 27),none⟩,⟨0,some 29,.mv (.t 1),some (28,true)⟩,⟨0,some 30,.bin .leq (.t 29) (.c
 (.int .i64 36)),some (28,true)⟩,⟨0,some 31,.pick (.t 28) (.t 30) (.c (.bool false)),none⟩,⟨0,some 25,.mv (.t 31),none⟩]) (.cond (.t 25)
 .skip (.seq (.reg [] false [⟨0,some 33,.mv (.t 1),none⟩,⟨0,some 34,.bin .eql (.t 33) (.c (.int .i64 0)),none⟩,⟨0,some 32,.mv (.t 34),
 none⟩]) (.cond (.t 32) (.seq (.reg [] false [⟨0,some 1,.mv (.c (.int .i64 10)),none⟩]) (.seq (.reg [] false [⟨0,some 35,.mv (.t 0),none⟩,⟨0,
 (some 36),.idxs (.t 35) (.c (.int .i64 0)),none⟩,⟨0,some 37,.bin .eql (.t 36) (.c (.int .u8 48)),none⟩]) (.cond (.t 37) (.block 1 (.seq (.reg []
 false [⟨0,some 41,.mv (.t 0),none⟩,⟨0,some 42,.len true (.t 41),none⟩,⟨0,some 43,.bin .geq (.t 42) (.c (.int .i64 3)),none⟩,⟨0,
 (some 44),.mv (.t 43),none⟩,⟨0,some 45,.mv (.t 0),some (44,true)⟩,⟨0,some 46,.idxs (.t 45) (.c (.int .i64 1)),some (44,true)⟩,⟨0,
 (some 47),(.callf false (.c (.fn (.func 201) [] [])) [.t 46] []),some (44,true)⟩,⟨0,some 48,.bin .eql (.t 47) (.c (.int .u8 98)),some (44,
 true)⟩,⟨0,some 49,.pick (.t 44) (.t 48) (.c (.bool false)),none⟩,⟨0,some 40,.mv (.t 49),none⟩]) (.cond (.t 40) (.seq (.reg [] false [⟨0,
 (some 1),.mv (.c (.int .i64 2)),none⟩]) (.reg [] false [⟨0,some 50,.mv (.t 0),none⟩,⟨0,some 51,(.slstr (.t 50) (some (.c (.int .i64 2)))
 none),none⟩,⟨0,some 0,.mv (.t 51),none⟩])) (.seq (.reg [] false [⟨0,some 53,.mv (.t 0),none⟩,⟨0,some 54,.len true (.t 53),none⟩,⟨0,
 (some 55),.bin .geq (.t 54) (.c (.int .i64 3)),none⟩,⟨0,some 56,.mv (.t 55),none⟩,⟨0,some 57,.mv (.t 0),some (56,true)⟩,⟨0,(some
 58),.idxs (.t 57) (.c (.int .i64 1)),some (56,true)⟩,⟨0,some 59,(.callf false (.c (.fn (.func 201) [] [])) [.t 58] []),some (56,true)⟩,
 ⟨0,some 60,.bin .eql (.t 59) (.c (.int .u8 111)),some (56,true)⟩,⟨0,some 61,.pick (.t 56) (.t 60) (.c (.bool false)),none⟩,⟨0,some 52,
 (.mv (.t 61)),none⟩]) (.cond (.t 52) (.seq (.reg [] false [⟨0,some 1,.mv (.c (.int .i64 8)),none⟩]) (.reg [] false [⟨0,some 62,.mv (.t 0),
 none⟩,⟨0,some 63,.slstr (.t 62) (some (.c (.int .i64 2))) none,none⟩,⟨0,some 0,.mv (.t 63),none⟩])) (.seq (.reg [] false [⟨0,some 65,
 (.mv (.t 0)),none⟩,⟨0,some 66,.len true (.t 65),none⟩,⟨0,some 67,.bin .geq (.t 66) (.c (.int .i64 3)),none⟩,⟨0,some 68,.mv (.t 67),
 none⟩,⟨0,some 69,.mv (.t 0),some (68,true)⟩,⟨0,some 70,.idxs (.t 69) (.c (.int .i64 1)),some (68,true)⟩,⟨0,some 71,(.callf false
 (.c (.fn (.func 201) [] [])) [.t 70] []),some (68,true)⟩,⟨0,some 72,.bin .eql (.t 71) (.c (.int .u8 120)),some (68,true)⟩,⟨0,some 73,
 (.pick (.t 68) (.t 72) (.c (.bool false))),none⟩,⟨0,some 64,.mv (.t 73),none⟩]) (.cond (.t 64) (.seq (.reg [] false [⟨0,some 1,.mv (.c (.int
 .i64 16)),none⟩]) (.reg [] false [⟨0,some 74,.mv (.t 0),none⟩,⟨0,some 75,.slstr (.t 74) (some (.c (.int .i64 2))) none,none⟩,⟨0,some 0,
 (.mv (.t 75)),none⟩])) (.seq (.reg [] false [⟨0,some 1,.mv (.c (.int .i64 8)),none⟩]) (.reg [] false [⟨0,some 38,.mv (.t 0),none⟩,⟨0,(some
 39),.slstr (.t 38) (some (.c (.int .i64 1))) none,none⟩,⟨0,some 0,.mv (.t 39),none⟩]))))))))) .skip))) (.seq (.reg [] false [⟨0,some 24,
 (.mkifc 229 (.c (.int .i64 3))),none⟩,⟨0,some 6,.mv (.c (.int .u64 0)),none⟩,⟨0,some 7,.mv (.t 24),none⟩]) .ret)))))) (.seq (.seq (.reg []
 false [⟨0,some 76,.mv (.t 2),none⟩,⟨0,some 77,.bin .eql (.t 76) (.c (.int .i64 0)),none⟩]) (.cond (.t 77) (.reg [] false [⟨0,some 2,(.mv
 (.c (.int .i64 64))),none⟩]) (.seq (.reg [] false [⟨0,some 78,.mv (.t 2),none⟩,⟨0,some 79,.bin .lss (.t 78) (.c (.int .i64 0)),none⟩,⟨0,
 (some 80),.mv (.t 79),none⟩,⟨0,some 81,.mv (.t 2),some (80,false)⟩,⟨0,some 82,.bin .gtr (.t 81) (.c (.int .i64 64)),some (80,
 false)⟩,⟨0,some 83,.pick (.t 80) (.c (.bool true)) (.t 82),none⟩]) (.cond (.t 83) (.seq (.reg [] false [⟨0,some 84,.mkifc 229 (.c (.int .i64
 4)),none⟩,⟨0,some 6,.mv (.c (.int .u64 0)),none⟩,⟨0,some 7,.mv (.t 84),none⟩]) .ret) .skip)))) (.seq (.reg [] false [⟨0,some 10,(.mv
 (.c (.int .u64 0))),none⟩]) (.seq (.seq (.reg [] false [⟨0,some 85,.mv (.t 1),none⟩]) (.block 2 (.seq (.reg [] false [⟨0,some 91,.bin .eql (.t
 85) (.c (.int .i64 10)),none⟩,⟨0,some 90,.mv (.t 91),none⟩]) (.cond (.t 90) (.reg [] false [⟨0,some 10,.mv (.c (.int .u64
 1844674407370955162)),none⟩]) (.seq (.reg [] false [⟨0,some 93,.bin .eql (.t 85) (.c (.int .i64 16)),none⟩,⟨0,some 92,.mv (.t 93),none⟩])
 (.cond (.t 92) (.reg [] false [⟨0,some 10,.mv (.c (.int .u64 1152921504606846976)),none⟩]) (.reg [] false [⟨0,some 86,.mv (.t 1),none⟩,⟨0,
 (some 87),.conv .u64 (.t 86),none⟩,⟨0,some 88,.bin .quo (.c (.int .u64 18446744073709551615)) (.t 87),none⟩,⟨0,some 89,(.bin .add (.t 88)
 (.c (.int .u64 1))),none⟩,⟨0,some 10,.mv (.t 89),none⟩]))))))) (.seq (.reg [] false [⟨0,some 94,.mv (.t 2),none⟩,⟨0,some 95,(.conv .u64
 (.t 94)),none⟩,⟨0,some 96,.bin .shl (.c (.int .u64 1)) (.t 95),none⟩,⟨0,some 97,.bin .sub (.t 96) (.c (.int .u64 1)),none⟩,⟨0,some 11,
 (.mv (.t 97)),none⟩]) (.seq (.reg [] false [⟨0,some 12,.mv (.c (.bool false)),none⟩]) (.seq (.reg [] false [⟨0,some 13,.mv (.c (.int .u64 0)),
 none⟩]) (.seq (.seq (.reg [] false [⟨0,some 98,.mv (.t 0),none⟩,⟨0,some 99,.bytes (.t 98),none⟩,⟨0,some 100,.len false (.t 99),none⟩,
 ⟨0,some 101,.mv (.c (.int .i64 0)),none⟩]) (.block 3 aIN)) (.seq (.seq (.reg [] false [⟨0,some 164,.mv (.t 12),none⟩,⟨0,some 165,(.mv
 (.t 164)),none⟩,⟨0,some 166,.mv (.t 9),some (165,true)⟩,⟨0,some 167,(.callf false (.c (.fn (.func 202) [] [])) [.t 166] []),some (165,
 true)⟩,⟨0,some 168,.not (.t 167),some (165,true)⟩,⟨0,some 169,.pick (.t 165) (.t 168) (.c (.bool false)),none⟩]) (.cond (.t 169) (.seq
 (.reg [] false [⟨0,some 170,.mkifc 229 (.c (.int .i64 2)),none⟩,⟨0,some 6,.mv (.c (.int .u64 0)),none⟩,⟨0,some 7,.mv (.t 170),none⟩])
 .ret) .skip)) (.seq (.reg [] false [⟨0,some 171,.mv (.t 13),none⟩,⟨0,some 6,.mv (.t 171),none⟩,⟨0,some 7,.mv (.c .nilifc),none⟩])
 .ret)))))))))))))),none,none⟩
theorem aMB:aN prog (179,aKN):=⟨⟨fun vs w=>call179 vs w,_,_,func179,rfl,rfl,by kernel_rfl,by kernel_rfl⟩,by kernel_rfl,aA rfl,rfl⟩

def aKM:XFn:=⟨18,[(2,none)],false,false,
 (.seq (.reg [] false [⟨0,some 2,.mv (.c (.str ⟨#[]⟩)),none⟩]) (.seq (.seq (.reg [] false [⟨0,some 4,.mv (.t 0),none⟩,⟨0,some 5,(.len true
 (.t 4)),none⟩,⟨0,some 6,.bin .eql (.t 5) (.c (.int .i64 0)),none⟩]) (.cond (.t 6) (.seq (.reg [] false [⟨0,some 2,.mv (.c (.str ⟨#[]⟩)),
 none⟩]) .ret) .skip)) (.seq (.reg [] false [⟨0,some 7,.mv (.t 0),none⟩,⟨0,some 8,.len true (.t 7),none⟩,⟨0,some 9,(.mksl 1 1 [(.int .u8
 0)] (.t 8) (.t 8)),none⟩,⟨0,some 3,.mv (.t 9),none⟩]) (.seq (.reg [] false [⟨0,some 10,.mv (.t 3),none⟩,⟨0,some 11,.mv (.t 0),none⟩,
 ⟨0,some 12,.copy 1 (.t 10) (.t 11),none⟩]) (.seq (.reg [] false [⟨0,some 13,.mv (.t 3),none⟩,⟨0,some 14,.idx 1 (.t 13) (.c (.int .i64
 0)),none⟩,⟨0,some 15,.mv (.t 3),none⟩,⟨0,some 16,.len false (.t 15),none⟩,⟨0,some 17,.stuck,none⟩,⟨0,some 2,.mv (.t 17),
 none⟩]) .ret))))),none,none⟩
theorem aMA:aN prog (180,aKM):=⟨⟨fun vs w=>call180 vs w,_,_,func180,rfl,rfl,by kernel_rfl,by kernel_rfl⟩,by kernel_rfl,aA rfl,rfl⟩

def aKL:XFn:=⟨7,[(2,none)],false,false,
 (.seq (.reg [] false [⟨0,some 2,.mv (.c .nilifc),none⟩]) (.seq (.reg [] false [⟨0,some 3,.mv (.t 0),none⟩,⟨0,some 4,(.build [(.str ⟨#[]⟩)]
 [(0,(1,(.t 3)))]),none⟩,⟨0,some 5,.box (.t 4),none⟩,⟨0,some 6,.mkifc 278 (.t 5),none⟩,⟨0,some 2,.mv (.t 6),none⟩]) .ret)),none,none⟩
theorem aMz:aN prog (181,aKL):=⟨⟨fun vs w=>call181 vs w,_,_,func181,rfl,rfl,by kernel_rfl,by kernel_rfl⟩,by kernel_rfl,aA rfl,rfl⟩

def aKK:XFn:=⟨22,[(2,(some (true,4))),(3,none)],false,false,
 (.seq (.reg [] false [⟨0,some 1,.box (.t 0),none⟩,⟨0,some 2,(.alloc [.nilsl,.nilifc,.int .i64 0,.int .u64 0]),none⟩,⟨0,some 3,(.mv
 (.c (.int .i64 0))),none⟩]) (.seq (.seq (.reg [(1,true)] false [⟨0,some 5,.load true 1 (.t 1),none⟩,⟨0,some 6,(.callf false (.c (.fn (.func
 203) [] [])) [.t 5] []),none⟩,⟨0,some 4,.mv (.t 6),none⟩]) (.seq (.reg [] false [⟨0,some 7,.mv (.t 4),none⟩,⟨0,some 8,.bin .neq (.t
 7) (.c (.int .i64 0)),none⟩]) (.cond (.t 8) (.seq (.reg [] false [⟨0,some 9,(.build [.nilsl,.nilifc,.int .i64 0,.int .u64 0] []),none⟩,⟨0,
 (some 10),.mv (.t 4),none⟩,⟨0,none,(.store 4 (.t 2) (.t 9) []),none⟩,⟨0,some 3,.mv (.t 10),none⟩]) .ret) .skip))) (.seq (.reg [(1,true)]
 true [⟨0,some 11,.load true 1 (.t 1),none⟩,⟨1,some 12,.load true 1 (.t 1),none⟩,⟨4,some 15,.load true 1 (.t 1),none⟩,⟨6,some 17,
 (.load true 1 (.t 1)),none⟩,⟨2,some 13,(.callf false (.c (.fn (.func 204) [] [])) [.t 12,.c (.int .i64 (-1))] [0,4,6]),none⟩,⟨3,some 14,
 (.mkifc 283 (.t 13)),none⟩,⟨5,some 16,(.callf false (.c (.fn (.func 205) [] [])) [.t 15] [0,6]),none⟩,⟨7,some 18,(.callf false (.c (.fn
 (.func 205) [] [])) [.t 17] [0]),none⟩,⟨8,some 19,.bin .shl (.c (.int .u64 1)) (.t 18),none⟩,⟨9,some 20,.bin .sub (.t 19) (.c (.int .u64
 1)),none⟩,⟨10,some 21,(.build [.nilsl,.nilifc,.int .i64 0,.int .u64 0] [(0,(1,(.t 11))),(1,(1,(.t 14))),(2,(1,(.t 16))),(3,(1,(.t
 20)))]),none⟩,⟨11,none,(.store 4 (.t 2) (.t 21) []),none⟩,⟨12,some 3,.mv (.c (.int .i64 0)),none⟩]) .ret))),none,none⟩
theorem aMy:aN prog (182,aKK):=⟨⟨fun vs w=>call182 vs w,_,_,func182,rfl,rfl,by kernel_rfl,by kernel_rfl⟩,by kernel_rfl,aA rfl,rfl⟩

def aIM:XCode :=
 (.loop [1,5,8,9] (.seq (.reg [] false [⟨0,some 10,.bin .lss (.t 9) (.t 8),none⟩]) (.seq (.cond (.t 10) .skip (.exit 0)) (.seq (.block 1 (.seq (.reg
 [] false [⟨0,some 11,.mv (.t 9),none⟩,⟨0,some 6,.mv (.t 11),none⟩]) (.reg [] false [⟨0,some 12,.mv (.t 5),none⟩,⟨0,some 13,(.mv
 (.t 1)),none⟩,⟨0,some 14,.mv (.t 6),none⟩,⟨0,some 15,(.callf false (.t 13) [.t 14] []),none⟩,⟨0,some 16,(.bslice 1 1 [.int .i64 0]
 [(0,(1,(.t 15)))]),none⟩,⟨0,some 17,.app 1 8 (.t 12) (.t 16),none⟩,⟨0,some 5,.mv (.t 17),none⟩]))) (.reg [] false [⟨0,some 18,(.bin
 .add (.t 9) (.c (.int .i64 1))),none⟩,⟨0,some 9,.mv (.t 18),none⟩])))))
def aKJ:XFn:=⟨20,[(4,none)],false,false,
 (.seq (.reg [] false [⟨0,some 2,.box (.t 0),none⟩,⟨0,some 4,.mv (.c .nilsl),none⟩]) (.seq (.reg [] false [⟨0,some 5,.mv (.c .nilsl),
 none⟩]) (.seq (.seq (.reg [] false [⟨0,some 7,.fld 2 (.t 2),none⟩,⟨0,some 8,.load false 1 (.t 7),none⟩,⟨0,some 9,.mv (.c (.int .i64
 0)),none⟩]) (.block 0 aIM)) (.seq (.reg [] false [⟨0,some 19,.mv (.t 5),none⟩,⟨0,some 4,.mv (.t 19),none⟩]) .ret)))),none,none⟩
theorem aMx:aN prog (183,aKJ):=⟨⟨fun vs w=>call183 vs w,_,_,func183,rfl,rfl,by kernel_rfl,by kernel_rfl⟩,by kernel_rfl,aA rfl,rfl⟩

def aKI:XFn:=⟨34,[(4,none)],false,false,
 (.seq (.reg [] false [⟨0,some 3,.box (.t 0),none⟩,⟨0,some 4,.mv (.c (.int .i64 0)),none⟩]) (.seq (.reg [] false [⟨0,some 5,(.alloc [(.int
 .i64 0)]),none⟩,⟨0,none,(.store 1 (.t 5) (.c (.int .i64 0)) []),none⟩]) (.seq (.seq (.reg [(3,true),(1,true)] false [⟨0,some 7,.load true 4 (.t
 1),none⟩,⟨0,some 8,.load false 1 (.t 3),none⟩,⟨0,some 9,(.bslice 1 1 [.int .i64 0] [(0,(1,(.t 8)))]),none⟩,⟨0,some 10,(.callf false
 (.c (.fn (.func 185) [] [])) [.t 7,.t 9] []),none⟩]) (.block 0 (.rng 0 [1,2,3,5] (.t 10) [11] (.reg [] false [⟨0,some 6,.mv (.t 11),none⟩])
 (.block 1 (.seq (.reg [(6,false),(3,true)] true [⟨0,some 12,.fld 1 (.t 1),none⟩,⟨1,some 13,.load false 1 (.t 12),none⟩,⟨2,some 14,
 (.mv (.t 6)),none⟩,⟨3,some 15,(.callf false (.meth [(203,235),(283,242)] 13) [.t 14] []),none⟩,⟨4,some 16,.not (.t 15),none⟩,⟨5,(some
 17),.mv (.t 16),none⟩,⟨6,some 18,.fld 1 (.t 1),some (17,true)⟩,⟨7,some 19,.load false 1 (.t 18),some (17,true)⟩,⟨8,some 20,
 (.mv (.t 6)),some (17,true)⟩,⟨9,some 21,.load false 1 (.t 3),some (17,true)⟩,⟨11,some 23,.nilck (.t 19),some (17,true)⟩,⟨12,
 (some 24),.mv (.t 19),some (17,true)⟩,⟨10,some 22,(.callf false (.c (.fn (.func 186) [] [])) [.t 20,.t 21] [7]),some (17,true)⟩,⟨13,
 (some 25),(.callf false (.meth [(203,235),(283,242)] 24) [.t 22] []),some (17,true)⟩,⟨14,some 26,.pick (.t 17) (.t 25) (.c (.bool false)),
 none⟩]) (.cond (.t 26) (.reg [(1,true),(6,false)] true [⟨0,some 27,.load false 1 (.t 5),none⟩,⟨1,some 28,.load false 1 (.t 2),none⟩,⟨2,
 (some 29),.load true 4 (.t 1),none⟩,⟨3,some 30,.mv (.t 6),none⟩,⟨4,some 31,(.callf false (.t 28) [.t 29,.t 30] [0]),none⟩,⟨5,(some
 32),.bin .add (.t 27) (.t 31),none⟩,⟨6,none,(.store 1 (.t 5) (.t 32) []),none⟩]) .skip)))))) (.seq (.reg [] false [⟨0,some 33,.load false 1 (.t
 5),none⟩,⟨0,some 4,.mv (.t 33),none⟩]) .ret)))),none,none⟩
theorem aMw:aN prog (184,aKI):=⟨⟨fun vs w=>call184 vs w,_,_,func184,rfl,rfl,by kernel_rfl,by kernel_rfl⟩,by kernel_rfl,⟨aA rfl,⟨aA rfl,⟨⟨aA rfl,⟨by kernel_rfl,aA rfl,aA rfl⟩⟩,aA rfl⟩⟩⟩,rfl⟩

def aKH:XFn:=⟨6,[(4,none)],false,false,
 (.seq (.reg [] false [⟨0,some 2,.box (.t 0),none⟩,⟨0,some 3,.box (.t 1),none⟩,⟨0,some 4,.mv (.c .nilfn),none⟩]) (.seq (.reg [] false
 [⟨0,some 5,(.mkf (.func 206) [] [.t 2,.t 3]),none⟩,⟨0,some 4,.mv (.t 5),none⟩]) .ret)),none,none⟩
theorem aMv:aN prog (185,aKH):=⟨⟨fun vs w=>call185 vs w,_,_,func185,rfl,rfl,by kernel_rfl,by kernel_rfl⟩,by kernel_rfl,aA rfl,rfl⟩

def aKG:XFn:=⟨9,[(4,none)],false,false,
 (.seq (.reg [] false [⟨0,some 4,.mv (.c (.int .u64 0)),none⟩]) (.seq (.reg [] false [⟨0,some 5,.mv (.t 0),none⟩,⟨0,some 6,.mv (.t 1),
 none⟩,⟨0,some 7,.bin .shl (.c (.int .u64 1)) (.t 6),none⟩,⟨0,some 8,.bin .or (.t 5) (.t 7),none⟩,⟨0,some 4,.mv (.t 8),none⟩]) .ret)),none,none⟩
theorem aMu:aN prog (186,aKG):=⟨⟨fun vs w=>call186 vs w,_,_,func186,rfl,rfl,by kernel_rfl,by kernel_rfl⟩,by kernel_rfl,aA rfl,rfl⟩

def aKF:XFn:=⟨14,[(2,none)],false,false,
 (.seq (.reg [] false [⟨0,some 2,.mv (.c (.int .i64 0)),none⟩]) (.seq (.seq (.reg [] false [⟨0,some 3,.mv (.t 0),none⟩,⟨0,some 4,(.bin .eql
 (.t 3) (.c (.int .u32 0))),none⟩]) (.cond (.t 4) (.seq (.reg [] false [⟨0,some 2,.mv (.c (.int .i64 32)),none⟩]) .ret) .skip)) (.seq (.reg [] false
 [⟨0,some 5,.mv (.t 0),none⟩,⟨0,some 6,.mv (.t 0),none⟩,⟨0,some 7,.neg (.t 6),none⟩,⟨0,some 8,.bin .and (.t 5) (.t 7),none⟩,
 ⟨0,some 9,.bin .mul (.t 8) (.c (.int .u32 125613361)),none⟩,⟨0,some 10,.bin .shr (.t 9) (.c (.int .u64 27)),none⟩,⟨0,some 11,(.idxa 32 1
 (.c (.fp [[.int .u8 0,.int .u8 1,.int .u8 28,.int .u8 2,.int .u8 29,.int .u8 14,.int .u8 24,.int .u8 3,.int .u8 30,.int .u8 22,
 (.int .u8 20),.int .u8 15,.int .u8 25,.int .u8 17,.int .u8 4,.int .u8 8,.int .u8 31,.int .u8 27,.int .u8 13,.int .u8 23,(.int
 .u8 21),.int .u8 19,.int .u8 16,.int .u8 7,.int .u8 26,.int .u8 12,.int .u8 18,.int .u8 6,.int .u8 11,.int .u8 5,.int .u8 10,
 (.int .u8 9)]] 0 0)) (.t 10)),none⟩,⟨0,some 12,.load false 1 (.t 11),none⟩,⟨0,some 13,.conv .i64 (.t 12),none⟩,⟨0,some 2,.mv (.t
 13),none⟩]) .ret))),none,none⟩
theorem aMt:aN prog (197,aKF):=⟨⟨fun vs w=>call197 vs w,_,_,func197,rfl,rfl,by kernel_rfl,by kernel_rfl⟩,by kernel_rfl,aA rfl,rfl⟩

def aKE:XFn:=⟨14,[(2,none)],false,false,
 (.seq (.reg [] false [⟨0,some 2,.mv (.c (.int .i64 0)),none⟩]) (.seq (.seq (.reg [] false [⟨0,some 3,.mv (.t 0),none⟩,⟨0,some 4,(.bin .eql
 (.t 3) (.c (.int .u64 0))),none⟩]) (.cond (.t 4) (.seq (.reg [] false [⟨0,some 2,.mv (.c (.int .i64 64)),none⟩]) .ret) .skip)) (.seq (.reg [] false
 [⟨0,some 5,.mv (.t 0),none⟩,⟨0,some 6,.mv (.t 0),none⟩,⟨0,some 7,.neg (.t 6),none⟩,⟨0,some 8,.bin .and (.t 5) (.t 7),none⟩,
 ⟨0,some 9,.bin .mul (.t 8) (.c (.int .u64 285870213051353865)),none⟩,⟨0,some 10,.bin .shr (.t 9) (.c (.int .u64 58)),none⟩,⟨0,some 11,
 (.idxa 64 1 (.c (.fp [[.int .u8 0,.int .u8 1,.int .u8 56,.int .u8 2,.int .u8 57,.int .u8 49,.int .u8 28,.int .u8 3,.int .u8 61,
 (.int .u8 58),.int .u8 42,.int .u8 50,.int .u8 38,.int .u8 29,.int .u8 17,.int .u8 4,.int .u8 62,.int .u8 47,.int .u8 59,(.int
 .u8 36),.int .u8 45,.int .u8 43,.int .u8 51,.int .u8 22,.int .u8 53,.int .u8 39,.int .u8 33,.int .u8 30,.int .u8 24,(.int .u8
 18),.int .u8 12,.int .u8 5,.int .u8 63,.int .u8 55,.int .u8 48,.int .u8 27,.int .u8 60,.int .u8 41,.int .u8 37,.int .u8 16,
 (.int .u8 46),.int .u8 35,.int .u8 44,.int .u8 21,.int .u8 52,.int .u8 32,.int .u8 23,.int .u8 11,.int .u8 54,.int .u8 26,(.int
 .u8 40),.int .u8 15,.int .u8 34,.int .u8 20,.int .u8 31,.int .u8 10,.int .u8 25,.int .u8 14,.int .u8 19,.int .u8 9,(.int .u8
 13),.int .u8 8,.int .u8 7,.int .u8 6]] 0 0)) (.t 10)),none⟩,⟨0,some 12,.load false 1 (.t 11),none⟩,⟨0,some 13,.conv .i64 (.t 12),
 none⟩,⟨0,some 2,.mv (.t 13),none⟩]) .ret))),none,none⟩
theorem aMs:aN prog (198,aKE):=⟨⟨fun vs w=>call198 vs w,_,_,func198,rfl,rfl,by kernel_rfl,by kernel_rfl⟩,by kernel_rfl,aA rfl,rfl⟩

def aKD:XFn:=⟨5,[(2,none)],false,false,
 (.seq (.reg [] false [⟨0,some 2,.mv (.c (.int .u8 0)),none⟩]) (.seq (.reg [] false [⟨0,some 3,.mv (.t 0),none⟩,⟨0,some 4,(.bin .or (.t 3)
 (.c (.int .u8 32))),none⟩,⟨0,some 2,.mv (.t 4),none⟩]) .ret)),none,none⟩
theorem aMr:aN prog (201,aKD):=⟨⟨fun vs w=>call201 vs w,_,_,func201,rfl,rfl,by kernel_rfl,by kernel_rfl⟩,by kernel_rfl,aA rfl,rfl⟩

def aIL:XCode :=
 (.loop [0,3,4,5] (.seq (.seq (.reg [] false [⟨0,some 51,.mv (.t 4),none⟩,⟨0,some 52,.mv (.t 0),none⟩,⟨0,some 53,.len true (.t 52),
 none⟩,⟨0,some 54,.bin .lss (.t 51) (.t 53),none⟩]) (.cond (.t 54) .skip (.exit 0))) (.seq (.block 1 (.seq (.seq (.reg [] false [⟨0,some 57,(.mv
 (.t 0)),none⟩,⟨0,some 58,.mv (.t 4),none⟩,⟨0,some 59,.idxs (.t 57) (.t 58),none⟩,⟨0,some 60,.bin .leq (.c (.int .u8 48)) (.t 59),
 none⟩,⟨0,some 61,.mv (.t 60),none⟩,⟨0,some 62,.mv (.t 0),some (61,true)⟩,⟨0,some 63,.mv (.t 4),some (61,true)⟩,⟨0,some 64,
 (.idxs (.t 62) (.t 63)),some (61,true)⟩,⟨0,some 65,.bin .leq (.t 64) (.c (.int .u8 57)),some (61,true)⟩,⟨0,some 66,.pick (.t 61) (.t
 65) (.c (.bool false)),none⟩,⟨0,some 67,.mv (.t 66),none⟩,⟨0,some 68,.mv (.t 5),some (67,false)⟩,⟨0,some 69,.mv (.t 68),(some
 (67,false))⟩,⟨0,some 70,.mv (.t 0),some (69,true)⟩,⟨0,some 71,.mv (.t 4),some (69,true)⟩,⟨0,some 72,.idxs (.t 70) (.t 71),
 (some (69,true))⟩,⟨0,some 73,(.callf false (.c (.fn (.func 201) [] [])) [.t 72] []),some (69,true)⟩,⟨0,some 74,.bin .leq (.c (.int .u8
 97)) (.t 73),some (69,true)⟩,⟨0,some 75,.pick (.t 69) (.t 74) (.c (.bool false)),some (67,false)⟩,⟨0,some 76,.mv (.t 75),some (67,
 false)⟩,⟨0,some 77,.mv (.t 0),some (76,true)⟩,⟨0,some 78,.mv (.t 4),some (76,true)⟩,⟨0,some 79,.idxs (.t 77) (.t 78),(some
 (76,true))⟩,⟨0,some 80,(.callf false (.c (.fn (.func 201) [] [])) [.t 79] []),some (76,true)⟩,⟨0,some 81,.bin .leq (.t 80) (.c (.int .u8
 102)),some (76,true)⟩,⟨0,some 82,.pick (.t 76) (.t 81) (.c (.bool false)),some (67,false)⟩,⟨0,some 83,(.pick (.t 67) (.c (.bool true))
 (.t 82)),none⟩]) (.cond (.t 83) (.seq (.reg [] false [⟨0,some 3,.mv (.c (.int .i32 48)),none⟩]) (.exit 1)) .skip)) (.seq (.seq (.reg [] false [⟨0,
 (some 84),.mv (.t 0),none⟩,⟨0,some 85,.mv (.t 4),none⟩,⟨0,some 86,.idxs (.t 84) (.t 85),none⟩,⟨0,some 87,.bin .eql (.t 86) (.c
 (.int .u8 95)),none⟩]) (.cond (.t 87) (.seq (.seq (.reg [] false [⟨0,some 88,.mv (.t 3),none⟩,⟨0,some 89,.bin .neq (.t 88) (.c (.int .i32
 48)),none⟩]) (.cond (.t 89) (.seq (.reg [] false [⟨0,some 2,.mv (.c (.bool false)),none⟩]) .ret) .skip)) (.seq (.reg [] false [⟨0,some 3,(.mv
 (.c (.int .i32 95))),none⟩]) (.exit 1))) .skip)) (.seq (.seq (.reg [] false [⟨0,some 90,.mv (.t 3),none⟩,⟨0,some 91,.bin .eql (.t 90) (.c
 (.int .i32 95)),none⟩]) (.cond (.t 91) (.seq (.reg [] false [⟨0,some 2,.mv (.c (.bool false)),none⟩]) .ret) .skip)) (.reg [] false [⟨0,some 3,
 (.mv (.c (.int .i32 33))),none⟩]))))) (.reg [] false [⟨0,some 55,.mv (.t 4),none⟩,⟨0,some 56,.bin .add (.t 55) (.c (.int .i64 1)),none⟩,⟨0,
 (some 4),.mv (.t 56),none⟩]))))
def aKC:XFn:=⟨94,[(2,none)],false,false,
 (.seq (.reg [] false [⟨0,some 2,.mv (.c (.bool false)),none⟩]) (.seq (.reg [] false [⟨0,some 3,.mv (.c (.int .i32 94)),none⟩]) (.seq (.reg []
 false [⟨0,some 4,.mv (.c (.int .i64 0)),none⟩]) (.seq (.seq (.reg [] false [⟨0,some 6,.mv (.t 0),none⟩,⟨0,some 7,.len true (.t 6),
 none⟩,⟨0,some 8,.bin .geq (.t 7) (.c (.int .i64 1)),none⟩,⟨0,some 9,.mv (.t 8),none⟩,⟨0,some 10,.mv (.t 0),some (9,true)⟩,⟨0,
 (some 11),.idxs (.t 10) (.c (.int .i64 0)),some (9,true)⟩,⟨0,some 12,.bin .eql (.t 11) (.c (.int .u8 45)),some (9,true)⟩,⟨0,some 13,
 (.mv (.t 12)),some (9,true)⟩,⟨0,some 14,.mv (.t 0),some (13,false)⟩,⟨0,some 15,.idxs (.t 14) (.c (.int .i64 0)),some (13,false)⟩,
 ⟨0,some 16,.bin .eql (.t 15) (.c (.int .u8 43)),some (13,false)⟩,⟨0,some 17,.pick (.t 13) (.c (.bool true)) (.t 16),some (9,true)⟩,⟨0,
 (some 18),.pick (.t 9) (.t 17) (.c (.bool false)),none⟩]) (.cond (.t 18) (.reg [] false [⟨0,some 19,.mv (.t 0),none⟩,⟨0,some 20,.slstr (.t
 19) (some (.c (.int .i64 1))) none,none⟩,⟨0,some 0,.mv (.t 20),none⟩]) .skip)) (.seq (.reg [] false [⟨0,some 5,.mv (.c (.bool false)),
 none⟩]) (.seq (.seq (.reg [] false [⟨0,some 21,.mv (.t 0),none⟩,⟨0,some 22,.len true (.t 21),none⟩,⟨0,some 23,.bin .geq (.t 22) (.c
 (.int .i64 2)),none⟩,⟨0,some 24,.mv (.t 23),none⟩,⟨0,some 25,.mv (.t 0),some (24,true)⟩,⟨0,some 26,.idxs (.t 25) (.c (.int .i64
 0)),some (24,true)⟩,⟨0,some 27,.bin .eql (.t 26) (.c (.int .u8 48)),some (24,true)⟩,⟨0,some 28,.pick (.t 24) (.t 27) (.c (.bool
 false)),none⟩,⟨0,some 29,.mv (.t 28),none⟩,⟨0,some 30,.mv (.t 0),some (29,true)⟩,⟨0,some 31,.idxs (.t 30) (.c (.int .i64 1)),
 (some (29,true))⟩,⟨0,some 32,(.callf false (.c (.fn (.func 201) [] [])) [.t 31] []),some (29,true)⟩,⟨0,some 33,.bin .eql (.t 32) (.c (.int
 .u8 98)),some (29,true)⟩,⟨0,some 34,.mv (.t 33),some (29,true)⟩,⟨0,some 35,.mv (.t 0),some (34,false)⟩,⟨0,some 36,.idxs (.t
 35) (.c (.int .i64 1)),some (34,false)⟩,⟨0,some 37,(.callf false (.c (.fn (.func 201) [] [])) [.t 36] []),some (34,false)⟩,⟨0,some 38,
 (.bin .eql (.t 37) (.c (.int .u8 111))),some (34,false)⟩,⟨0,some 39,.pick (.t 34) (.c (.bool true)) (.t 38),some (29,true)⟩,⟨0,some 40,
 (.mv (.t 39)),some (29,true)⟩,⟨0,some 41,.mv (.t 0),some (40,false)⟩,⟨0,some 42,.idxs (.t 41) (.c (.int .i64 1)),some (40,false)⟩,
 ⟨0,some 43,(.callf false (.c (.fn (.func 201) [] [])) [.t 42] []),some (40,false)⟩,⟨0,some 44,.bin .eql (.t 43) (.c (.int .u8 120)),(some
 (40,false))⟩,⟨0,some 45,.pick (.t 40) (.c (.bool true)) (.t 44),some (29,true)⟩,⟨0,some 46,.pick (.t 29) (.t 45) (.c (.bool false)),
 none⟩]) (.cond (.t 46) (.seq (.reg [] false [⟨0,some 4,.mv (.c (.int .i64 2)),none⟩]) (.seq (.reg [] false [⟨0,some 3,.mv (.c (.int .i32 48)),
 none⟩]) (.reg [] false [⟨0,some 47,.mv (.t 0),none⟩,⟨0,some 48,.idxs (.t 47) (.c (.int .i64 1)),none⟩,⟨0,some 49,(.callf false (.c (.fn
 (.func 201) [] [])) [.t 48] []),none⟩,⟨0,some 50,.bin .eql (.t 49) (.c (.int .u8 120)),none⟩,⟨0,some 5,.mv (.t 50),none⟩]))) .skip))
 (.seq (.block 0 aIL) (.seq (.reg [] false [⟨0,some 92,.mv (.t 3),none⟩,⟨0,some 93,.bin .neq (.t 92) (.c (.int .i32 95)),none⟩,⟨0,(some
 2),.mv (.t 93),none⟩]) .ret)))))))),none,none⟩
theorem aMq:aN prog (202,aKC):=⟨⟨fun vs w=>call202 vs w,_,_,func202,rfl,rfl,by kernel_rfl,by kernel_rfl⟩,by kernel_rfl,aA rfl,rfl⟩

end Go.Proofs.YtmapgnepfgnphaaGreatDoor
end
section
set_option maxRecDepth 100000
namespace Go.Proofs.YtmapgnepfgnphaaGreatDoor
open Go Go.DL Go.Proofs.Tryz

def aIK:XCode :=
 (.loop [1,3,25,26,27] (.seq (.reg [] false [⟨0,some 28,.bin .lss (.t 27) (.t 26),none⟩]) (.seq (.cond (.t 28) .skip (.exit 1)) (.seq (.block 2
 (.seq (.reg [] false [⟨0,some 29,.idx 2 (.t 25) (.t 27),none⟩,⟨0,some 30,.load true 2 (.t 29),none⟩,⟨0,some 5,(.alloc [.int .i64 0,
 .nilsl]),none⟩,⟨0,none,(.store 2 (.t 5) (.t 30) []),none⟩]) (.block 3 (.seq (.reg [(1,true)] true [⟨0,some 32,.fld 1 (.t 5),none⟩,⟨1,(some
 33),.load false 1 (.t 32),none⟩,⟨2,some 34,.len false (.t 33),none⟩,⟨3,some 35,.load true 1 (.t 1),none⟩,⟨4,some 36,(.callf false
 (.c (.fn (.func 205) [] [])) [.t 35] [1]),none⟩,⟨5,some 37,.bin .neq (.t 34) (.t 36),none⟩,⟨6,some 31,.mv (.t 37),none⟩]) (.cond (.t 31)
 (.seq (.reg [] false [⟨0,some 2,.mv (.c (.int .i64 3)),none⟩]) .ret) (.seq (.reg [(5,true),(3,false)] false [⟨0,some 39,.fld 0 (.t 5),
 none⟩,⟨0,some 40,.load false 1 (.t 39),none⟩,⟨0,some 41,(.callf false (.c (.fn (.func 212) [] [])) [.c (.int .i64 1),.t 40,.c (.int .i64
 10000000)] []),none⟩,⟨0,some 42,.not (.t 41),none⟩,⟨0,some 43,.mv (.t 42),none⟩,⟨0,some 44,.fld 1 (.t 5),some (43,false)⟩,⟨0,
 (some 45),.load false 1 (.t 44),some (43,false)⟩,⟨0,some 46,.mv (.t 3),some (43,false)⟩,⟨0,some 47,(.callf false (.c (.fn (.func 213)
 [] [])) [.t 45,.t 46] []),some (43,false)⟩,⟨0,some 48,.pick (.t 43) (.c (.bool true)) (.t 47),none⟩,⟨0,some 38,.mv (.t 48),none⟩])
 (.cond (.t 38) (.seq (.reg [] false [⟨0,some 2,.mv (.c (.int .i64 2)),none⟩]) .ret) .skip))))))) (.reg [] false [⟨0,some 49,(.bin .add (.t 27)
 (.c (.int .i64 1))),none⟩,⟨0,some 27,.mv (.t 49),none⟩])))))
def aKB:XFn:=⟨50,[(2,none)],false,false,
 (.seq (.reg [] false [⟨0,some 1,.box (.t 0),none⟩,⟨0,some 2,.mv (.c (.int .i64 0)),none⟩]) (.seq (.block 0 (.seq (.reg [] false [⟨0,some 7,
 (.fld 0 (.t 1)),none⟩,⟨0,some 8,.load false 1 (.t 7),none⟩,⟨0,some 9,.len false (.t 8),none⟩,⟨0,some 10,.bin .eql (.t 9) (.c (.int
 .i64 0)),none⟩,⟨0,some 6,.mv (.t 10),none⟩]) (.cond (.t 6) (.seq (.reg [] false [⟨0,some 2,.mv (.c (.int .i64 4)),none⟩]) .ret) (.seq (.reg
 [] false [⟨0,some 12,.fld 0 (.t 1),none⟩,⟨0,some 13,.load false 1 (.t 12),none⟩,⟨0,some 14,.len false (.t 13),none⟩,⟨0,some 15,
 (.bin .gtr (.t 14) (.c (.int .i64 3))),none⟩,⟨0,some 11,.mv (.t 15),none⟩]) (.cond (.t 11) (.seq (.reg [] false [⟨0,some 2,.mv (.c (.int .i64
 1)),none⟩]) .ret) (.seq (.reg [(1,true)] false [⟨0,some 17,.load true 1 (.t 1),none⟩,⟨0,some 18,(.callf false (.c (.fn (.func 205) [] []))
 [.t 17] []),none⟩,⟨0,some 19,.bin .eql (.t 18) (.c (.int .i64 0)),none⟩,⟨0,some 16,.mv (.t 19),none⟩]) (.cond (.t 16) (.seq (.reg []
 false [⟨0,some 2,.mv (.c (.int .i64 4)),none⟩]) .ret) (.seq (.reg [(1,true)] false [⟨0,some 21,.load true 1 (.t 1),none⟩,⟨0,some 22,
 (.callf false (.c (.fn (.func 205) [] [])) [.t 21] []),none⟩,⟨0,some 23,.bin .gtr (.t 22) (.c (.int .i64 9)),none⟩,⟨0,some 20,.mv (.t 23),
 none⟩]) (.cond (.t 20) (.seq (.reg [] false [⟨0,some 2,.mv (.c (.int .i64 1)),none⟩]) .ret) .skip))))))))) (.seq (.reg [] false [⟨0,some 3,(.mv
 (.c (.fn (.func 211) [] []))),none⟩]) (.seq (.seq (.reg [] false [⟨0,some 24,.fld 0 (.t 1),none⟩,⟨0,some 25,.load false 1 (.t 24),none⟩,⟨0,
 (some 26),.len false (.t 25),none⟩,⟨0,some 27,.mv (.c (.int .i64 0)),none⟩]) (.block 1 aIK)) (.seq (.reg [] false [⟨0,some 2,.mv (.c
 (.int .i64 0)),none⟩]) .ret))))),none,none⟩
theorem aMp:aN prog (203,aKB):=⟨⟨fun vs w=>call203 vs w,_,_,func203,rfl,rfl,by kernel_rfl,by kernel_rfl⟩,by kernel_rfl,aA rfl,rfl⟩

def aIJ:XCode :=
 (.loop [1,5,9,10,11] (.seq (.reg [] false [⟨0,some 12,.bin .lss (.t 11) (.t 10),none⟩]) (.seq (.cond (.t 12) .skip (.exit 0)) (.seq (.block 1 (.seq
 (.reg [] false [⟨0,some 13,.mv (.t 11),none⟩,⟨0,some 14,.idx 2 (.t 9) (.t 11),none⟩,⟨0,some 15,.load true 2 (.t 14),none⟩,⟨0,(some
 7),(.alloc [.int .i64 0,.nilsl]),none⟩,⟨0,some 6,.mv (.t 13),none⟩,⟨0,none,(.store 2 (.t 7) (.t 15) []),none⟩]) (.seq (.reg [] false [⟨0,
 (some 16),.mv (.t 6),none⟩,⟨0,some 17,.mv (.t 1),none⟩,⟨0,some 18,.bin .neq (.t 16) (.t 17),none⟩]) (.cond (.t 18) (.reg [] false [⟨0,
 (some 19),.mv (.t 5),none⟩,⟨0,some 20,.load true 2 (.t 7),none⟩,⟨0,some 21,.mkifc 203 (.t 20),none⟩,⟨0,some 22,(.bslice 1 1
 [.nilifc] [(0,(1,(.t 21)))]),none⟩,⟨0,some 23,.app 1 16 (.t 19) (.t 22),none⟩,⟨0,some 5,.mv (.t 23),none⟩]) .skip)))) (.reg [] false [⟨0,
 (some 24),.bin .add (.t 11) (.c (.int .i64 1)),none⟩,⟨0,some 11,.mv (.t 24),none⟩])))))
def aKA:XFn:=⟨26,[(4,none)],false,false,
 (.seq (.reg [] false [⟨0,some 2,.box (.t 0),none⟩,⟨0,some 4,.mv (.c .nilsl),none⟩]) (.seq (.reg [] false [⟨0,some 5,.mv (.c .nilsl),
 none⟩]) (.seq (.seq (.reg [] false [⟨0,some 8,.fld 0 (.t 2),none⟩,⟨0,some 9,.load false 1 (.t 8),none⟩,⟨0,some 10,.len false (.t 9),
 none⟩,⟨0,some 11,.mv (.c (.int .i64 0)),none⟩]) (.block 0 aIJ)) (.seq (.reg [] false [⟨0,some 25,.mv (.t 5),none⟩,⟨0,some 4,.mv (.t
 25),none⟩]) .ret)))),none,none⟩
theorem aMo:aN prog (204,aKA):=⟨⟨fun vs w=>call204 vs w,_,_,func204,rfl,rfl,by kernel_rfl,by kernel_rfl⟩,by kernel_rfl,aA rfl,rfl⟩

def aKz:XFn:=⟨9,[(2,none)],false,false,
 (.seq (.reg [] false [⟨0,some 1,.box (.t 0),none⟩,⟨0,some 2,.mv (.c (.int .i64 0)),none⟩]) (.seq (.reg [] false [⟨0,some 3,.fld 0 (.t 1),
 none⟩,⟨0,some 4,.load false 1 (.t 3),none⟩,⟨0,some 5,.idx 2 (.t 4) (.c (.int .i64 0)),none⟩,⟨0,some 6,.fld 1 (.t 5),none⟩,⟨0,(some
 7),.load false 1 (.t 6),none⟩,⟨0,some 8,.len false (.t 7),none⟩,⟨0,some 2,.mv (.t 8),none⟩]) .ret)),none,none⟩
theorem aMn:aN prog (205,aKz):=⟨⟨fun vs w=>call205 vs w,_,_,func205,rfl,rfl,by kernel_rfl,by kernel_rfl⟩,by kernel_rfl,aA rfl,rfl⟩

def aII:XCode :=
 (.loop [0,1,2,4] (.seq (.seq (.reg [] false [⟨0,some 5,.mv (.t 4),none⟩,⟨0,some 6,.fld 3 (.t 1),none⟩,⟨0,some 7,.load false 1 (.t 6),
 none⟩,⟨0,some 8,.bin .leq (.t 5) (.t 7),none⟩]) (.cond (.t 8) .skip (.exit 0))) (.seq (.block 1 (.seq (.reg [(2,true)] false [⟨0,some 11,(.mv
 (.t 4)),none⟩,⟨0,some 12,.mv (.t 4),none⟩,⟨0,some 13,.load false 1 (.t 2),none⟩,⟨0,some 14,(.callf false (.c (.fn (.func 207) [] []))
 [.t 12,.t 13] []),none⟩,⟨0,some 15,.bin .eql (.t 11) (.t 14),none⟩,⟨0,some 16,.mv (.t 15),none⟩,⟨0,some 17,.mv (.t 0),(some
 (16,true))⟩,⟨0,some 18,.mv (.t 4),some (16,true)⟩,⟨0,some 19,(.callf false (.t 17) [.t 18] []),some (16,true)⟩,⟨0,some 20,(.not
 (.t 19)),some (16,true)⟩,⟨0,some 21,.pick (.t 16) (.t 20) (.c (.bool false)),none⟩]) (.cond (.t 21) .ret .skip))) (.reg [] false [⟨0,some 9,
 (.mv (.t 4)),none⟩,⟨0,some 10,.bin .add (.t 9) (.c (.int .u64 1)),none⟩,⟨0,some 4,.mv (.t 10),none⟩]))))
def aKy:XFn:=⟨22,[],false,false,
 (.seq (.reg [] false [⟨0,some 4,.mv (.c (.int .u64 0)),none⟩]) (.block 0 aII)),none,none⟩
theorem aMm:aN prog (206,aKy):=⟨⟨fun vs w=>call206 vs w,_,_,func206,rfl,rfl,by kernel_rfl,by kernel_rfl⟩,by kernel_rfl,aA rfl,rfl⟩

def aIH:XCode :=
 (.loop [0,7,8,9] (.seq (.reg [] false [⟨0,some 10,.bin .lss (.t 9) (.t 8),none⟩]) (.seq (.cond (.t 10) .skip (.exit 0)) (.seq (.block 1 (.seq (.reg
 [] false [⟨0,some 11,.idx 1 (.t 7) (.t 9),none⟩,⟨0,some 12,.load false 1 (.t 11),none⟩,⟨0,some 6,.mv (.t 12),none⟩]) (.reg [] false
 [⟨0,some 13,.mv (.t 0),none⟩,⟨0,some 14,.mv (.t 6),none⟩,⟨0,some 15,.bin .shl (.c (.int .u64 1)) (.t 14),none⟩,⟨0,some 16,(.bin
 .andNot (.t 13) (.t 15)),none⟩,⟨0,some 0,.mv (.t 16),none⟩]))) (.reg [] false [⟨0,some 17,.bin .add (.t 9) (.c (.int .i64 1)),none⟩,⟨0,
 (some 9),.mv (.t 17),none⟩])))))
def aKx:XFn:=⟨19,[(4,none)],false,false,
 (.seq (.reg [] false [⟨0,some 4,.mv (.c (.int .u64 0)),none⟩]) (.seq (.seq (.reg [] false [⟨0,some 7,.mv (.t 1),none⟩,⟨0,some 8,(.len false
 (.t 7)),none⟩,⟨0,some 9,.mv (.c (.int .i64 0)),none⟩]) (.block 0 aIH)) (.seq (.reg [] false [⟨0,some 18,.mv (.t 0),none⟩,⟨0,some 4,
 (.mv (.t 18)),none⟩]) .ret))),none,none⟩
theorem aMl:aN prog (207,aKx):=⟨⟨fun vs w=>call207 vs w,_,_,func207,rfl,rfl,by kernel_rfl,by kernel_rfl⟩,by kernel_rfl,aA rfl,rfl⟩

def aKw:XFn:=⟨6,[(2,none)],false,false,
 (.seq (.reg [] false [⟨0,some 2,.mv (.c (.bool false)),none⟩]) (.seq (.reg [(0,false)] false [⟨0,some 3,.mv (.t 0),none⟩,⟨0,some 4,(.callf
 false (.c (.fn (.func 212) [] [])) [.c (.int .i64 0),.t 3,.c (.int .i64 1000000)] []),none⟩,⟨0,some 5,.not (.t 4),none⟩,⟨0,some 2,(.mv
 (.t 5)),none⟩]) .ret)),none,none⟩
theorem aMk:aN prog (211,aKw):=⟨⟨fun vs w=>call211 vs w,_,_,func211,rfl,rfl,by kernel_rfl,by kernel_rfl⟩,by kernel_rfl,aA rfl,rfl⟩

def aKv:XFn:=⟨15,[(6,none)],false,false,
 (.seq (.reg [] false [⟨0,some 6,.mv (.c (.bool false)),none⟩]) (.seq (.reg [] false [⟨0,some 7,.mv (.t 0),none⟩,⟨0,some 8,.mv (.t 1),
 none⟩,⟨0,some 9,.bin .leq (.t 7) (.t 8),none⟩,⟨0,some 10,.mv (.t 9),none⟩,⟨0,some 11,.mv (.t 1),some (10,true)⟩,⟨0,some 12,
 (.mv (.t 2)),some (10,true)⟩,⟨0,some 13,.bin .leq (.t 11) (.t 12),some (10,true)⟩,⟨0,some 14,.pick (.t 10) (.t 13) (.c (.bool false)),
 none⟩,⟨0,some 6,.mv (.t 14),none⟩]) .ret)),none,none⟩
theorem aMj:aN prog (212,aKv):=⟨⟨fun vs w=>call212 vs w,_,_,func212,rfl,rfl,by kernel_rfl,by kernel_rfl⟩,by kernel_rfl,aA rfl,rfl⟩

def aKu:XFn:=⟨9,[(4,none)],false,false,
 (.seq (.reg [] false [⟨0,some 4,.mv (.c (.bool false)),none⟩]) (.seq (.reg [(0,false),(1,false)] false [⟨0,some 5,.mv (.t 0),none⟩,⟨0,(some
 6),.mv (.t 1),none⟩,⟨0,some 7,(.callf false (.c (.fn (.func 215) [] [])) [.t 5,.t 6] []),none⟩,⟨0,some 8,.bin .geq (.t 7) (.c (.int
 .i64 0)),none⟩,⟨0,some 4,.mv (.t 8),none⟩]) .ret)),none,none⟩
theorem aMi:aN prog (213,aKu):=⟨⟨fun vs w=>call213 vs w,_,_,func213,rfl,rfl,by kernel_rfl,by kernel_rfl⟩,by kernel_rfl,aA rfl,rfl⟩

def aIG:XCode :=
 (.loop [0,1,7,8] (.seq (.reg [] false [⟨0,some 9,.bin .lss (.t 8) (.t 7),none⟩]) (.seq (.cond (.t 9) .skip (.exit 0)) (.seq (.block 1 (.seq (.reg []
 false [⟨0,some 10,.mv (.t 8),none⟩,⟨0,some 5,.mv (.t 10),none⟩]) (.seq (.reg [] false [⟨0,some 11,.mv (.t 1),none⟩,⟨0,some 12,
 (.mv (.t 0)),none⟩,⟨0,some 13,.mv (.t 5),none⟩,⟨0,some 14,.idx 1 (.t 12) (.t 13),none⟩,⟨0,some 15,.load false 1 (.t 14),none⟩,⟨0,
 (some 16),(.callf false (.t 11) [.t 15] []),none⟩]) (.cond (.t 16) (.seq (.reg [] false [⟨0,some 17,.mv (.t 5),none⟩,⟨0,some 4,.mv (.t
 17),none⟩]) .ret) .skip)))) (.reg [] false [⟨0,some 18,.bin .add (.t 8) (.c (.int .i64 1)),none⟩,⟨0,some 8,.mv (.t 18),none⟩])))))
def aKt:XFn:=⟨19,[(4,none)],false,false,
 (.seq (.reg [] false [⟨0,some 4,.mv (.c (.int .i64 0)),none⟩]) (.seq (.seq (.reg [] false [⟨0,some 6,.mv (.t 0),none⟩,⟨0,some 7,(.len false
 (.t 6)),none⟩,⟨0,some 8,.mv (.c (.int .i64 0)),none⟩]) (.block 0 aIG)) (.seq (.reg [] false [⟨0,some 4,.mv (.c (.int .i64 (-1))),none⟩])
 .ret))),none,none⟩
theorem aMh:aN prog (215,aKt):=⟨⟨fun vs w=>call215 vs w,_,_,func215,rfl,rfl,by kernel_rfl,by kernel_rfl⟩,by kernel_rfl,aA rfl,rfl⟩

def aKs:XFn:=⟨18,[(4,none)],false,false,
 (.seq (.reg [] false [⟨0,some 2,.box (.t 0),none⟩,⟨0,some 4,.mv (.c (.int .i64 0)),none⟩]) (.seq (.reg [] false [⟨0,some 5,(.alloc [(.int
 .i64 0)]),none⟩,⟨0,none,(.store 1 (.t 5) (.c (.int .i64 0)) []),none⟩]) (.seq (.seq (.reg [(1,false)] false [⟨0,some 7,.mv (.t 1),none⟩,⟨0,
 (some 8),(.callf false (.c (.fn (.func 236) [] [])) [.t 7] []),none⟩]) (.block 0 (.rng 0 [2,5] (.t 8) [9] (.reg [] false [⟨0,some 6,.mv (.t 9),
 none⟩]) (.block 1 (.reg [] true [⟨0,some 10,.load false 1 (.t 5),none⟩,⟨1,some 11,.fld 1 (.t 2),none⟩,⟨2,some 12,.load false 1 (.t
 11),none⟩,⟨3,some 13,.mv (.t 6),none⟩,⟨4,some 14,.idx 1 (.t 12) (.t 13),none⟩,⟨5,some 15,.load false 1 (.t 14),none⟩,⟨6,(some
 16),.bin .add (.t 10) (.t 15),none⟩,⟨7,none,(.store 1 (.t 5) (.t 16) []),none⟩]))))) (.seq (.reg [] false [⟨0,some 17,.load false 1 (.t 5),
 none⟩,⟨0,some 4,.mv (.t 17),none⟩]) .ret)))),none,none⟩
theorem aMg:aN prog (234,aKs):=⟨⟨fun vs w=>call234 vs w,_,_,func234,rfl,rfl,by kernel_rfl,by kernel_rfl⟩,by kernel_rfl,⟨aA rfl,⟨aA rfl,⟨⟨aA rfl,⟨by kernel_rfl,aA rfl,aA rfl⟩⟩,aA rfl⟩⟩⟩,rfl⟩

def aKr:XFn:=⟨11,[(4,none)],false,false,
 (.seq (.reg [] false [⟨0,some 2,.box (.t 0),none⟩,⟨0,some 4,.mv (.c (.bool false)),none⟩]) (.seq (.reg [(2,true),(1,false)] true [⟨0,(some
 5),.load true 2 (.t 2),none⟩,⟨1,some 6,.mv (.t 1),none⟩,⟨3,some 8,.fld 0 (.t 2),none⟩,⟨4,some 9,.load false 1 (.t 8),none⟩,⟨2,
 (some 7),(.callf false (.c (.fn (.func 234) [] [])) [.t 5,.t 6] [4]),none⟩,⟨5,some 10,.bin .geq (.t 7) (.t 9),none⟩,⟨6,some 4,.mv (.t
 10),none⟩]) .ret)),none,none⟩
theorem aMf:aN prog (235,aKr):=⟨⟨fun vs w=>call235 vs w,_,_,func235,rfl,rfl,by kernel_rfl,by kernel_rfl⟩,by kernel_rfl,aA rfl,rfl⟩

def aKq:XFn:=⟨4,[(2,none)],false,false,
 (.seq (.reg [] false [⟨0,some 1,.box (.t 0),none⟩,⟨0,some 2,.mv (.c .nilfn),none⟩]) (.seq (.reg [] false [⟨0,some 3,(.mkf (.func 237) []
 [.t 1]),none⟩,⟨0,some 2,.mv (.t 3),none⟩]) .ret)),none,none⟩
theorem aMe:aN prog (236,aKq):=⟨⟨fun vs w=>call236 vs w,_,_,func236,rfl,rfl,by kernel_rfl,by kernel_rfl⟩,by kernel_rfl,aA rfl,rfl⟩

def aIF:XCode :=
 (.loop [0,1] (.seq (.seq (.reg [] false [⟨0,some 3,.load false 1 (.t 1),none⟩,⟨0,some 4,.bin .neq (.t 3) (.c (.int .u64 0)),none⟩]) (.cond (.t
 4) .skip (.exit 0))) (.seq (.block 1 (.seq (.reg [(1,true)] false [⟨0,some 9,.mv (.t 0),none⟩,⟨0,some 10,.load false 1 (.t 1),none⟩,⟨0,
 (some 11),(.callf false (.c (.fn (.func 175) [] [])) [.t 10] []),none⟩,⟨0,some 12,(.callf false (.t 9) [.t 11] []),none⟩,⟨0,some 13,(.not
 (.t 12)),none⟩]) (.cond (.t 13) .ret .skip))) (.reg [] false [⟨0,some 5,.load false 1 (.t 1),none⟩,⟨0,some 6,.load false 1 (.t 1),none⟩,⟨0,
 (some 7),.bin .sub (.t 6) (.c (.int .u64 1)),none⟩,⟨0,some 8,.bin .and (.t 5) (.t 7),none⟩,⟨0,none,(.store 1 (.t 1) (.t 8) []),none⟩]))))
def aKp:XFn:=⟨14,[],false,false,
 (.block 0 aIF),none,none⟩
theorem aMd:aN prog (237,aKp):=⟨⟨fun vs w=>call237 vs w,_,_,func237,rfl,rfl,by kernel_rfl,by kernel_rfl⟩,by kernel_rfl,aA rfl,rfl⟩

def aKo:XFn:=⟨9,[(4,none)],false,false,
 (.seq (.reg [] false [⟨0,some 3,.box (.t 1),none⟩,⟨0,some 4,.mv (.c (.bool false)),none⟩]) (.seq (.reg [(0,false)] false [⟨0,some 5,(.mv
 (.t 0)),none⟩,⟨0,some 6,(.mkf (.func 244) [] [.t 3]),none⟩,⟨0,some 7,(.callf false (.c (.fn (.func 243) [] [])) [.t 5,.t 6] []),none⟩,
 ⟨0,some 8,.not (.t 7),none⟩,⟨0,some 4,.mv (.t 8),none⟩]) .ret)),none,none⟩
theorem aMc:aN prog (242,aKo):=⟨⟨fun vs w=>call242 vs w,_,_,func242,rfl,rfl,by kernel_rfl,by kernel_rfl⟩,by kernel_rfl,aA rfl,rfl⟩

def aKn:XFn:=⟨9,[(4,none)],false,false,
 (.seq (.reg [] false [⟨0,some 4,.mv (.c (.bool false)),none⟩]) (.seq (.reg [(0,false),(1,false)] false [⟨0,some 5,.mv (.t 0),none⟩,⟨0,(some
 6),.mv (.t 1),none⟩,⟨0,some 7,(.callf false (.c (.fn (.func 245) [] [])) [.t 5,.t 6] []),none⟩,⟨0,some 8,.bin .geq (.t 7) (.c (.int
 .i64 0)),none⟩,⟨0,some 4,.mv (.t 8),none⟩]) .ret)),none,none⟩
theorem aMb:aN prog (243,aKn):=⟨⟨fun vs w=>call243 vs w,_,_,func243,rfl,rfl,by kernel_rfl,by kernel_rfl⟩,by kernel_rfl,aA rfl,rfl⟩

def aKm:XFn:=⟨8,[(3,none)],false,false,
 (.seq (.reg [] false [⟨0,some 3,.mv (.c (.bool false)),none⟩]) (.seq (.reg [(1,true)] false [⟨0,some 4,.mv (.t 0),none⟩,⟨0,some 5,(.load
 false 1 (.t 1)),none⟩,⟨0,some 6,(.callf false (.meth [(203,235),(283,242)] 4) [.t 5] []),none⟩,⟨0,some 7,.not (.t 6),none⟩,⟨0,(some
 3),.mv (.t 7),none⟩]) .ret)),none,none⟩
theorem aMa:aN prog (244,aKm):=⟨⟨fun vs w=>call244 vs w,_,_,func244,rfl,rfl,by kernel_rfl,by kernel_rfl⟩,by kernel_rfl,aA rfl,rfl⟩

def aIE:XCode :=
 (.loop [0,1,7,8] (.seq (.reg [] false [⟨0,some 9,.bin .lss (.t 8) (.t 7),none⟩]) (.seq (.cond (.t 9) .skip (.exit 0)) (.seq (.block 1 (.seq (.reg []
 false [⟨0,some 10,.mv (.t 8),none⟩,⟨0,some 5,.mv (.t 10),none⟩]) (.seq (.reg [] false [⟨0,some 11,.mv (.t 1),none⟩,⟨0,some 12,
 (.mv (.t 0)),none⟩,⟨0,some 13,.mv (.t 5),none⟩,⟨0,some 14,.idx 1 (.t 12) (.t 13),none⟩,⟨0,some 15,.load false 1 (.t 14),none⟩,⟨0,
 (some 16),(.callf false (.t 11) [.t 15] []),none⟩]) (.cond (.t 16) (.seq (.reg [] false [⟨0,some 17,.mv (.t 5),none⟩,⟨0,some 4,.mv (.t
 17),none⟩]) .ret) .skip)))) (.reg [] false [⟨0,some 18,.bin .add (.t 8) (.c (.int .i64 1)),none⟩,⟨0,some 8,.mv (.t 18),none⟩])))))
def aKl:XFn:=⟨19,[(4,none)],false,false,
 (.seq (.reg [] false [⟨0,some 4,.mv (.c (.int .i64 0)),none⟩]) (.seq (.seq (.reg [] false [⟨0,some 6,.mv (.t 0),none⟩,⟨0,some 7,(.len false
 (.t 6)),none⟩,⟨0,some 8,.mv (.c (.int .i64 0)),none⟩]) (.block 0 aIE)) (.seq (.reg [] false [⟨0,some 4,.mv (.c (.int .i64 (-1))),none⟩])
 .ret))),none,none⟩
theorem aLZ:aN prog (245,aKl):=⟨⟨fun vs w=>call245 vs w,_,_,func245,rfl,rfl,by kernel_rfl,by kernel_rfl⟩,by kernel_rfl,aA rfl,rfl⟩

end Go.Proofs.YtmapgnepfgnphaaGreatDoor
end
