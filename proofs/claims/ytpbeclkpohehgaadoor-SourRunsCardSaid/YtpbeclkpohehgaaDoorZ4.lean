/- Parts of a proof, joined: G0 G1 G2. No statement of the seed is proved here. -/
import Derived.KernelRfl
import Derived.Test.YtpbeclkpohehgaaDoorProg
import Derived.Test.YtpbeclkpohehgaaDoorZ3
set_option linter.unusedSimpArgs false
set_option linter.unusedVariables false
set_option linter.unusedSectionVars false
section
set_option maxRecDepth 100000
namespace Go.Proofs.YtpbeclkpohehgaaDoor
open Go Go.DL Go.Proofs.Tryd

/-- gosem.cut.init -/
def x2 : XFn := ⟨1, [], false, false,
  (.reg [] false [⟨0, (some 0), (.callf false (.c (.fn (.func 1) [] [])) [] []), none⟩])⟩
theorem is2 : FnIs prog 2 x2.fn := ⟨fun vs w => call2 vs w, _, _, func2, rfl, rfl, by kernel_rfl, by kernel_rfl⟩
theorem ok2 : okX x2.body = true := by kernel_rfl
theorem st2 : sitesP x2 x2.body := (sitesP_of rfl)

/-- zafra/zafralaw04.SourRuns -/
def x3 : XFn := ⟨85, [(4, none)], false, false,
  (.seq (.reg [] false [⟨0, (some 2), (.box (.t 0)), none⟩, ⟨0, (some 4), (.mv (.c (.bool false))), none⟩]) (.seq (.seq (.reg [(2, true)] false [⟨0, (some 16),
  (.load true 5 (.t 2)), none⟩, ⟨0, (some 17), (.callf false (.c (.fn (.func 14) [] [])) [(.t 16)] []), none⟩, ⟨0, (some 18), (.mv (.t 17)), none⟩, ⟨0, (some
  19), (.mv (.t 1)), (some (18, false))⟩, ⟨0, (some 20), (.len false (.t 19)), (some (18, false))⟩, ⟨0, (some 21), (.bin .gtr (.t 20) (.c (.int .i64 30))),
  (some (18, false))⟩, ⟨0, (some 22), (.pick (.t 18) (.c (.bool true)) (.t 21)), none⟩]) (.cond (.t 22) (.seq (.reg [] false [⟨0, (some 23), (.callf false (.c
  (.fn (.func 15) [] [])) [] []), none⟩, ⟨0, (some 4), (.mv (.t 23)), none⟩]) .ret) .skip)) (.seq (.reg [(2, true)] false [⟨0, (some 24), (.load true 5 (.t
  2)), none⟩, ⟨0, (some 25), (.callf false (.c (.fn (.func 16) [] [])) [(.t 24)] []), none⟩, ⟨0, (some 5), (.alloc [.nilsl, .nilsl, .nilsl, (.int .i64 0),
  (.int .i64 0)]), none⟩, ⟨0, none, (.store 5 (.t 5) (.t 25) []), none⟩]) (.seq (.reg [(2, true), (1, false)] false [⟨0, (some 27), (.load true 5 (.t 2)),
  none⟩, ⟨0, (some 28), (.mv (.t 1)), none⟩, ⟨0, (some 29), (.callf false (.c (.fn (.func 17) [] [])) [(.t 27), (.t 28)] []), none⟩, ⟨0, (some 26), (.mv (.t
  29)), none⟩, ⟨0, (some 30), (.ext (.t 26) 0), none⟩, ⟨0, (some 31), (.ext (.t 26) 1), none⟩, ⟨0, (some 32), (.ext (.t 26) 2), none⟩, ⟨0, (some 6), (.mv (.t
  30)), none⟩, ⟨0, (some 7), (.mv (.t 31)), none⟩, ⟨0, (some 8), (.mv (.t 32)), none⟩]) (.seq (.reg [(5, true), (1, false)] false [⟨0, (some 34), (.load true
  5 (.t 5)), none⟩, ⟨0, (some 35), (.mv (.t 1)), none⟩, ⟨0, (some 36), (.callf false (.c (.fn (.func 18) [] [])) [(.t 34), (.t 35)] []), none⟩, ⟨0, (some 33),
  (.mv (.t 36)), none⟩, ⟨0, (some 37), (.ext (.t 33) 0), none⟩, ⟨0, (some 38), (.ext (.t 33) 1), none⟩, ⟨0, (some 39), (.ext (.t 33) 2), none⟩, ⟨0, (some 9),
  (.mv (.t 37)), none⟩, ⟨0, (some 10), (.mv (.t 38)), none⟩, ⟨0, (some 11), (.mv (.t 39)), none⟩]) (.seq (.reg [(2, true), (1, false)] false [⟨0, (some 41),
  (.load true 5 (.t 2)), none⟩, ⟨0, (some 42), (.mv (.t 1)), none⟩, ⟨0, (some 43), (.callf false (.c (.fn (.func 19) [] [])) [(.t 41), (.t 42)] []), none⟩,
  ⟨0, (some 40), (.mv (.t 43)), none⟩, ⟨0, (some 44), (.ext (.t 40) 0), none⟩, ⟨0, (some 45), (.ext (.t 40) 1), none⟩, ⟨0, (some 12), (.mv (.t 44)), none⟩,
  ⟨0, (some 13), (.mv (.t 45)), none⟩]) (.seq (.reg [(5, true), (1, false)] false [⟨0, (some 47), (.load true 5 (.t 5)), none⟩, ⟨0, (some 48), (.mv (.t 1)),
  none⟩, ⟨0, (some 49), (.callf false (.c (.fn (.func 20) [] [])) [(.t 47), (.t 48)] []), none⟩, ⟨0, (some 46), (.mv (.t 49)), none⟩, ⟨0, (some 50), (.ext (.t
  46) 0), none⟩, ⟨0, (some 51), (.ext (.t 46) 1), none⟩, ⟨0, (some 14), (.mv (.t 50)), none⟩, ⟨0, (some 15), (.mv (.t 51)), none⟩]) (.seq (.reg [(6, false),
  (9, false), (7, false), (10, false), (2, true), (5, true)] true [⟨0, (some 52), (.mv (.t 6)), none⟩, ⟨1, (some 53), (.mv (.t 9)), none⟩, ⟨2, (some 54),
  (.callf false (.c (.fn (.func 21) [] [])) [(.t 52), (.t 53)] []), none⟩, ⟨3, (some 55), (.mv (.t 54)), none⟩, ⟨4, (some 56), (.mv (.t 7)), (some (55,
  true))⟩, ⟨5, (some 57), (.mv (.t 10)), (some (55, true))⟩, ⟨6, (some 58), (.callf false (.c (.fn (.func 21) [] [])) [(.t 56), (.t 57)] []), (some (55,
  true))⟩, ⟨7, (some 59), (.pick (.t 55) (.t 58) (.c (.bool false))), none⟩, ⟨8, (some 60), (.mv (.t 59)), none⟩, ⟨9, (some 61), (.mv (.t 8)), (some (60,
  true))⟩, ⟨10, (some 62), (.mv (.t 11)), (some (60, true))⟩, ⟨11, (some 63), (.bin .eql (.t 61) (.t 62)), (some (60, true))⟩, ⟨12, (some 64), (.pick (.t 60)
  (.t 63) (.c (.bool false))), none⟩, ⟨13, (some 65), (.mv (.t 64)), none⟩, ⟨14, (some 66), (.mv (.t 12)), (some (65, true))⟩, ⟨15, (some 67), (.mv (.t 14)),
  (some (65, true))⟩, ⟨16, (some 68), (.bin .eql (.t 66) (.t 67)), (some (65, true))⟩, ⟨17, (some 69), (.pick (.t 65) (.t 68) (.c (.bool false))), none⟩, ⟨18,
  (some 70), (.mv (.t 69)), none⟩, ⟨19, (some 71), (.mv (.t 13)), (some (70, true))⟩, ⟨20, (some 72), (.mv (.t 15)), (some (70, true))⟩, ⟨21, (some 73), (.bin
  .eql (.t 71) (.t 72)), (some (70, true))⟩, ⟨22, (some 74), (.pick (.t 70) (.t 73) (.c (.bool false))), none⟩, ⟨23, (some 75), (.mv (.t 74)), none⟩, ⟨24,
  (some 76), (.load true 5 (.t 2)), (some (75, true))⟩, ⟨26, (some 78), (.load true 5 (.t 5)), (some (75, true))⟩, ⟨25, (some 77), (.callf false (.c (.fn
  (.func 22) [] [])) [(.t 76)] [26]), (some (75, true))⟩, ⟨27, (some 79), (.callf false (.c (.fn (.func 23) [] [])) [(.t 78)] []), (some (75, true))⟩, ⟨28,
  (some 80), (.bin .eql (.t 77) (.t 79)), (some (75, true))⟩, ⟨29, (some 81), (.pick (.t 75) (.t 80) (.c (.bool false))), none⟩, ⟨30, (some 82), (.mv (.t
  81)), none⟩, ⟨31, (some 83), (.callf false (.c (.fn (.func 15) [] [])) [] []), (some (82, true))⟩, ⟨32, (some 84), (.pick (.t 82) (.t 83) (.c (.bool
  false))), none⟩, ⟨33, (some 4), (.mv (.t 84)), none⟩]) .ret))))))))⟩
theorem is3 : FnIs prog 3 x3.fn := ⟨fun vs w => call3 vs w, _, _, func3, rfl, rfl, by kernel_rfl, by kernel_rfl⟩
theorem ok3 : okX x3.body = true := by kernel_rfl
theorem st3 : sitesP x3 x3.body := (sitesP_of rfl)

def x4l0 : XCode :=
  (.loop [0, 1, 5, 7, 8, 9, 10, 11, 13, 14, 15, 19, 131, 132, 133] (.seq (.reg [] false [⟨0, (some 134), (.bin .lss (.t 133) (.t 132)), none⟩]) (.seq (.cond (.t
  134) .skip (.exit 2)) (.seq (.block 3 (.seq (.reg [] false [⟨0, (some 135), (.idx 1 (.t 131) (.t 133)), none⟩, ⟨0, (some 136), (.load false 1 (.t 135)),
  none⟩, ⟨0, (some 21), (.mv (.t 136)), none⟩]) (.reg [] false [⟨0, (some 137), (.mv (.t 19)), none⟩, ⟨0, (some 138), (.mv (.t 21)), none⟩, ⟨0, (some 139),
  (.mm true (.t 137) (.t 138)), none⟩, ⟨0, (some 19), (.mv (.t 139)), none⟩]))) (.reg [] false [⟨0, (some 140), (.bin .add (.t 133) (.c (.int .i64 1))),
  none⟩, ⟨0, (some 133), (.mv (.t 140)), none⟩])))))
def x4l1 : XCode :=
  (.loop [0, 1, 5, 7, 8, 9, 10, 11] (.seq (.seq (.reg [] false [⟨0, (some 49), (.mv (.t 11)), none⟩, ⟨0, (some 50), (.mv (.t 1)), none⟩, ⟨0, (some 51), (.len
  false (.t 50)), none⟩, ⟨0, (some 52), (.bin .lss (.t 49) (.t 51)), none⟩, ⟨0, (some 53), (.mv (.t 52)), none⟩, ⟨0, (some 54), (.mv (.t 11)), (some (53,
  true))⟩, ⟨0, (some 55), (.bin .lss (.t 54) (.c (.int .i64 5))), (some (53, true))⟩, ⟨0, (some 56), (.pick (.t 53) (.t 55) (.c (.bool false))), none⟩])
  (.cond (.t 56) .skip (.exit 0))) (.seq (.block 1 (.seq (.reg [] false [⟨0, (some 60), (.mv (.t 0)), none⟩, ⟨0, (some 61), (.mv (.t 11)), none⟩, ⟨0, (some
  62), (.mv (.t 0)), none⟩, ⟨0, (some 63), (.len false (.t 62)), none⟩, ⟨0, (some 64), (.bin .rem (.t 61) (.t 63)), none⟩, ⟨0, (some 65), (.idx 4 (.t 60) (.t
  64)), none⟩, ⟨0, (some 66), (.load true 4 (.t 65)), none⟩, ⟨0, (some 67), (.callf false (.c (.fn (.func 26) [] [])) [(.t 66)] []), none⟩, ⟨0, (some 59),
  (.mv (.t 67)), none⟩, ⟨0, (some 68), (.ext (.t 59) 0), none⟩, ⟨0, (some 69), (.ext (.t 59) 1), none⟩, ⟨0, (some 12), (.alloc [(.int .i64 0), (.int .i64 0),
  (.int .i64 0), .nilsl]), none⟩, ⟨0, none, (.store 4 (.t 12) (.t 68) []), none⟩, ⟨0, (some 13), (.mv (.t 69)), none⟩]) (.seq (.reg [(12, true)] false [⟨0,
  (some 71), (.load true 4 (.t 12)), none⟩, ⟨0, (some 72), (.callf false (.c (.fn (.func 27) [] [])) [(.t 71)] []), none⟩, ⟨0, (some 70), (.mv (.t 72)),
  none⟩, ⟨0, (some 73), (.ext (.t 70) 0), none⟩, ⟨0, (some 74), (.ext (.t 70) 1), none⟩, ⟨0, (some 75), (.ext (.t 70) 2), none⟩, ⟨0, (some 14), (.mv (.t 73)),
  none⟩, ⟨0, (some 15), (.mv (.t 74)), none⟩, ⟨0, (some 16), (.mv (.t 75)), none⟩]) (.seq (.reg [(12, true)] false [⟨0, (some 77), (.load true 4 (.t 12)),
  none⟩, ⟨0, (some 78), (.callf false (.c (.fn (.func 28) [] [])) [(.t 77)] []), none⟩, ⟨0, (some 76), (.mv (.t 78)), none⟩, ⟨0, (some 79), (.ext (.t 76) 0),
  none⟩, ⟨0, (some 80), (.ext (.t 76) 1), none⟩, ⟨0, (some 17), (.mv (.t 79)), none⟩, ⟨0, (some 18), (.mv (.t 80)), none⟩]) (.seq (.seq (.reg [] true [⟨0,
  (some 81), (.mv (.t 16)), none⟩, ⟨1, (some 82), (.bin .neq (.t 81) (.c (.int .i64 0))), none⟩, ⟨2, (some 83), (.mv (.t 82)), none⟩, ⟨3, (some 84), (.mv (.t
  18)), (some (83, false))⟩, ⟨4, (some 85), (.bin .neq (.t 84) (.c (.int .i64 0))), (some (83, false))⟩, ⟨5, (some 86), (.pick (.t 83) (.c (.bool true)) (.t
  85)), none⟩, ⟨6, (some 87), (.mv (.t 86)), none⟩, ⟨7, (some 88), (.mv (.t 14)), (some (87, false))⟩, ⟨8, (some 89), (.bin .lss (.t 88) (.c (.int .i64 0))),
  (some (87, false))⟩, ⟨9, (some 90), (.pick (.t 87) (.c (.bool true)) (.t 89)), none⟩, ⟨10, (some 91), (.mv (.t 90)), none⟩, ⟨11, (some 92), (.mv (.t 14)),
  (some (91, false))⟩, ⟨12, (some 93), (.mv (.t 13)), (some (91, false))⟩, ⟨13, (some 94), (.len false (.t 93)), (some (91, false))⟩, ⟨14, (some 95), (.bin
  .geq (.t 92) (.t 94)), (some (91, false))⟩, ⟨15, (some 96), (.pick (.t 91) (.c (.bool true)) (.t 95)), none⟩, ⟨16, (some 97), (.mv (.t 96)), none⟩, ⟨17,
  (some 98), (.mv (.t 17)), (some (97, false))⟩, ⟨18, (some 99), (.len false (.t 98)), (some (97, false))⟩, ⟨19, (some 100), (.mv (.t 13)), (some (97,
  false))⟩, ⟨20, (some 101), (.len false (.t 100)), (some (97, false))⟩, ⟨21, (some 102), (.bin .neq (.t 99) (.t 101)), (some (97, false))⟩, ⟨22, (some 103),
  (.pick (.t 97) (.c (.bool true)) (.t 102)), none⟩, ⟨23, (some 104), (.mv (.t 103)), none⟩, ⟨24, (some 105), (.mv (.t 13)), (some (104, false))⟩, ⟨25, (some
  106), (.mv (.t 14)), (some (104, false))⟩, ⟨26, (some 107), (.idx 1 (.t 105) (.t 106)), (some (104, false))⟩, ⟨27, (some 108), (.load false 1 (.t 107)),
  (some (104, false))⟩, ⟨28, (some 109), (.mv (.t 17)), (some (104, false))⟩, ⟨29, (some 110), (.mv (.t 14)), (some (104, false))⟩, ⟨30, (some 111), (.idx 2
  (.t 109) (.t 110)), (some (104, false))⟩, ⟨31, (some 112), (.fld 0 (.t 111)), (some (104, false))⟩, ⟨32, (some 113), (.load false 1 (.t 112)), (some (104,
  false))⟩, ⟨33, (some 114), (.bin .lss (.t 108) (.t 113)), (some (104, false))⟩, ⟨34, (some 115), (.pick (.t 104) (.c (.bool true)) (.t 114)), none⟩, ⟨35,
  (some 116), (.mv (.t 115)), none⟩, ⟨36, (some 117), (.mv (.t 13)), (some (116, false))⟩, ⟨37, (some 118), (.mv (.t 14)), (some (116, false))⟩, ⟨38, (some
  119), (.idx 1 (.t 117) (.t 118)), (some (116, false))⟩, ⟨39, (some 120), (.load false 1 (.t 119)), (some (116, false))⟩, ⟨40, (some 121), (.mv (.t 17)),
  (some (116, false))⟩, ⟨41, (some 122), (.mv (.t 14)), (some (116, false))⟩, ⟨42, (some 123), (.idx 2 (.t 121) (.t 122)), (some (116, false))⟩, ⟨43, (some
  124), (.fld 1 (.t 123)), (some (116, false))⟩, ⟨44, (some 125), (.load false 1 (.t 124)), (some (116, false))⟩, ⟨45, (some 126), (.bin .gtr (.t 120) (.t
  125)), (some (116, false))⟩, ⟨46, (some 127), (.pick (.t 116) (.c (.bool true)) (.t 126)), none⟩]) (.cond (.t 127) (.seq (.reg [] false [⟨0, (some 6), (.mv
  (.c (.bool false))), none⟩]) .ret) .skip)) (.seq (.reg [] false [⟨0, (some 128), (.mv (.t 13)), none⟩, ⟨0, (some 129), (.idx 1 (.t 128) (.c (.int .i64 0))),
  none⟩, ⟨0, (some 130), (.load false 1 (.t 129)), none⟩, ⟨0, (some 19), (.mv (.t 130)), none⟩]) (.seq (.seq (.reg [] false [⟨0, (some 131), (.mv (.t 13)),
  none⟩, ⟨0, (some 132), (.len false (.t 131)), none⟩, ⟨0, (some 133), (.mv (.c (.int .i64 0))), none⟩]) (.block 2 x4l0)) (.seq (.reg [] false [⟨0, (some
  141), (.mv (.t 1)), none⟩, ⟨0, (some 142), (.mv (.t 11)), none⟩, ⟨0, (some 143), (.idx 4 (.t 141) (.t 142)), none⟩, ⟨0, (some 144), (.load true 4 (.t 143)),
  none⟩, ⟨0, (some 22), (.alloc [(.int .u8 0), (.int .u8 0), (.int .u8 0), (.int .u8 0)]), none⟩, ⟨0, none, (.store 4 (.t 22) (.t 144) []), none⟩]) (.seq
  (.reg [] true [⟨0, (some 145), (.idxa 4 1 (.t 22) (.c (.int .i64 0))), none⟩, ⟨1, (some 146), (.load false 1 (.t 145)), none⟩, ⟨2, (some 147), (.conv .i64
  (.t 146)), none⟩, ⟨3, (some 148), (.idxa 4 1 (.t 22) (.c (.int .i64 2))), none⟩, ⟨4, (some 149), (.load false 1 (.t 148)), none⟩, ⟨5, (some 150), (.conv
  .i64 (.t 149)), none⟩, ⟨6, (some 151), (.bin .rem (.t 150) (.c (.int .i64 60))), none⟩, ⟨7, (some 152), (.bin .add (.c (.int .i64 1)) (.t 151)), none⟩, ⟨8,
  (some 23), (.mv (.t 147)), none⟩, ⟨9, (some 24), (.mv (.t 152)), none⟩]) (.seq (.reg [] true [⟨0, (some 153), (.fld 1 (.t 7)), none⟩, ⟨1, (some 154), (.load
  false 1 (.t 153)), none⟩, ⟨2, (some 155), (.idxa 4 1 (.t 22) (.c (.int .i64 1))), none⟩, ⟨3, (some 156), (.load false 1 (.t 155)), none⟩, ⟨4, (some 157),
  (.conv .i64 (.t 156)), none⟩, ⟨5, (some 158), (.bin .rem (.t 157) (.c (.int .i64 2))), none⟩, ⟨6, (some 159), (.mv (.t 23)), none⟩, ⟨7, (some 160), (.mv (.t
  23)), none⟩, ⟨8, (some 161), (.idxa 4 1 (.t 22) (.c (.int .i64 3))), none⟩, ⟨9, (some 162), (.load false 1 (.t 161)), none⟩, ⟨10, (some 163), (.conv .i64
  (.t 162)), none⟩, ⟨11, (some 164), (.bin .rem (.t 163) (.c (.int .i64 30))), none⟩, ⟨12, (some 165), (.bin .add (.t 160) (.t 164)), none⟩, ⟨14, (some 167),
  (.mv (.t 24)), none⟩, ⟨15, (some 168), (.mv (.t 24)), none⟩, ⟨16, (some 169), (.idxa 4 1 (.t 22) (.c (.int .i64 3))), none⟩, ⟨17, (some 170), (.load false 1
  (.t 169)), none⟩, ⟨18, (some 171), (.conv .i64 (.t 170)), none⟩, ⟨19, (some 172), (.bin .rem (.t 171) (.c (.int .i64 20))), none⟩, ⟨20, (some 173), (.bin
  .add (.t 168) (.t 172)), none⟩, ⟨13, (some 166), (.callf false (.c (.fn (.func 25) [] [])) [(.t 159), (.t 165)] [1, 3, 17]), none⟩, ⟨21, (some 174), (.callf
  false (.c (.fn (.func 25) [] [])) [(.t 167), (.t 173)] [1, 3]), none⟩, ⟨22, (some 175), (.build [(.int .i64 0), (.int .i64 0), (.int .i64 0), (.int .i64 0),
  (.int .i64 0)] [(0, (1, (.t 158))), (1, (2, (.t 166))), (3, (2, (.t 174)))]), none⟩, ⟨23, (some 176), (.bslice 5 1 [(.int .i64 0), (.int .i64 0), (.int .i64
  0), (.int .i64 0), (.int .i64 0)] [(0, (5, (.t 175)))]), none⟩, ⟨24, (some 177), (.app 5 40 (.t 154) (.t 176)), none⟩, ⟨25, (some 178), (.fld 1 (.t 7)),
  none⟩, ⟨26, none, (.store 1 (.t 178) (.t 177) []), none⟩]) (.seq (.reg [(15, false)] false [⟨0, (some 179), (.mv (.t 8)), none⟩, ⟨0, (some 180), (.mv (.t
  13)), none⟩, ⟨0, (some 181), (.mv (.t 14)), none⟩, ⟨0, (some 182), (.idx 1 (.t 180) (.t 181)), none⟩, ⟨0, (some 183), (.load false 1 (.t 182)), none⟩, ⟨0,
  (some 184), (.bslice 1 1 [(.int .i64 0)] [(0, (1, (.t 183)))]), none⟩, ⟨0, (some 185), (.app 1 8 (.t 179) (.t 184)), none⟩, ⟨0, (some 186), (.mv (.t 9)),
  none⟩, ⟨0, (some 187), (.mv (.t 19)), none⟩, ⟨0, (some 188), (.bslice 1 1 [(.int .i64 0)] [(0, (1, (.t 187)))]), none⟩, ⟨0, (some 189), (.app 1 8 (.t 186)
  (.t 188)), none⟩, ⟨0, (some 190), (.mv (.t 10)), none⟩, ⟨0, (some 191), (.mv (.t 15)), none⟩, ⟨0, (some 192), (.bslice 1 1 [(.int .i64 0)] [(0, (1, (.t
  191)))]), none⟩, ⟨0, (some 193), (.app 1 8 (.t 190) (.t 192)), none⟩, ⟨0, (some 8), (.mv (.t 185)), none⟩, ⟨0, (some 9), (.mv (.t 189)), none⟩, ⟨0, (some
  10), (.mv (.t 193)), none⟩]) (.seq (.reg [] false [⟨0, (some 194), (.mv (.t 11)), none⟩, ⟨0, (some 195), (.bin .rem (.t 194) (.c (.int .i64 2))), none⟩, ⟨0,
  (some 196), (.bin .eql (.t 195) (.c (.int .i64 1))), none⟩]) (.cond (.t 196) (.reg [] false [⟨0, (some 197), (.fld 2 (.t 7)), none⟩, ⟨0, (some 198), (.load
  false 1 (.t 197)), none⟩, ⟨0, (some 199), (.mv (.t 11)), none⟩, ⟨0, (some 200), (.bin .sub (.t 199) (.c (.int .i64 1))), none⟩, ⟨0, (some 201), (.mv (.t
  11)), none⟩, ⟨0, (some 202), (.bslice 1 2 [(.int .i64 0)] [(0, (1, (.t 200))), (1, (1, (.t 201)))]), none⟩, ⟨0, (some 203), (.bslice 1 1 [.nilsl] [(0, (1,
  (.t 202)))]), none⟩, ⟨0, (some 204), (.app 1 24 (.t 198) (.t 203)), none⟩, ⟨0, (some 205), (.fld 2 (.t 7)), none⟩, ⟨0, none, (.store 1 (.t 205) (.t 204)
  []), none⟩]) (.seq (.reg [] false [⟨0, (some 206), (.mv (.t 11)), none⟩, ⟨0, (some 207), (.mv (.t 1)), none⟩, ⟨0, (some 208), (.len false (.t 207)), none⟩,
  ⟨0, (some 209), (.bin .sub (.t 208) (.c (.int .i64 1))), none⟩, ⟨0, (some 210), (.bin .eql (.t 206) (.t 209)), none⟩, ⟨0, (some 211), (.mv (.t 210)), none⟩,
  ⟨0, (some 212), (.mv (.t 11)), (some (211, false))⟩, ⟨0, (some 213), (.bin .eql (.t 212) (.c (.int .i64 4))), (some (211, false))⟩, ⟨0, (some 214), (.pick
  (.t 211) (.c (.bool true)) (.t 213)), none⟩]) (.cond (.t 214) (.reg [] false [⟨0, (some 215), (.fld 2 (.t 7)), none⟩, ⟨0, (some 216), (.load false 1 (.t
  215)), none⟩, ⟨0, (some 217), (.mv (.t 11)), none⟩, ⟨0, (some 218), (.bslice 1 1 [(.int .i64 0)] [(0, (1, (.t 217)))]), none⟩, ⟨0, (some 219), (.bslice 1 1
  [.nilsl] [(0, (1, (.t 218)))]), none⟩, ⟨0, (some 220), (.app 1 24 (.t 216) (.t 219)), none⟩, ⟨0, (some 221), (.fld 2 (.t 7)), none⟩, ⟨0, none, (.store 1 (.t
  221) (.t 220) []), none⟩]) .skip))))))))))))))) (.reg [] false [⟨0, (some 57), (.mv (.t 11)), none⟩, ⟨0, (some 58), (.bin .add (.t 57) (.c (.int .i64 1))),
  none⟩, ⟨0, (some 11), (.mv (.t 58)), none⟩]))))
def x4l2 : XCode :=
  (.loop [7, 8, 9, 10, 26, 28, 29, 30, 31, 32, 33, 243, 244, 245, 278, 279, 280] (.seq (.reg [] false [⟨0, (some 281), (.bin .lss (.t 280) (.t 279)), none⟩])
  (.seq (.cond (.t 281) .skip (.exit 6)) (.seq (.block 7 (.seq (.reg [] false [⟨0, (some 282), (.idx 2 (.t 278) (.t 280)), none⟩, ⟨0, (some 283), (.load true
  2 (.t 282)), none⟩, ⟨0, (some 35), (.alloc [(.int .i64 0), (.int .i64 0)]), none⟩, ⟨0, none, (.store 2 (.t 35) (.t 283) []), none⟩]) (.seq (.reg [(32,
  true)] true [⟨0, (some 284), (.fld 0 (.t 35)), none⟩, ⟨1, (some 285), (.load false 1 (.t 284)), none⟩, ⟨2, (some 286), (.mv (.t 28)), none⟩, ⟨3, (some 287),
  (.mv (.t 30)), none⟩, ⟨4, (some 288), (.bin .mul (.c (.int .i64 2)) (.t 287)), none⟩, ⟨5, (some 289), (.bin .add (.t 288) (.c (.int .i64 2))), none⟩, ⟨6,
  (some 290), (.fld 1 (.t 32)), none⟩, ⟨7, (some 291), (.load true 2 (.t 290)), none⟩, ⟨9, (some 293), (.mv (.t 29)), none⟩, ⟨8, (some 292), (.callf false (.t
  286) [(.t 289), (.t 291)] [1]), none⟩, ⟨10, (some 294), (.bin .add (.t 292) (.t 293)), none⟩, ⟨11, (some 295), (.bin .leq (.t 285) (.t 294)), none⟩]) (.cond
  (.t 295) (.reg [] false [⟨0, (some 296), (.fld 1 (.t 35)), none⟩, ⟨0, (some 297), (.load false 1 (.t 296)), none⟩, ⟨0, (some 33), (.mv (.t 297)), none⟩])
  .skip)))) (.reg [] false [⟨0, (some 298), (.bin .add (.t 280) (.c (.int .i64 1))), none⟩, ⟨0, (some 280), (.mv (.t 298)), none⟩])))))
def x4l3 : XCode :=
  (.loop [7, 8, 9, 10, 26, 28, 29, 243, 244, 245] (.seq (.reg [] false [⟨0, (some 246), (.bin .lss (.t 245) (.t 244)), none⟩]) (.seq (.cond (.t 246) .skip
  (.exit 4)) (.seq (.block 5 (.seq (.reg [] false [⟨0, (some 247), (.mv (.t 245)), none⟩, ⟨0, (some 248), (.idx 1 (.t 243) (.t 245)), none⟩, ⟨0, (some 249),
  (.load false 1 (.t 248)), none⟩, ⟨0, (some 30), (.mv (.t 247)), none⟩, ⟨0, (some 31), (.mv (.t 249)), none⟩]) (.seq (.seq (.reg [] false [⟨0, (some 250),
  (.mv (.t 31)), none⟩, ⟨0, (some 251), (.bin .lss (.t 250) (.c (.int .i64 0))), none⟩, ⟨0, (some 252), (.mv (.t 251)), none⟩, ⟨0, (some 253), (.mv (.t 31)),
  (some (252, false))⟩, ⟨0, (some 254), (.fld 1 (.t 7)), (some (252, false))⟩, ⟨0, (some 255), (.load false 1 (.t 254)), (some (252, false))⟩, ⟨0, (some 256),
  (.len false (.t 255)), (some (252, false))⟩, ⟨0, (some 257), (.bin .geq (.t 253) (.t 256)), (some (252, false))⟩, ⟨0, (some 258), (.pick (.t 252) (.c (.bool
  true)) (.t 257)), none⟩]) (.cond (.t 258) (.seq (.reg [] false [⟨0, (some 6), (.mv (.c (.bool false))), none⟩]) .ret) .skip)) (.seq (.reg [] false [⟨0,
  (some 259), (.fld 1 (.t 7)), none⟩, ⟨0, (some 260), (.load false 1 (.t 259)), none⟩, ⟨0, (some 261), (.mv (.t 31)), none⟩, ⟨0, (some 262), (.idx 5 (.t 260)
  (.t 261)), none⟩, ⟨0, (some 263), (.load true 5 (.t 262)), none⟩, ⟨0, (some 32), (.alloc [(.int .i64 0), (.int .i64 0), (.int .i64 0), (.int .i64 0), (.int
  .i64 0)]), none⟩, ⟨0, none, (.store 5 (.t 32) (.t 263) []), none⟩]) (.seq (.reg [(32, true)] false [⟨0, (some 264), (.mv (.t 29)), none⟩, ⟨0, (some 265),
  (.mv (.t 28)), none⟩, ⟨0, (some 266), (.mv (.t 30)), none⟩, ⟨0, (some 267), (.bin .mul (.c (.int .i64 2)) (.t 266)), none⟩, ⟨0, (some 268), (.bin .add (.t
  267) (.c (.int .i64 1))), none⟩, ⟨0, (some 269), (.fld 3 (.t 32)), none⟩, ⟨0, (some 270), (.load true 2 (.t 269)), none⟩, ⟨0, (some 271), (.callf false (.t
  265) [(.t 268), (.t 270)] []), none⟩, ⟨0, (some 272), (.bin .add (.t 264) (.t 271)), none⟩, ⟨0, (some 29), (.mv (.t 272)), none⟩]) (.seq (.reg [] false [⟨0,
  (some 33), (.mv (.c (.int .i64 0))), none⟩]) (.seq (.seq (.reg [] false [⟨0, (some 273), (.fld 0 (.t 7)), none⟩, ⟨0, (some 274), (.load false 1 (.t 273)),
  none⟩, ⟨0, (some 275), (.fld 0 (.t 32)), none⟩, ⟨0, (some 276), (.load false 1 (.t 275)), none⟩, ⟨0, (some 277), (.idx 1 (.t 274) (.t 276)), none⟩, ⟨0,
  (some 278), (.load false 1 (.t 277)), none⟩, ⟨0, (some 279), (.len false (.t 278)), none⟩, ⟨0, (some 280), (.mv (.c (.int .i64 0))), none⟩]) (.block 6
  x4l2)) (.seq (.reg [] true [⟨0, (some 299), (.mv (.t 8)), none⟩, ⟨1, (some 300), (.mv (.t 31)), none⟩, ⟨2, (some 301), (.idx 1 (.t 299) (.t 300)), none⟩,
  ⟨3, (some 302), (.load false 1 (.t 301)), none⟩, ⟨4, (some 303), (.mv (.t 33)), none⟩, ⟨5, (some 304), (.bin .sub (.t 302) (.t 303)), none⟩, ⟨6, (some 305),
  (.mv (.t 9)), none⟩, ⟨7, (some 306), (.mv (.t 31)), none⟩, ⟨8, (some 307), (.idx 1 (.t 305) (.t 306)), none⟩, ⟨9, (some 308), (.load false 1 (.t 307)),
  none⟩, ⟨10, (some 309), (.mv (.t 10)), none⟩, ⟨11, (some 310), (.mv (.t 31)), none⟩, ⟨12, (some 311), (.idx 1 (.t 309) (.t 310)), none⟩, ⟨13, (some 312),
  (.load false 1 (.t 311)), none⟩, ⟨14, (some 313), (.bin .sub (.t 308) (.t 312)), none⟩, ⟨15, (some 314), (.mv (.t 26)), none⟩, ⟨16, (some 315), (.bin .sub
  (.t 313) (.t 314)), none⟩, ⟨17, (some 316), (.bin .lss (.t 304) (.t 315)), none⟩]) (.cond (.t 316) (.seq (.reg [] false [⟨0, (some 6), (.mv (.c (.bool
  false))), none⟩]) .ret) .skip))))))))) (.reg [] false [⟨0, (some 317), (.bin .add (.t 245) (.c (.int .i64 1))), none⟩, ⟨0, (some 245), (.mv (.t 317)),
  none⟩])))))
/-- zafra/zafratop.TopCrushed -/
def x4 : XFn := ⟨319, [(6, none)], false, false,
  (.seq (.reg [] false [⟨0, (some 5), (.box (.t 2)), none⟩, ⟨0, (some 6), (.mv (.c (.bool false))), none⟩]) (.seq (.seq (.reg [] false [⟨0, (some 36), (.mv (.t
  0)), none⟩, ⟨0, (some 37), (.len false (.t 36)), none⟩, ⟨0, (some 38), (.bin .eql (.t 37) (.c (.int .i64 0))), none⟩]) (.cond (.t 38) (.seq (.reg [] false
  [⟨0, (some 39), (.callf false (.c (.fn (.func 24) [] [])) [] []), none⟩, ⟨0, (some 6), (.mv (.t 39)), none⟩]) .ret) .skip)) (.seq (.reg [] false [⟨0, (some
  40), (.build [(.int .i64 0), (.int .i64 0)] [(0, (1, (.c (.int .i64 30)))), (1, (1, (.c (.int .i64 100))))]), none⟩, ⟨0, (some 41), (.build [(.int .i64 0),
  (.int .i64 0)] [(0, (1, (.c (.int .i64 120)))), (1, (1, (.c (.int .i64 300))))]), none⟩, ⟨0, (some 42), (.build [(.int .i64 0), (.int .i64 0)] [(0, (1, (.c
  (.int .i64 400)))), (1, (1, (.c (.int .i64 900))))]), none⟩, ⟨0, (some 43), (.bslice 2 3 [(.int .i64 0), (.int .i64 0)] [(0, (2, (.t 40))), (2, (2, (.t
  41))), (4, (2, (.t 42)))]), none⟩, ⟨0, (some 44), (.build [(.int .i64 0), (.int .i64 0)] [(0, (1, (.c (.int .i64 200)))), (1, (1, (.c (.int .i64 50))))]),
  none⟩, ⟨0, (some 45), (.bslice 2 1 [(.int .i64 0), (.int .i64 0)] [(0, (2, (.t 44)))]), none⟩, ⟨0, (some 46), (.bslice 1 2 [.nilsl] [(0, (1, (.t 43))), (1,
  (1, (.t 45)))]), none⟩, ⟨0, (some 47), (.callf false (.c (.fn (.func 25) [] [])) [(.c (.int .i64 0)), (.c (.int .i64 20))] []), none⟩, ⟨0, (some 48),
  (.build [.nilsl, .nilsl, .nilsl, (.int .i64 0), (.int .i64 0)] [(0, (1, (.t 46))), (3, (2, (.t 47)))]), none⟩, ⟨0, (some 7), (.alloc [.nilsl, .nilsl,
  .nilsl, (.int .i64 0), (.int .i64 0)]), none⟩, ⟨0, none, (.store 5 (.t 7) (.t 48) []), none⟩]) (.seq (.reg [] false [⟨0, (some 8), (.mv (.c .nilsl)), none⟩,
  ⟨0, (some 9), (.mv (.c .nilsl)), none⟩, ⟨0, (some 10), (.mv (.c .nilsl)), none⟩]) (.seq (.seq (.reg [] false [⟨0, (some 11), (.mv (.c (.int .i64 0))),
  none⟩]) (.block 0 x4l1)) (.seq (.reg [(7, true)] false [⟨0, (some 223), (.load true 5 (.t 7)), none⟩, ⟨0, (some 224), (.callf false (.c (.fn (.func 29) []
  [])) [(.t 223)] []), none⟩, ⟨0, (some 222), (.mv (.t 224)), none⟩, ⟨0, (some 225), (.ext (.t 222) 0), none⟩, ⟨0, (some 226), (.ext (.t 222) 1), none⟩, ⟨0,
  (some 227), (.ext (.t 222) 2), none⟩, ⟨0, (some 25), (.mv (.t 225)), none⟩, ⟨0, (some 26), (.mv (.t 226)), none⟩, ⟨0, (some 27), (.mv (.t 227)), none⟩])
  (.seq (.seq (.reg [] false [⟨0, (some 228), (.mv (.t 27)), none⟩, ⟨0, (some 229), (.bin .neq (.t 228) (.c (.int .i64 0))), none⟩, ⟨0, (some 230), (.mv (.t
  229)), none⟩, ⟨0, (some 231), (.mv (.t 25)), (some (230, false))⟩, ⟨0, (some 232), (.len false (.t 231)), (some (230, false))⟩, ⟨0, (some 233), (.fld 1 (.t
  7)), (some (230, false))⟩, ⟨0, (some 234), (.load false 1 (.t 233)), (some (230, false))⟩, ⟨0, (some 235), (.len false (.t 234)), (some (230, false))⟩, ⟨0,
  (some 236), (.bin .neq (.t 232) (.t 235)), (some (230, false))⟩, ⟨0, (some 237), (.pick (.t 230) (.c (.bool true)) (.t 236)), none⟩]) (.cond (.t 237) (.seq
  (.reg [] false [⟨0, (some 6), (.mv (.c (.bool false))), none⟩]) .ret) .skip)) (.seq (.reg [] false [⟨0, (some 238), (.mkf (.func 30) [] [(.t 5)]), none⟩,
  ⟨0, (some 28), (.mv (.t 238)), none⟩]) (.seq (.reg [(7, true)] false [⟨0, (some 239), (.mv (.t 28)), none⟩, ⟨0, (some 240), (.fld 3 (.t 7)), none⟩, ⟨0,
  (some 241), (.load true 2 (.t 240)), none⟩, ⟨0, (some 242), (.callf false (.t 239) [(.c (.int .i64 0)), (.t 241)] []), none⟩, ⟨0, (some 29), (.mv (.t 242)),
  none⟩]) (.seq (.seq (.reg [] false [⟨0, (some 243), (.mv (.t 25)), none⟩, ⟨0, (some 244), (.len false (.t 243)), none⟩, ⟨0, (some 245), (.mv (.c (.int .i64
  0))), none⟩]) (.block 4 x4l3)) (.seq (.reg [] false [⟨0, (some 318), (.callf false (.c (.fn (.func 24) [] [])) [] []), none⟩, ⟨0, (some 6), (.mv (.t 318)),
  none⟩]) .ret)))))))))))⟩
theorem is4 : FnIs prog 4 x4.fn := ⟨fun vs w => call4 vs w, _, _, func4, rfl, rfl, by kernel_rfl, by kernel_rfl⟩
theorem ok4 : okX x4.body = true := by kernel_rfl
theorem st4 : sitesP x4 x4.body := (sitesP_of rfl)

/-- zafra/zafralaw04.SourBests -/
def x5 : XFn := ⟨88, [(2, none)], false, false,
  (.seq (.reg [] false [⟨0, (some 1), (.box (.t 0)), none⟩, ⟨0, (some 2), (.mv (.c (.bool false))), none⟩]) (.seq (.seq (.reg [(1, true)] false [⟨0, (some 14),
  (.load true 5 (.t 1)), none⟩, ⟨0, (some 15), (.callf false (.c (.fn (.func 14) [] [])) [(.t 14)] []), none⟩, ⟨0, (some 16), (.mv (.t 15)), none⟩, ⟨0, (some
  17), (.fld 1 (.t 1)), (some (16, false))⟩, ⟨0, (some 18), (.load false 1 (.t 17)), (some (16, false))⟩, ⟨0, (some 19), (.len false (.t 18)), (some (16,
  false))⟩, ⟨0, (some 20), (.bin .gtr (.t 19) (.c (.int .i64 7))), (some (16, false))⟩, ⟨0, (some 21), (.mv (.t 20)), (some (16, false))⟩, ⟨0, (some 22),
  (.fld 1 (.t 1)), (some (21, true))⟩, ⟨0, (some 23), (.load false 1 (.t 22)), (some (21, true))⟩, ⟨0, (some 24), (.len false (.t 23)), (some (21, true))⟩,
  ⟨0, (some 25), (.bin .leq (.t 24) (.c (.int .i64 10))), (some (21, true))⟩, ⟨0, (some 26), (.pick (.t 21) (.t 25) (.c (.bool false))), (some (16, false))⟩,
  ⟨0, (some 27), (.pick (.t 16) (.c (.bool true)) (.t 26)), none⟩]) (.cond (.t 27) (.seq (.reg [] false [⟨0, (some 28), (.callf false (.c (.fn (.func 15) []
  [])) [] []), none⟩, ⟨0, (some 2), (.mv (.t 28)), none⟩]) .ret) .skip)) (.seq (.reg [(1, true)] false [⟨0, (some 29), (.load true 5 (.t 1)), none⟩, ⟨0, (some
  30), (.callf false (.c (.fn (.func 16) [] [])) [(.t 29)] []), none⟩, ⟨0, (some 3), (.alloc [.nilsl, .nilsl, .nilsl, (.int .i64 0), (.int .i64 0)]), none⟩,
  ⟨0, none, (.store 5 (.t 3) (.t 30) []), none⟩]) (.seq (.reg [(1, true)] false [⟨0, (some 32), (.load true 5 (.t 1)), none⟩, ⟨0, (some 33), (.callf false (.c
  (.fn (.func 29) [] [])) [(.t 32)] []), none⟩, ⟨0, (some 31), (.mv (.t 33)), none⟩, ⟨0, (some 34), (.ext (.t 31) 0), none⟩, ⟨0, (some 35), (.ext (.t 31) 1),
  none⟩, ⟨0, (some 36), (.ext (.t 31) 2), none⟩, ⟨0, (some 4), (.mv (.t 34)), none⟩, ⟨0, (some 5), (.mv (.t 35)), none⟩, ⟨0, (some 6), (.mv (.t 36)), none⟩])
  (.seq (.reg [(3, true)] false [⟨0, (some 38), (.load true 5 (.t 3)), none⟩, ⟨0, (some 39), (.callf false (.c (.fn (.func 31) [] [])) [(.t 38)] []), none⟩,
  ⟨0, (some 37), (.mv (.t 39)), none⟩, ⟨0, (some 40), (.ext (.t 37) 0), none⟩, ⟨0, (some 41), (.ext (.t 37) 1), none⟩, ⟨0, (some 42), (.ext (.t 37) 2), none⟩,
  ⟨0, (some 7), (.mv (.t 40)), none⟩, ⟨0, (some 8), (.mv (.t 41)), none⟩, ⟨0, (some 9), (.mv (.t 42)), none⟩]) (.seq (.reg [(1, true)] false [⟨0, (some 44),
  (.load true 5 (.t 1)), none⟩, ⟨0, (some 45), (.callf false (.c (.fn (.func 32) [] [])) [(.t 44)] []), none⟩, ⟨0, (some 43), (.mv (.t 45)), none⟩, ⟨0, (some
  46), (.ext (.t 43) 0), none⟩, ⟨0, (some 47), (.ext (.t 43) 1), none⟩, ⟨0, (some 10), (.mv (.t 46)), none⟩, ⟨0, (some 11), (.mv (.t 47)), none⟩]) (.seq (.reg
  [(3, true)] false [⟨0, (some 49), (.load true 5 (.t 3)), none⟩, ⟨0, (some 50), (.callf false (.c (.fn (.func 33) [] [])) [(.t 49)] []), none⟩, ⟨0, (some
  48), (.mv (.t 50)), none⟩, ⟨0, (some 51), (.ext (.t 48) 0), none⟩, ⟨0, (some 52), (.ext (.t 48) 1), none⟩, ⟨0, (some 12), (.mv (.t 51)), none⟩, ⟨0, (some
  13), (.mv (.t 52)), none⟩]) (.seq (.seq (.reg [(4, false), (7, false)] false [⟨0, (some 53), (.mv (.t 4)), none⟩, ⟨0, (some 54), (.mv (.t 7)), none⟩, ⟨0,
  (some 55), (.callf false (.c (.fn (.func 34) [] [])) [(.t 53), (.t 54)] []), none⟩, ⟨0, (some 56), (.not (.t 55)), none⟩, ⟨0, (some 57), (.mv (.t 56)),
  none⟩, ⟨0, (some 58), (.mv (.t 5)), (some (57, false))⟩, ⟨0, (some 59), (.mv (.t 8)), (some (57, false))⟩, ⟨0, (some 60), (.bin .neq (.t 58) (.t 59)), (some
  (57, false))⟩, ⟨0, (some 61), (.pick (.t 57) (.c (.bool true)) (.t 60)), none⟩, ⟨0, (some 62), (.mv (.t 61)), none⟩, ⟨0, (some 63), (.mv (.t 6)), (some (62,
  false))⟩, ⟨0, (some 64), (.mv (.t 9)), (some (62, false))⟩, ⟨0, (some 65), (.bin .neq (.t 63) (.t 64)), (some (62, false))⟩, ⟨0, (some 66), (.pick (.t 62)
  (.c (.bool true)) (.t 65)), none⟩, ⟨0, (some 67), (.mv (.t 66)), none⟩, ⟨0, (some 68), (.mv (.t 11)), (some (67, false))⟩, ⟨0, (some 69), (.mv (.t 13)),
  (some (67, false))⟩, ⟨0, (some 70), (.bin .neq (.t 68) (.t 69)), (some (67, false))⟩, ⟨0, (some 71), (.pick (.t 67) (.c (.bool true)) (.t 70)), none⟩])
  (.cond (.t 71) (.seq (.reg [] false [⟨0, (some 2), (.mv (.c (.bool false))), none⟩]) .ret) .skip)) (.seq (.seq (.reg [] false [⟨0, (some 72), (.mv (.t 13)),
  none⟩, ⟨0, (some 73), (.bin .neq (.t 72) (.c (.int .i64 0))), none⟩]) (.cond (.t 73) (.seq (.reg [] false [⟨0, (some 74), (.mv (.t 10)), none⟩, ⟨0, (some
  75), (.len false (.t 74)), none⟩, ⟨0, (some 76), (.bin .eql (.t 75) (.c (.int .i64 0))), none⟩, ⟨0, (some 77), (.mv (.t 76)), none⟩, ⟨0, (some 78), (.callf
  false (.c (.fn (.func 15) [] [])) [] []), (some (77, true))⟩, ⟨0, (some 79), (.pick (.t 77) (.t 78) (.c (.bool false))), none⟩, ⟨0, (some 2), (.mv (.t 79)),
  none⟩]) .ret) .skip)) (.seq (.reg [(3, true), (10, false)] false [⟨0, (some 80), (.load true 5 (.t 3)), none⟩, ⟨0, (some 81), (.mv (.t 8)), none⟩, ⟨0, (some
  82), (.mv (.t 10)), none⟩, ⟨0, (some 83), (.callf false (.c (.fn (.func 35) [] [])) [(.t 80), (.t 81), (.t 82)] []), none⟩, ⟨0, (some 84), (.bin .eql (.t
  83) (.c (.int .i64 0))), none⟩, ⟨0, (some 85), (.mv (.t 84)), none⟩, ⟨0, (some 86), (.callf false (.c (.fn (.func 15) [] [])) [] []), (some (85, true))⟩,
  ⟨0, (some 87), (.pick (.t 85) (.t 86) (.c (.bool false))), none⟩, ⟨0, (some 2), (.mv (.t 87)), none⟩]) .ret))))))))))⟩
theorem is5 : FnIs prog 5 x5.fn := ⟨fun vs w => call5 vs w, _, _, func5, rfl, rfl, by kernel_rfl, by kernel_rfl⟩
theorem ok5 : okX x5.body = true := by kernel_rfl
theorem st5 : sitesP x5 x5.body := (sitesP_of rfl)

/-- zafra/zafralaw04.SourVerifies -/
def x6 : XFn := ⟨28, [(6, none)], false, false,
  (.seq (.reg [] false [⟨0, (some 3), (.box (.t 0)), none⟩, ⟨0, (some 6), (.mv (.c (.bool false))), none⟩]) (.seq (.seq (.reg [(3, true)] false [⟨0, (some 7),
  (.load true 5 (.t 3)), none⟩, ⟨0, (some 8), (.callf false (.c (.fn (.func 14) [] [])) [(.t 7)] []), none⟩, ⟨0, (some 9), (.mv (.t 8)), none⟩, ⟨0, (some 10),
  (.mv (.t 2)), (some (9, false))⟩, ⟨0, (some 11), (.len false (.t 10)), (some (9, false))⟩, ⟨0, (some 12), (.bin .gtr (.t 11) (.c (.int .i64 30))), (some (9,
  false))⟩, ⟨0, (some 13), (.pick (.t 9) (.c (.bool true)) (.t 12)), none⟩]) (.cond (.t 13) (.seq (.reg [] false [⟨0, (some 14), (.callf false (.c (.fn (.func
  15) [] [])) [] []), none⟩, ⟨0, (some 6), (.mv (.t 14)), none⟩]) .ret) .skip)) (.seq (.reg [(3, true), (1, false), (2, false)] true [⟨0, (some 15), (.load
  true 5 (.t 3)), none⟩, ⟨1, (some 16), (.mv (.t 1)), none⟩, ⟨2, (some 17), (.mv (.t 2)), none⟩, ⟨4, (some 19), (.load true 5 (.t 3)), none⟩, ⟨6, (some 21),
  (.mv (.t 1)), none⟩, ⟨7, (some 22), (.mv (.t 2)), none⟩, ⟨3, (some 18), (.callf false (.c (.fn (.func 36) [] [])) [(.t 15), (.t 16), (.t 17)] [4]), none⟩,
  ⟨5, (some 20), (.callf false (.c (.fn (.func 16) [] [])) [(.t 19)] []), none⟩, ⟨8, (some 23), (.callf false (.c (.fn (.func 35) [] [])) [(.t 20), (.t 21),
  (.t 22)] []), none⟩, ⟨9, (some 24), (.bin .eql (.t 18) (.t 23)), none⟩, ⟨10, (some 25), (.mv (.t 24)), none⟩, ⟨11, (some 26), (.callf false (.c (.fn (.func
  15) [] [])) [] []), (some (25, true))⟩, ⟨12, (some 27), (.pick (.t 25) (.t 26) (.c (.bool false))), none⟩, ⟨13, (some 6), (.mv (.t 27)), none⟩]) .ret)))⟩
theorem is6 : FnIs prog 6 x6.fn := ⟨fun vs w => call6 vs w, _, _, func6, rfl, rfl, by kernel_rfl, by kernel_rfl⟩
theorem ok6 : okX x6.body = true := by kernel_rfl
theorem st6 : sitesP x6 x6.body := (sitesP_of rfl)

/-- zafra/zafralaw04.SourDelays -/
def x7 : XFn := ⟨45, [(6, none)], false, false,
  (.seq (.reg [] false [⟨0, (some 3), (.box (.t 0)), none⟩, ⟨0, (some 6), (.mv (.c (.bool false))), none⟩]) (.seq (.seq (.reg [(3, true)] false [⟨0, (some 11),
  (.load true 5 (.t 3)), none⟩, ⟨0, (some 12), (.callf false (.c (.fn (.func 14) [] [])) [(.t 11)] []), none⟩, ⟨0, (some 13), (.mv (.t 12)), none⟩, ⟨0, (some
  14), (.mv (.t 1)), (some (13, false))⟩, ⟨0, (some 15), (.len false (.t 14)), (some (13, false))⟩, ⟨0, (some 16), (.bin .gtr (.t 15) (.c (.int .i64 30))),
  (some (13, false))⟩, ⟨0, (some 17), (.pick (.t 13) (.c (.bool true)) (.t 16)), none⟩]) (.cond (.t 17) (.seq (.reg [] false [⟨0, (some 18), (.callf false (.c
  (.fn (.func 15) [] [])) [] []), none⟩, ⟨0, (some 6), (.mv (.t 18)), none⟩]) .ret) .skip)) (.seq (.reg [(3, true), (1, false), (2, false)] false [⟨0, (some
  20), (.load true 5 (.t 3)), none⟩, ⟨0, (some 21), (.mv (.t 1)), none⟩, ⟨0, (some 22), (.mv (.t 2)), none⟩, ⟨0, (some 23), (.callf false (.c (.fn (.func 37)
  [] [])) [(.t 20), (.t 21), (.t 22)] []), none⟩, ⟨0, (some 19), (.mv (.t 23)), none⟩, ⟨0, (some 24), (.ext (.t 19) 0), none⟩, ⟨0, (some 25), (.ext (.t 19)
  1), none⟩, ⟨0, (some 7), (.mv (.t 24)), none⟩, ⟨0, (some 8), (.mv (.t 25)), none⟩]) (.seq (.reg [(3, true), (1, false), (2, false)] false [⟨0, (some 27),
  (.load true 5 (.t 3)), none⟩, ⟨0, (some 28), (.callf false (.c (.fn (.func 16) [] [])) [(.t 27)] []), none⟩, ⟨0, (some 29), (.mv (.t 1)), none⟩, ⟨0, (some
  30), (.mv (.t 2)), none⟩, ⟨0, (some 31), (.callf false (.c (.fn (.func 38) [] [])) [(.t 28), (.t 29), (.t 30)] []), none⟩, ⟨0, (some 26), (.mv (.t 31)),
  none⟩, ⟨0, (some 32), (.ext (.t 26) 0), none⟩, ⟨0, (some 33), (.ext (.t 26) 1), none⟩, ⟨0, (some 9), (.mv (.t 32)), none⟩, ⟨0, (some 10), (.mv (.t 33)),
  none⟩]) (.seq (.reg [] false [⟨0, (some 34), (.mv (.t 7)), none⟩, ⟨0, (some 35), (.mv (.t 9)), none⟩, ⟨0, (some 36), (.bin .eql (.t 34) (.t 35)), none⟩, ⟨0,
  (some 37), (.mv (.t 36)), none⟩, ⟨0, (some 38), (.mv (.t 8)), (some (37, true))⟩, ⟨0, (some 39), (.mv (.t 10)), (some (37, true))⟩, ⟨0, (some 40), (.bin
  .eql (.t 38) (.t 39)), (some (37, true))⟩, ⟨0, (some 41), (.pick (.t 37) (.t 40) (.c (.bool false))), none⟩, ⟨0, (some 42), (.mv (.t 41)), none⟩, ⟨0, (some
  43), (.callf false (.c (.fn (.func 15) [] [])) [] []), (some (42, true))⟩, ⟨0, (some 44), (.pick (.t 42) (.t 43) (.c (.bool false))), none⟩, ⟨0, (some 6),
  (.mv (.t 44)), none⟩]) .ret)))))⟩
theorem is7 : FnIs prog 7 x7.fn := ⟨fun vs w => call7 vs w, _, _, func7, rfl, rfl, by kernel_rfl, by kernel_rfl⟩
theorem ok7 : okX x7.body = true := by kernel_rfl
theorem st7 : sitesP x7 x7.body := (sitesP_of rfl)

def x8l0 : XCode :=
  (.loop [7, 9, 10, 12, 14, 15, 16, 17, 79, 80, 81] (.seq (.reg [] false [⟨0, (some 82), (.bin .lss (.t 81) (.t 80)), none⟩]) (.seq (.cond (.t 82) .skip (.exit
  0)) (.seq (.block 1 (.seq (.reg [] false [⟨0, (some 83), (.mv (.t 81)), none⟩, ⟨0, (some 84), (.idx 1 (.t 79) (.t 81)), none⟩, ⟨0, (some 85), (.load false 1
  (.t 84)), none⟩, ⟨0, (some 18), (.mv (.t 83)), none⟩, ⟨0, (some 19), (.mv (.t 85)), none⟩]) (.seq (.reg [] false [⟨0, (some 86), (.fld 1 (.t 7)), none⟩, ⟨0,
  (some 87), (.load false 1 (.t 86)), none⟩, ⟨0, (some 88), (.mv (.t 19)), none⟩, ⟨0, (some 89), (.idx 5 (.t 87) (.t 88)), none⟩, ⟨0, (some 90), (.load true 5
  (.t 89)), none⟩, ⟨0, (some 20), (.alloc [(.int .i64 0), (.int .i64 0), (.int .i64 0), (.int .i64 0), (.int .i64 0)]), none⟩, ⟨0, none, (.store 5 (.t 20) (.t
  90) []), none⟩]) (.seq (.reg [] false [⟨0, (some 91), (.fld 0 (.t 7)), none⟩, ⟨0, (some 92), (.load false 1 (.t 91)), none⟩, ⟨0, (some 93), (.fld 0 (.t
  20)), none⟩, ⟨0, (some 94), (.load false 1 (.t 93)), none⟩, ⟨0, (some 95), (.idx 1 (.t 92) (.t 94)), none⟩, ⟨0, (some 96), (.load false 1 (.t 95)), none⟩,
  ⟨0, (some 21), (.mv (.t 96)), none⟩]) (.seq (.reg [(20, true)] true [⟨0, (some 97), (.mv (.t 15)), none⟩, ⟨1, (some 98), (.mv (.t 14)), none⟩, ⟨2, (some
  99), (.mv (.t 18)), none⟩, ⟨3, (some 100), (.bin .mul (.c (.int .i64 2)) (.t 99)), none⟩, ⟨4, (some 101), (.bin .add (.t 100) (.c (.int .i64 1))), none⟩,
  ⟨5, (some 102), (.fld 3 (.t 20)), none⟩, ⟨6, (some 103), (.load true 2 (.t 102)), none⟩, ⟨9, (some 106), (.mv (.t 16)), none⟩, ⟨10, (some 107), (.fld 3 (.t
  20)), none⟩, ⟨11, (some 108), (.fld 0 (.t 107)), none⟩, ⟨12, (some 109), (.load false 1 (.t 108)), none⟩, ⟨13, (some 110), (.bin .add (.t 106) (.t 109)),
  none⟩, ⟨14, (some 111), (.mv (.t 17)), none⟩, ⟨15, (some 112), (.fld 3 (.t 20)), none⟩, ⟨16, (some 113), (.fld 1 (.t 112)), none⟩, ⟨17, (some 114), (.load
  false 1 (.t 113)), none⟩, ⟨18, (some 115), (.bin .add (.t 111) (.t 114)), none⟩, ⟨7, (some 104), (.callf false (.t 98) [(.t 101), (.t 103)] [12, 17]),
  none⟩, ⟨8, (some 105), (.bin .add (.t 97) (.t 104)), none⟩, ⟨19, (some 15), (.mv (.t 105)), none⟩, ⟨20, (some 16), (.mv (.t 110)), none⟩, ⟨21, (some 17),
  (.mv (.t 115)), none⟩]) (.seq (.reg [(20, true), (21, false)] false [⟨0, (some 116), (.mv (.t 21)), none⟩, ⟨0, (some 117), (.mv (.t 15)), none⟩, ⟨0, (some
  118), (.mv (.t 14)), none⟩, ⟨0, (some 119), (.mv (.t 18)), none⟩, ⟨0, (some 120), (.bin .mul (.c (.int .i64 2)) (.t 119)), none⟩, ⟨0, (some 121), (.bin .add
  (.t 120) (.c (.int .i64 2))), none⟩, ⟨0, (some 122), (.fld 1 (.t 20)), none⟩, ⟨0, (some 123), (.load true 2 (.t 122)), none⟩, ⟨0, (some 124), (.callf false
  (.t 118) [(.t 121), (.t 123)] []), none⟩, ⟨0, (some 125), (.bin .add (.t 117) (.t 124)), none⟩, ⟨0, (some 126), (.callf false (.c (.fn (.func 43) [] []))
  [(.t 116), (.t 125)] []), none⟩, ⟨0, (some 22), (.mv (.t 126)), none⟩]) (.seq (.reg [(21, false)] true [⟨0, (some 127), (.mv (.t 15)), none⟩, ⟨1, (some
  128), (.mv (.t 9)), none⟩, ⟨2, (some 129), (.mv (.t 19)), none⟩, ⟨3, (some 130), (.idx 2 (.t 128) (.t 129)), none⟩, ⟨4, (some 131), (.fld 0 (.t 130)),
  none⟩, ⟨5, (some 132), (.load false 1 (.t 131)), none⟩, ⟨6, (some 133), (.bin .lss (.t 127) (.t 132)), none⟩, ⟨7, (some 134), (.mv (.t 133)), none⟩, ⟨8,
  (some 135), (.mv (.t 15)), (some (134, false))⟩, ⟨9, (some 136), (.mv (.t 9)), (some (134, false))⟩, ⟨10, (some 137), (.mv (.t 19)), (some (134, false))⟩,
  ⟨11, (some 138), (.idx 2 (.t 136) (.t 137)), (some (134, false))⟩, ⟨12, (some 139), (.fld 1 (.t 138)), (some (134, false))⟩, ⟨13, (some 140), (.load false 1
  (.t 139)), (some (134, false))⟩, ⟨14, (some 141), (.bin .gtr (.t 135) (.t 140)), (some (134, false))⟩, ⟨15, (some 142), (.pick (.t 134) (.c (.bool true))
  (.t 141)), none⟩, ⟨16, (some 143), (.mv (.t 142)), none⟩, ⟨17, (some 144), (.mv (.t 22)), (some (143, false))⟩, ⟨18, (some 145), (.mv (.t 10)), (some (143,
  false))⟩, ⟨19, (some 146), (.mv (.t 19)), (some (143, false))⟩, ⟨20, (some 147), (.idx 2 (.t 145) (.t 146)), (some (143, false))⟩, ⟨21, (some 148), (.fld 0
  (.t 147)), (some (143, false))⟩, ⟨22, (some 149), (.load false 1 (.t 148)), (some (143, false))⟩, ⟨23, (some 150), (.bin .lss (.t 144) (.t 149)), (some
  (143, false))⟩, ⟨24, (some 151), (.pick (.t 143) (.c (.bool true)) (.t 150)), none⟩, ⟨25, (some 152), (.mv (.t 151)), none⟩, ⟨26, (some 153), (.mv (.t 22)),
  (some (152, false))⟩, ⟨27, (some 154), (.mv (.t 10)), (some (152, false))⟩, ⟨28, (some 155), (.mv (.t 19)), (some (152, false))⟩, ⟨29, (some 156), (.idx 2
  (.t 154) (.t 155)), (some (152, false))⟩, ⟨30, (some 157), (.fld 1 (.t 156)), (some (152, false))⟩, ⟨31, (some 158), (.load false 1 (.t 157)), (some (152,
  false))⟩, ⟨32, (some 159), (.bin .gtr (.t 153) (.t 158)), (some (152, false))⟩, ⟨33, (some 160), (.pick (.t 152) (.c (.bool true)) (.t 159)), none⟩, ⟨34,
  (some 161), (.mv (.t 160)), none⟩, ⟨35, (some 162), (.mv (.t 22)), (some (161, false))⟩, ⟨36, (some 163), (.mv (.t 12)), (some (161, false))⟩, ⟨37, (some
  164), (.bin .gtr (.t 162) (.t 163)), (some (161, false))⟩, ⟨38, (some 165), (.pick (.t 161) (.c (.bool true)) (.t 164)), none⟩, ⟨39, (some 166), (.mv (.t
  165)), none⟩, ⟨40, (some 167), (.mv (.t 9)), (some (166, false))⟩, ⟨41, (some 168), (.mv (.t 19)), (some (166, false))⟩, ⟨42, (some 169), (.idx 2 (.t 167)
  (.t 168)), (some (166, false))⟩, ⟨43, (some 170), (.load true 2 (.t 169)), (some (166, false))⟩, ⟨44, (some 171), (.mv (.t 16)), (some (166, false))⟩, ⟨45,
  (some 172), (.mv (.t 17)), (some (166, false))⟩, ⟨46, (some 173), (.callf false (.c (.fn (.func 44) [] [])) [(.t 171), (.t 172)] [43]), (some (166,
  false))⟩, ⟨47, (some 174), (.eqag true [0, 0] (.t 170) (.t 173)), (some (166, false))⟩, ⟨48, (some 175), (.pick (.t 166) (.c (.bool true)) (.t 174)), none⟩,
  ⟨49, (some 176), (.mv (.t 175)), none⟩, ⟨50, (some 177), (.mv (.t 10)), (some (176, false))⟩, ⟨51, (some 178), (.mv (.t 19)), (some (176, false))⟩, ⟨52,
  (some 179), (.idx 2 (.t 177) (.t 178)), (some (176, false))⟩, ⟨53, (some 180), (.load true 2 (.t 179)), (some (176, false))⟩, ⟨54, (some 181), (.mv (.t
  21)), (some (176, false))⟩, ⟨55, (some 182), (.mv (.t 16)), (some (176, false))⟩, ⟨56, (some 183), (.fld 1 (.t 20)), (some (176, false))⟩, ⟨57, (some 184),
  (.fld 0 (.t 183)), (some (176, false))⟩, ⟨58, (some 185), (.load false 1 (.t 184)), (some (176, false))⟩, ⟨59, (some 186), (.bin .add (.t 182) (.t 185)),
  (some (176, false))⟩, ⟨61, (some 188), (.mv (.t 21)), (some (176, false))⟩, ⟨62, (some 189), (.mv (.t 17)), (some (176, false))⟩, ⟨63, (some 190), (.fld 1
  (.t 20)), (some (176, false))⟩, ⟨64, (some 191), (.fld 1 (.t 190)), (some (176, false))⟩, ⟨65, (some 192), (.load false 1 (.t 191)), (some (176, false))⟩,
  ⟨66, (some 193), (.bin .add (.t 189) (.t 192)), (some (176, false))⟩, ⟨60, (some 187), (.callf false (.c (.fn (.func 43) [] [])) [(.t 181), (.t 186)] [53,
  65]), (some (176, false))⟩, ⟨67, (some 194), (.callf false (.c (.fn (.func 43) [] [])) [(.t 188), (.t 193)] [53]), (some (176, false))⟩, ⟨68, (some 195),
  (.callf false (.c (.fn (.func 44) [] [])) [(.t 187), (.t 194)] [53]), (some (176, false))⟩, ⟨69, (some 196), (.eqag true [0, 0] (.t 180) (.t 195)), (some
  (176, false))⟩, ⟨70, (some 197), (.pick (.t 176) (.c (.bool true)) (.t 196)), none⟩]) (.cond (.t 197) (.seq (.reg [] false [⟨0, (some 6), (.mv (.c (.bool
  false))), none⟩]) .ret) .skip)))))))) (.reg [] false [⟨0, (some 198), (.bin .add (.t 81) (.c (.int .i64 1))), none⟩, ⟨0, (some 81), (.mv (.t 198)),
  none⟩])))))
/-- zafra/zafralaw04.SourTruth -/
def x8 : XFn := ⟨200, [(6, none)], false, false,
  (.seq (.reg [] false [⟨0, (some 3), (.box (.t 0)), none⟩, ⟨0, (some 5), (.box (.t 2)), none⟩, ⟨0, (some 6), (.mv (.c (.bool false))), none⟩]) (.seq (.reg [(3,
  true)] false [⟨0, (some 23), (.load true 5 (.t 3)), none⟩, ⟨0, (some 24), (.callf false (.c (.fn (.func 39) [] [])) [(.t 23)] []), none⟩, ⟨0, (some 7),
  (.alloc [.nilsl, .nilsl, .nilsl, (.int .i64 0), (.int .i64 0)]), none⟩, ⟨0, none, (.store 5 (.t 7) (.t 24) []), none⟩]) (.seq (.reg [(7, true), (1, false)]
  false [⟨0, (some 25), (.load true 5 (.t 7)), none⟩, ⟨0, (some 26), (.mv (.t 1)), none⟩, ⟨0, (some 27), (.callf false (.c (.fn (.func 40) [] [])) [(.t 25),
  (.t 26)] []), none⟩, ⟨0, (some 8), (.mv (.t 27)), none⟩]) (.seq (.reg [(7, true), (8, false)] false [⟨0, (some 29), (.load true 5 (.t 7)), none⟩, ⟨0, (some
  30), (.mv (.t 8)), none⟩, ⟨0, (some 31), (.callf false (.c (.fn (.func 17) [] [])) [(.t 29), (.t 30)] []), none⟩, ⟨0, (some 28), (.mv (.t 31)), none⟩, ⟨0,
  (some 32), (.ext (.t 28) 0), none⟩, ⟨0, (some 33), (.ext (.t 28) 1), none⟩, ⟨0, (some 34), (.ext (.t 28) 2), none⟩, ⟨0, (some 9), (.mv (.t 32)), none⟩, ⟨0,
  (some 10), (.mv (.t 33)), none⟩, ⟨0, (some 11), (.mv (.t 34)), none⟩]) (.seq (.reg [(7, true), (8, false)] false [⟨0, (some 36), (.load true 5 (.t 7)),
  none⟩, ⟨0, (some 37), (.mv (.t 8)), none⟩, ⟨0, (some 38), (.callf false (.c (.fn (.func 19) [] [])) [(.t 36), (.t 37)] []), none⟩, ⟨0, (some 35), (.mv (.t
  38)), none⟩, ⟨0, (some 39), (.ext (.t 35) 0), none⟩, ⟨0, (some 40), (.ext (.t 35) 1), none⟩, ⟨0, (some 12), (.mv (.t 39)), none⟩, ⟨0, (some 13), (.mv (.t
  40)), none⟩]) (.seq (.seq (.reg [(7, true), (8, false)] false [⟨0, (some 41), (.mv (.t 11)), none⟩, ⟨0, (some 42), (.bin .neq (.t 41) (.c (.int .i64 0))),
  none⟩, ⟨0, (some 43), (.mv (.t 42)), none⟩, ⟨0, (some 44), (.mv (.t 13)), (some (43, false))⟩, ⟨0, (some 45), (.bin .neq (.t 44) (.c (.int .i64 0))), (some
  (43, false))⟩, ⟨0, (some 46), (.pick (.t 43) (.c (.bool true)) (.t 45)), none⟩, ⟨0, (some 47), (.mv (.t 46)), none⟩, ⟨0, (some 48), (.mv (.t 9)), (some (47,
  false))⟩, ⟨0, (some 49), (.len false (.t 48)), (some (47, false))⟩, ⟨0, (some 50), (.mv (.t 8)), (some (47, false))⟩, ⟨0, (some 51), (.len false (.t 50)),
  (some (47, false))⟩, ⟨0, (some 52), (.bin .neq (.t 49) (.t 51)), (some (47, false))⟩, ⟨0, (some 53), (.pick (.t 47) (.c (.bool true)) (.t 52)), none⟩, ⟨0,
  (some 54), (.mv (.t 53)), none⟩, ⟨0, (some 55), (.mv (.t 10)), (some (54, false))⟩, ⟨0, (some 56), (.len false (.t 55)), (some (54, false))⟩, ⟨0, (some 57),
  (.mv (.t 8)), (some (54, false))⟩, ⟨0, (some 58), (.len false (.t 57)), (some (54, false))⟩, ⟨0, (some 59), (.bin .neq (.t 56) (.t 58)), (some (54,
  false))⟩, ⟨0, (some 60), (.pick (.t 54) (.c (.bool true)) (.t 59)), none⟩, ⟨0, (some 61), (.mv (.t 60)), none⟩, ⟨0, (some 62), (.mv (.t 12)), (some (61,
  false))⟩, ⟨0, (some 63), (.load true 5 (.t 7)), (some (61, false))⟩, ⟨0, (some 64), (.mv (.t 8)), (some (61, false))⟩, ⟨0, (some 65), (.callf false (.c (.fn
  (.func 41) [] [])) [(.t 63), (.t 64)] []), (some (61, false))⟩, ⟨0, (some 66), (.bin .neq (.t 62) (.t 65)), (some (61, false))⟩, ⟨0, (some 67), (.pick (.t
  61) (.c (.bool true)) (.t 66)), none⟩]) (.cond (.t 67) (.seq (.reg [] false [⟨0, (some 6), (.mv (.c (.bool false))), none⟩]) .ret) .skip)) (.seq (.reg []
  false [⟨0, (some 68), (.mkf (.func 42) [] [(.t 5)]), none⟩, ⟨0, (some 14), (.mv (.t 68)), none⟩]) (.seq (.reg [(7, true)] true [⟨0, (some 69), (.mv (.t
  14)), none⟩, ⟨1, (some 70), (.fld 3 (.t 7)), none⟩, ⟨2, (some 71), (.load true 2 (.t 70)), none⟩, ⟨4, (some 73), (.fld 3 (.t 7)), none⟩, ⟨5, (some 74),
  (.fld 0 (.t 73)), none⟩, ⟨6, (some 75), (.load false 1 (.t 74)), none⟩, ⟨7, (some 76), (.fld 3 (.t 7)), none⟩, ⟨8, (some 77), (.fld 1 (.t 76)), none⟩, ⟨9,
  (some 78), (.load false 1 (.t 77)), none⟩, ⟨3, (some 72), (.callf false (.t 69) [(.c (.int .i64 0)), (.t 71)] [6, 9]), none⟩, ⟨10, (some 15), (.mv (.t 72)),
  none⟩, ⟨11, (some 16), (.mv (.t 75)), none⟩, ⟨12, (some 17), (.mv (.t 78)), none⟩]) (.seq (.seq (.reg [] false [⟨0, (some 79), (.mv (.t 8)), none⟩, ⟨0,
  (some 80), (.len false (.t 79)), none⟩, ⟨0, (some 81), (.mv (.c (.int .i64 0))), none⟩]) (.block 0 x8l0)) (.seq (.reg [] false [⟨0, (some 199), (.callf
  false (.c (.fn (.func 15) [] [])) [] []), none⟩, ⟨0, (some 6), (.mv (.t 199)), none⟩]) .ret))))))))))⟩
theorem is8 : FnIs prog 8 x8.fn := ⟨fun vs w => call8 vs w, _, _, func8, rfl, rfl, by kernel_rfl, by kernel_rfl⟩
theorem ok8 : okX x8.body = true := by kernel_rfl
theorem st8 : sitesP x8 x8.body := (sitesP_of rfl)

def x9l0 : XCode :=
  (.loop [3, 4, 5, 9, 10, 11, 46, 47, 48] (.seq (.reg [] false [⟨0, (some 49), (.bin .lss (.t 48) (.t 47)), none⟩]) (.seq (.cond (.t 49) .skip (.exit 0)) (.seq
  (.block 1 (.seq (.reg [] false [⟨0, (some 50), (.idx 1 (.t 46) (.t 48)), none⟩, ⟨0, (some 51), (.load false 1 (.t 50)), none⟩, ⟨0, (some 13), (.mv (.t 51)),
  none⟩]) (.seq (.reg [(3, true), (13, false)] false [⟨0, (some 52), (.load true 5 (.t 3)), none⟩, ⟨0, (some 53), (.mv (.t 13)), none⟩, ⟨0, (some 54), (.callf
  false (.c (.fn (.func 41) [] [])) [(.t 52), (.t 53)] []), none⟩, ⟨0, (some 14), (.mv (.t 54)), none⟩]) (.seq (.seq (.reg [(13, false), (4, false)] false
  [⟨0, (some 55), (.mv (.t 14)), none⟩, ⟨0, (some 56), (.mv (.t 5)), none⟩, ⟨0, (some 57), (.bin .lss (.t 55) (.t 56)), none⟩, ⟨0, (some 58), (.mv (.t 57)),
  none⟩, ⟨0, (some 59), (.mv (.t 14)), (some (58, false))⟩, ⟨0, (some 60), (.mv (.t 5)), (some (58, false))⟩, ⟨0, (some 61), (.bin .eql (.t 59) (.t 60)),
  (some (58, false))⟩, ⟨0, (some 62), (.mv (.t 61)), (some (58, false))⟩, ⟨0, (some 63), (.mv (.t 11)), (some (62, true))⟩, ⟨0, (some 64), (.not (.t 63)),
  (some (62, true))⟩, ⟨0, (some 65), (.pick (.t 62) (.t 64) (.c (.bool false))), (some (58, false))⟩, ⟨0, (some 66), (.mv (.t 65)), (some (58, false))⟩, ⟨0,
  (some 67), (.mv (.t 13)), (some (66, true))⟩, ⟨0, (some 68), (.mv (.t 4)), (some (66, true))⟩, ⟨0, (some 69), (.callf false (.c (.fn (.func 34) [] [])) [(.t
  67), (.t 68)] []), (some (66, true))⟩, ⟨0, (some 70), (.not (.t 69)), (some (66, true))⟩, ⟨0, (some 71), (.pick (.t 66) (.t 70) (.c (.bool false))), (some
  (58, false))⟩, ⟨0, (some 72), (.pick (.t 58) (.c (.bool true)) (.t 71)), none⟩]) (.cond (.t 72) (.seq (.reg [] false [⟨0, (some 2), (.mv (.c (.bool
  false))), none⟩]) .ret) .skip)) (.reg [] false [⟨0, (some 73), (.mv (.t 11)), none⟩, ⟨0, (some 74), (.mv (.t 73)), none⟩, ⟨0, (some 75), (.mv (.t 14)),
  (some (74, false))⟩, ⟨0, (some 76), (.mv (.t 5)), (some (74, false))⟩, ⟨0, (some 77), (.bin .eql (.t 75) (.t 76)), (some (74, false))⟩, ⟨0, (some 78),
  (.pick (.t 74) (.c (.bool true)) (.t 77)), none⟩, ⟨0, (some 11), (.mv (.t 78)), none⟩]))))) (.reg [] false [⟨0, (some 79), (.bin .add (.t 48) (.c (.int .i64
  1))), none⟩, ⟨0, (some 48), (.mv (.t 79)), none⟩])))))
/-- zafra/zafralaw04.SourBest -/
def x9 : XFn := ⟨115, [(2, none)], false, false,
  (.seq (.reg [] false [⟨0, (some 1), (.box (.t 0)), none⟩, ⟨0, (some 2), (.mv (.c (.bool false))), none⟩]) (.seq (.reg [(1, true)] false [⟨0, (some 15), (.load
  true 5 (.t 1)), none⟩, ⟨0, (some 16), (.callf false (.c (.fn (.func 39) [] [])) [(.t 15)] []), none⟩, ⟨0, (some 3), (.alloc [.nilsl, .nilsl, .nilsl, (.int
  .i64 0), (.int .i64 0)]), none⟩, ⟨0, none, (.store 5 (.t 3) (.t 16) []), none⟩]) (.seq (.reg [(3, true)] false [⟨0, (some 18), (.load true 5 (.t 3)), none⟩,
  ⟨0, (some 19), (.callf false (.c (.fn (.func 29) [] [])) [(.t 18)] []), none⟩, ⟨0, (some 17), (.mv (.t 19)), none⟩, ⟨0, (some 20), (.ext (.t 17) 0), none⟩,
  ⟨0, (some 21), (.ext (.t 17) 1), none⟩, ⟨0, (some 22), (.ext (.t 17) 2), none⟩, ⟨0, (some 4), (.mv (.t 20)), none⟩, ⟨0, (some 5), (.mv (.t 21)), none⟩, ⟨0,
  (some 6), (.mv (.t 22)), none⟩]) (.seq (.reg [(3, true), (4, false)] false [⟨0, (some 24), (.load true 5 (.t 3)), none⟩, ⟨0, (some 25), (.mv (.t 4)), none⟩,
  ⟨0, (some 26), (.callf false (.c (.fn (.func 19) [] [])) [(.t 24), (.t 25)] []), none⟩, ⟨0, (some 23), (.mv (.t 26)), none⟩, ⟨0, (some 27), (.ext (.t 23)
  0), none⟩, ⟨0, (some 28), (.ext (.t 23) 1), none⟩, ⟨0, (some 7), (.mv (.t 27)), none⟩, ⟨0, (some 8), (.mv (.t 28)), none⟩]) (.seq (.reg [(3, true)] false
  [⟨0, (some 30), (.load true 5 (.t 3)), none⟩, ⟨0, (some 31), (.callf false (.c (.fn (.func 32) [] [])) [(.t 30)] []), none⟩, ⟨0, (some 29), (.mv (.t 31)),
  none⟩, ⟨0, (some 32), (.ext (.t 29) 0), none⟩, ⟨0, (some 33), (.ext (.t 29) 1), none⟩, ⟨0, (some 9), (.mv (.t 32)), none⟩, ⟨0, (some 10), (.mv (.t 33)),
  none⟩]) (.seq (.seq (.reg [] false [⟨0, (some 34), (.mv (.t 6)), none⟩, ⟨0, (some 35), (.bin .neq (.t 34) (.c (.int .i64 0))), none⟩, ⟨0, (some 36), (.mv
  (.t 35)), none⟩, ⟨0, (some 37), (.mv (.t 8)), (some (36, false))⟩, ⟨0, (some 38), (.bin .neq (.t 37) (.c (.int .i64 0))), (some (36, false))⟩, ⟨0, (some
  39), (.pick (.t 36) (.c (.bool true)) (.t 38)), none⟩, ⟨0, (some 40), (.mv (.t 39)), none⟩, ⟨0, (some 41), (.mv (.t 7)), (some (40, false))⟩, ⟨0, (some 42),
  (.mv (.t 5)), (some (40, false))⟩, ⟨0, (some 43), (.bin .neq (.t 41) (.t 42)), (some (40, false))⟩, ⟨0, (some 44), (.pick (.t 40) (.c (.bool true)) (.t
  43)), none⟩]) (.cond (.t 44) (.seq (.reg [] false [⟨0, (some 2), (.mv (.c (.bool false))), none⟩]) .ret) .skip)) (.seq (.reg [] false [⟨0, (some 11), (.mv
  (.c (.bool false))), none⟩]) (.seq (.seq (.reg [(3, true)] false [⟨0, (some 45), (.load true 5 (.t 3)), none⟩, ⟨0, (some 46), (.callf false (.c (.fn (.func
  45) [] [])) [(.t 45), (.c .nilsl)] []), none⟩, ⟨0, (some 47), (.len false (.t 46)), none⟩, ⟨0, (some 48), (.mv (.c (.int .i64 0))), none⟩]) (.block 0 x9l0))
  (.seq (.seq (.reg [] false [⟨0, (some 80), (.mv (.t 5)), none⟩, ⟨0, (some 81), (.bin .eql (.t 80) (.c (.int .i64 0))), none⟩]) (.cond (.t 81) (.seq (.reg []
  false [⟨0, (some 82), (.mv (.t 10)), none⟩, ⟨0, (some 83), (.bin .eql (.t 82) (.c (.int .i64 5))), none⟩, ⟨0, (some 84), (.mv (.t 83)), none⟩, ⟨0, (some
  85), (.mv (.t 9)), (some (84, true))⟩, ⟨0, (some 86), (.len false (.t 85)), (some (84, true))⟩, ⟨0, (some 87), (.bin .eql (.t 86) (.c (.int .i64 0))), (some
  (84, true))⟩, ⟨0, (some 88), (.pick (.t 84) (.t 87) (.c (.bool false))), none⟩, ⟨0, (some 89), (.mv (.t 88)), none⟩, ⟨0, (some 90), (.callf false (.c (.fn
  (.func 15) [] [])) [] []), (some (89, true))⟩, ⟨0, (some 91), (.pick (.t 89) (.t 90) (.c (.bool false))), none⟩, ⟨0, (some 2), (.mv (.t 91)), none⟩]) .ret)
  .skip)) (.seq (.reg [(3, true), (9, false)] false [⟨0, (some 92), (.mv (.t 11)), none⟩, ⟨0, (some 93), (.mv (.t 92)), none⟩, ⟨0, (some 94), (.mv (.t 10)),
  (some (93, true))⟩, ⟨0, (some 95), (.bin .eql (.t 94) (.c (.int .i64 0))), (some (93, true))⟩, ⟨0, (some 96), (.pick (.t 93) (.t 95) (.c (.bool false))),
  none⟩, ⟨0, (some 97), (.mv (.t 96)), none⟩, ⟨0, (some 98), (.load true 5 (.t 3)), (some (97, true))⟩, ⟨0, (some 99), (.mv (.t 5)), (some (97, true))⟩, ⟨0,
  (some 100), (.mv (.t 9)), (some (97, true))⟩, ⟨0, (some 101), (.callf false (.c (.fn (.func 36) [] [])) [(.t 98), (.t 99), (.t 100)] []), (some (97,
  true))⟩, ⟨0, (some 102), (.bin .eql (.t 101) (.c (.int .i64 0))), (some (97, true))⟩, ⟨0, (some 103), (.pick (.t 97) (.t 102) (.c (.bool false))), none⟩,
  ⟨0, (some 104), (.mv (.t 103)), none⟩, ⟨0, (some 105), (.load true 5 (.t 3)), (some (104, true))⟩, ⟨0, (some 106), (.mv (.t 5)), (some (104, true))⟩, ⟨0,
  (some 107), (.bin .add (.t 106) (.c (.int .i64 1))), (some (104, true))⟩, ⟨0, (some 108), (.mv (.t 9)), (some (104, true))⟩, ⟨0, (some 109), (.callf false
  (.c (.fn (.func 36) [] [])) [(.t 105), (.t 107), (.t 108)] []), (some (104, true))⟩, ⟨0, (some 110), (.bin .eql (.t 109) (.c (.int .i64 11))), (some (104,
  true))⟩, ⟨0, (some 111), (.pick (.t 104) (.t 110) (.c (.bool false))), none⟩, ⟨0, (some 112), (.mv (.t 111)), none⟩, ⟨0, (some 113), (.callf false (.c (.fn
  (.func 15) [] [])) [] []), (some (112, true))⟩, ⟨0, (some 114), (.pick (.t 112) (.t 113) (.c (.bool false))), none⟩, ⟨0, (some 2), (.mv (.t 114)), none⟩])
  .ret))))))))))⟩
theorem is9 : FnIs prog 9 x9.fn := ⟨fun vs w => call9 vs w, _, _, func9, rfl, rfl, by kernel_rfl, by kernel_rfl⟩
theorem ok9 : okX x9.body = true := by kernel_rfl
theorem st9 : sitesP x9 x9.body := (sitesP_of rfl)

def x10l0 : XCode :=
  (.loop [1, 2, 7, 8, 18, 19] (.seq (.reg [] false [⟨0, (some 20), (.bin .lss (.t 19) (.t 18)), none⟩]) (.seq (.cond (.t 20) .skip (.exit 0)) (.seq (.block 1
  (.seq (.reg [] false [⟨0, (some 21), (.mv (.t 19)), none⟩, ⟨0, (some 9), (.mv (.t 21)), none⟩]) (.seq (.reg [] false [⟨0, (some 22), (.mv (.t 1)), none⟩,
  ⟨0, (some 23), (.mv (.t 9)), none⟩, ⟨0, (some 24), (.bin .shr (.t 22) (.t 23)), none⟩, ⟨0, (some 25), (.bin .and (.t 24) (.c (.int .u8 1))), none⟩, ⟨0,
  (some 26), (.bin .eql (.t 25) (.c (.int .u8 1))), none⟩]) (.cond (.t 26) (.reg [] false [⟨0, (some 27), (.mv (.t 8)), none⟩, ⟨0, (some 28), (.mv (.t 9)),
  none⟩, ⟨0, (some 29), (.bslice 1 1 [(.int .i64 0)] [(0, (1, (.t 28)))]), none⟩, ⟨0, (some 30), (.app 1 8 (.t 27) (.t 29)), none⟩, ⟨0, (some 8), (.mv (.t
  30)), none⟩]) .skip)))) (.reg [] false [⟨0, (some 31), (.bin .add (.t 19) (.c (.int .i64 1))), none⟩, ⟨0, (some 19), (.mv (.t 31)), none⟩])))))
def x10l1 : XCode :=
  (.loop [7, 10, 62, 63, 64] (.seq (.reg [] false [⟨0, (some 65), (.bin .lss (.t 64) (.t 63)), none⟩]) (.seq (.cond (.t 65) .skip (.exit 2)) (.seq (.block 3
  (.seq (.reg [] false [⟨0, (some 66), (.idx 1 (.t 62) (.t 64)), none⟩, ⟨0, (some 67), (.load false 1 (.t 66)), none⟩, ⟨0, (some 13), (.mv (.t 67)), none⟩])
  (.seq (.reg [(7, true), (13, false)] false [⟨0, (some 68), (.load true 5 (.t 7)), none⟩, ⟨0, (some 69), (.mv (.t 13)), none⟩, ⟨0, (some 70), (.callf false
  (.c (.fn (.func 41) [] [])) [(.t 68), (.t 69)] []), none⟩, ⟨0, (some 71), (.mv (.t 10)), none⟩, ⟨0, (some 72), (.bin .lss (.t 70) (.t 71)), none⟩]) (.cond
  (.t 72) (.seq (.reg [] false [⟨0, (some 6), (.mv (.c (.bool false))), none⟩]) .ret) .skip)))) (.reg [] false [⟨0, (some 73), (.bin .add (.t 64) (.c (.int
  .i64 1))), none⟩, ⟨0, (some 64), (.mv (.t 73)), none⟩])))))
/-- zafra/zafralaw04.SourProof -/
def x10 : XFn := ⟨75, [(6, none)], false, false,
  (.seq (.reg [] false [⟨0, (some 3), (.box (.t 0)), none⟩, ⟨0, (some 6), (.mv (.c (.bool false))), none⟩]) (.seq (.reg [(3, true)] false [⟨0, (some 14), (.load
  true 5 (.t 3)), none⟩, ⟨0, (some 15), (.callf false (.c (.fn (.func 39) [] [])) [(.t 14)] []), none⟩, ⟨0, (some 7), (.alloc [.nilsl, .nilsl, .nilsl, (.int
  .i64 0), (.int .i64 0)]), none⟩, ⟨0, none, (.store 5 (.t 7) (.t 15) []), none⟩]) (.seq (.reg [] false [⟨0, (some 8), (.mv (.c .nilsl)), none⟩]) (.seq (.seq
  (.reg [] false [⟨0, (some 16), (.fld 1 (.t 7)), none⟩, ⟨0, (some 17), (.load false 1 (.t 16)), none⟩, ⟨0, (some 18), (.len false (.t 17)), none⟩, ⟨0, (some
  19), (.mv (.c (.int .i64 0))), none⟩]) (.block 0 x10l0)) (.seq (.reg [] false [⟨0, (some 32), (.mv (.t 2)), none⟩, ⟨0, (some 33), (.conv .i64 (.t 32)),
  none⟩, ⟨0, (some 34), (.bin .rem (.t 33) (.c (.int .i64 30))), none⟩, ⟨0, (some 35), (.bin .add (.c (.int .i64 1)) (.t 34)), none⟩, ⟨0, (some 10), (.mv (.t
  35)), none⟩]) (.seq (.reg [(7, true), (8, false)] false [⟨0, (some 36), (.load true 5 (.t 7)), none⟩, ⟨0, (some 37), (.mv (.t 10)), none⟩, ⟨0, (some 38),
  (.mv (.t 8)), none⟩, ⟨0, (some 39), (.callf false (.c (.fn (.func 36) [] [])) [(.t 36), (.t 37), (.t 38)] []), none⟩, ⟨0, (some 11), (.mv (.t 39)), none⟩])
  (.seq (.seq (.reg [] false [⟨0, (some 40), (.mv (.t 11)), none⟩, ⟨0, (some 41), (.bin .neq (.t 40) (.c (.int .i64 0))), none⟩]) (.cond (.t 41) (.seq (.reg
  [] false [⟨0, (some 42), (.mv (.t 11)), none⟩, ⟨0, (some 43), (.bin .eql (.t 42) (.c (.int .i64 11))), none⟩, ⟨0, (some 44), (.mv (.t 43)), none⟩, ⟨0, (some
  45), (.mv (.t 8)), (some (44, true))⟩, ⟨0, (some 46), (.len false (.t 45)), (some (44, true))⟩, ⟨0, (some 47), (.bin .gtr (.t 46) (.c (.int .i64 0))), (some
  (44, true))⟩, ⟨0, (some 48), (.pick (.t 44) (.t 47) (.c (.bool false))), none⟩, ⟨0, (some 49), (.mv (.t 48)), none⟩, ⟨0, (some 50), (.mv (.t 11)), (some
  (49, false))⟩, ⟨0, (some 51), (.bin .eql (.t 50) (.c (.int .i64 4))), (some (49, false))⟩, ⟨0, (some 52), (.mv (.t 51)), (some (49, false))⟩, ⟨0, (some 53),
  (.mv (.t 8)), (some (52, true))⟩, ⟨0, (some 54), (.len false (.t 53)), (some (52, true))⟩, ⟨0, (some 55), (.bin .eql (.t 54) (.c (.int .i64 0))), (some (52,
  true))⟩, ⟨0, (some 56), (.pick (.t 52) (.t 55) (.c (.bool false))), (some (49, false))⟩, ⟨0, (some 57), (.pick (.t 49) (.c (.bool true)) (.t 56)), none⟩,
  ⟨0, (some 58), (.mv (.t 57)), none⟩, ⟨0, (some 59), (.callf false (.c (.fn (.func 15) [] [])) [] []), (some (58, true))⟩, ⟨0, (some 60), (.pick (.t 58) (.t
  59) (.c (.bool false))), none⟩, ⟨0, (some 6), (.mv (.t 60)), none⟩]) .ret) .skip)) (.seq (.seq (.reg [(7, true)] false [⟨0, (some 61), (.load true 5 (.t
  7)), none⟩, ⟨0, (some 62), (.callf false (.c (.fn (.func 45) [] [])) [(.t 61), (.c .nilsl)] []), none⟩, ⟨0, (some 63), (.len false (.t 62)), none⟩, ⟨0,
  (some 64), (.mv (.c (.int .i64 0))), none⟩]) (.block 2 x10l1)) (.seq (.reg [] false [⟨0, (some 74), (.callf false (.c (.fn (.func 15) [] [])) [] []), none⟩,
  ⟨0, (some 6), (.mv (.t 74)), none⟩]) .ret)))))))))⟩
theorem is10 : FnIs prog 10 x10.fn := ⟨fun vs w => call10 vs w, _, _, func10, rfl, rfl, by kernel_rfl, by kernel_rfl⟩
theorem ok10 : okX x10.body = true := by kernel_rfl
theorem st10 : sitesP x10 x10.body := (sitesP_of rfl)

/-- zafra/zafralaw04.SourDelay -/
def x11 : XFn := ⟨78, [(6, none)], false, false,
  (.seq (.reg [] false [⟨0, (some 3), (.box (.t 0)), none⟩, ⟨0, (some 6), (.mv (.c (.bool false))), none⟩]) (.seq (.reg [(3, true)] false [⟨0, (some 13), (.load
  true 5 (.t 3)), none⟩, ⟨0, (some 14), (.callf false (.c (.fn (.func 39) [] [])) [(.t 13)] []), none⟩, ⟨0, (some 7), (.alloc [.nilsl, .nilsl, .nilsl, (.int
  .i64 0), (.int .i64 0)]), none⟩, ⟨0, none, (.store 5 (.t 7) (.t 14) []), none⟩]) (.seq (.reg [(7, true), (1, false)] false [⟨0, (some 15), (.load true 5 (.t
  7)), none⟩, ⟨0, (some 16), (.mv (.t 1)), none⟩, ⟨0, (some 17), (.callf false (.c (.fn (.func 40) [] [])) [(.t 15), (.t 16)] []), none⟩, ⟨0, (some 8),
  (.alloc [.nilsl]), none⟩, ⟨0, none, (.store 1 (.t 8) (.t 17) []), none⟩]) (.seq (.reg [] false [⟨0, (some 18), (.mv (.t 2)), none⟩, ⟨0, (some 19), (.conv
  .i64 (.t 18)), none⟩, ⟨0, (some 20), (.bin .rem (.t 19) (.c (.int .i64 40))), none⟩, ⟨0, (some 9), (.mv (.t 20)), none⟩]) (.seq (.reg [(7, true), (8, true)]
  false [⟨0, (some 22), (.load true 5 (.t 7)), none⟩, ⟨0, (some 23), (.load false 1 (.t 8)), none⟩, ⟨0, (some 24), (.mv (.t 9)), none⟩, ⟨0, (some 25), (.callf
  false (.c (.fn (.func 37) [] [])) [(.t 22), (.t 23), (.t 24)] []), none⟩, ⟨0, (some 21), (.mv (.t 25)), none⟩, ⟨0, (some 26), (.ext (.t 21) 0), none⟩, ⟨0,
  (some 27), (.ext (.t 21) 1), none⟩, ⟨0, (some 10), (.mv (.t 26)), none⟩, ⟨0, (some 11), (.mv (.t 27)), none⟩]) (.seq (.seq (.reg [(7, true), (8, true)]
  false [⟨0, (some 28), (.load true 5 (.t 7)), none⟩, ⟨0, (some 29), (.load false 1 (.t 8)), none⟩, ⟨0, (some 30), (.callf false (.c (.fn (.func 41) [] []))
  [(.t 28), (.t 29)] []), none⟩, ⟨0, (some 31), (.mv (.t 9)), none⟩, ⟨0, (some 32), (.bin .gtr (.t 30) (.t 31)), none⟩]) (.cond (.t 32) (.seq (.reg [] false
  [⟨0, (some 33), (.mv (.t 11)), none⟩, ⟨0, (some 34), (.bin .eql (.t 33) (.c (.int .i64 10))), none⟩, ⟨0, (some 35), (.mv (.t 34)), none⟩, ⟨0, (some 36),
  (.mv (.t 10)), (some (35, true))⟩, ⟨0, (some 37), (.bin .eql (.t 36) (.c (.int .i64 0))), (some (35, true))⟩, ⟨0, (some 38), (.pick (.t 35) (.t 37) (.c
  (.bool false))), none⟩, ⟨0, (some 39), (.mv (.t 38)), none⟩, ⟨0, (some 40), (.callf false (.c (.fn (.func 15) [] [])) [] []), (some (39, true))⟩, ⟨0, (some
  41), (.pick (.t 39) (.t 40) (.c (.bool false))), none⟩, ⟨0, (some 6), (.mv (.t 41)), none⟩]) .ret) .skip)) (.seq (.seq (.reg [] false [⟨0, (some 42), (.mv
  (.t 11)), none⟩, ⟨0, (some 43), (.bin .neq (.t 42) (.c (.int .i64 0))), none⟩, ⟨0, (some 44), (.mv (.t 43)), none⟩, ⟨0, (some 45), (.mv (.t 10)), (some (44,
  false))⟩, ⟨0, (some 46), (.bin .lss (.t 45) (.c (.int .i64 0))), (some (44, false))⟩, ⟨0, (some 47), (.pick (.t 44) (.c (.bool true)) (.t 46)), none⟩])
  (.cond (.t 47) (.seq (.reg [] false [⟨0, (some 6), (.mv (.c (.bool false))), none⟩]) .ret) .skip)) (.seq (.reg [] false [⟨0, (some 48), (.mkf (.func 46) []
  [(.t 7), (.t 8)]), none⟩, ⟨0, (some 12), (.mv (.t 48)), none⟩]) (.seq (.seq (.reg [] false [⟨0, (some 49), (.mv (.t 10)), none⟩, ⟨0, (some 50), (.bin .eql
  (.t 49) (.c (.int .i64 1125899906842624))), none⟩]) (.cond (.t 50) (.seq (.reg [] false [⟨0, (some 51), (.mv (.t 12)), none⟩, ⟨0, (some 52), (.callf false
  (.t 51) [(.c (.int .i64 1000000))] []), none⟩, ⟨0, (some 53), (.mv (.t 9)), none⟩, ⟨0, (some 54), (.bin .leq (.t 52) (.t 53)), none⟩, ⟨0, (some 55), (.mv
  (.t 54)), none⟩, ⟨0, (some 56), (.callf false (.c (.fn (.func 15) [] [])) [] []), (some (55, true))⟩, ⟨0, (some 57), (.pick (.t 55) (.t 56) (.c (.bool
  false))), none⟩, ⟨0, (some 6), (.mv (.t 57)), none⟩]) .ret) .skip)) (.seq (.reg [] false [⟨0, (some 58), (.mv (.t 10)), none⟩, ⟨0, (some 59), (.bin .lss (.t
  58) (.c (.int .i64 1000000))), none⟩, ⟨0, (some 60), (.mv (.t 59)), none⟩, ⟨0, (some 61), (.mv (.t 12)), (some (60, true))⟩, ⟨0, (some 62), (.mv (.t 10)),
  (some (60, true))⟩, ⟨0, (some 63), (.callf false (.t 61) [(.t 62)] []), (some (60, true))⟩, ⟨0, (some 64), (.mv (.t 9)), (some (60, true))⟩, ⟨0, (some 65),
  (.bin .leq (.t 63) (.t 64)), (some (60, true))⟩, ⟨0, (some 66), (.pick (.t 60) (.t 65) (.c (.bool false))), none⟩, ⟨0, (some 67), (.mv (.t 66)), none⟩, ⟨0,
  (some 68), (.mv (.t 12)), (some (67, true))⟩, ⟨0, (some 69), (.mv (.t 10)), (some (67, true))⟩, ⟨0, (some 70), (.bin .add (.t 69) (.c (.int .i64 1))), (some
  (67, true))⟩, ⟨0, (some 71), (.callf false (.t 68) [(.t 70)] []), (some (67, true))⟩, ⟨0, (some 72), (.mv (.t 9)), (some (67, true))⟩, ⟨0, (some 73), (.bin
  .gtr (.t 71) (.t 72)), (some (67, true))⟩, ⟨0, (some 74), (.pick (.t 67) (.t 73) (.c (.bool false))), none⟩, ⟨0, (some 75), (.mv (.t 74)), none⟩, ⟨0, (some
  76), (.callf false (.c (.fn (.func 15) [] [])) [] []), (some (75, true))⟩, ⟨0, (some 77), (.pick (.t 75) (.t 76) (.c (.bool false))), none⟩, ⟨0, (some 6),
  (.mv (.t 77)), none⟩]) .ret))))))))))⟩
theorem is11 : FnIs prog 11 x11.fn := ⟨fun vs w => call11 vs w, _, _, func11, rfl, rfl, by kernel_rfl, by kernel_rfl⟩
theorem ok11 : okX x11.body = true := by kernel_rfl
theorem st11 : sitesP x11 x11.body := (sitesP_of rfl)

def x12l0 : XCode :=
  (.loop [7, 9, 10, 94, 95] (.seq (.reg [] false [⟨0, (some 96), (.bin .lss (.t 95) (.t 94)), none⟩]) (.seq (.cond (.t 96) .skip (.exit 0)) (.seq (.block 1
  (.seq (.reg [] false [⟨0, (some 97), (.mv (.t 95)), none⟩, ⟨0, (some 11), (.mv (.t 97)), none⟩]) (.reg [] false [⟨0, (some 98), (.fld 2 (.t 10)), none⟩, ⟨0,
  (some 99), (.load false 1 (.t 98)), none⟩, ⟨0, (some 100), (.fld 1 (.t 7)), none⟩, ⟨0, (some 101), (.load false 1 (.t 100)), none⟩, ⟨0, (some 102), (.len
  false (.t 101)), none⟩, ⟨0, (some 103), (.bin .sub (.t 102) (.c (.int .i64 1))), none⟩, ⟨0, (some 104), (.mv (.t 11)), none⟩, ⟨0, (some 105), (.bin .sub (.t
  103) (.t 104)), none⟩, ⟨0, (some 106), (.bslice 1 1 [(.int .i64 0)] [(0, (1, (.t 105)))]), none⟩, ⟨0, (some 107), (.bslice 1 1 [.nilsl] [(0, (1, (.t
  106)))]), none⟩, ⟨0, (some 108), (.app 1 24 (.t 99) (.t 107)), none⟩, ⟨0, (some 109), (.fld 2 (.t 10)), none⟩, ⟨0, none, (.store 1 (.t 109) (.t 108) []),
  none⟩]))) (.reg [] false [⟨0, (some 110), (.bin .add (.t 95) (.c (.int .i64 1))), none⟩, ⟨0, (some 95), (.mv (.t 110)), none⟩])))))
def x12l1 : XCode :=
  (.loop [7, 13, 21, 22, 23, 150, 151, 152, 166, 167, 168] (.seq (.reg [] false [⟨0, (some 169), (.bin .lss (.t 168) (.t 167)), none⟩]) (.seq (.cond (.t 169)
  .skip (.exit 4)) (.seq (.block 5 (.seq (.reg [] false [⟨0, (some 170), (.mv (.t 168)), none⟩, ⟨0, (some 171), (.idx 5 (.t 166) (.t 168)), none⟩, ⟨0, (some
  172), (.load true 5 (.t 171)), none⟩, ⟨0, (some 25), (.alloc [(.int .i64 0), (.int .i64 0), (.int .i64 0), (.int .i64 0), (.int .i64 0)]), none⟩, ⟨0, (some
  24), (.mv (.t 170)), none⟩, ⟨0, none, (.store 5 (.t 25) (.t 172) []), none⟩]) (.seq (.reg [] false [⟨0, (some 173), (.mv (.t 24)), none⟩, ⟨0, (some 174),
  (.mv (.t 22)), none⟩, ⟨0, (some 175), (.idx 1 (.t 174) (.c (.int .i64 0))), none⟩, ⟨0, (some 176), (.load false 1 (.t 175)), none⟩, ⟨0, (some 177), (.bin
  .neq (.t 173) (.t 176)), none⟩]) (.cond (.t 177) (.reg [(25, true)] false [⟨0, (some 178), (.fld 1 (.t 23)), none⟩, ⟨0, (some 179), (.load false 1 (.t
  178)), none⟩, ⟨0, (some 180), (.load true 5 (.t 25)), none⟩, ⟨0, (some 181), (.bslice 5 1 [(.int .i64 0), (.int .i64 0), (.int .i64 0), (.int .i64 0), (.int
  .i64 0)] [(0, (5, (.t 180)))]), none⟩, ⟨0, (some 182), (.app 5 40 (.t 179) (.t 181)), none⟩, ⟨0, (some 183), (.fld 1 (.t 23)), none⟩, ⟨0, none, (.store 1
  (.t 183) (.t 182) []), none⟩]) .skip)))) (.reg [] false [⟨0, (some 184), (.bin .add (.t 168) (.c (.int .i64 1))), none⟩, ⟨0, (some 168), (.mv (.t 184)),
  none⟩])))))
def x12l2 : XCode :=
  (.loop [7, 13, 21, 22, 23, 26, 28, 150, 151, 152, 186, 187, 188, 193, 194, 195] (.seq (.reg [] false [⟨0, (some 196), (.bin .lss (.t 195) (.t 194)), none⟩])
  (.seq (.cond (.t 196) .skip (.exit 8)) (.seq (.block 9 (.seq (.reg [] false [⟨0, (some 197), (.idx 1 (.t 193) (.t 195)), none⟩, ⟨0, (some 198), (.load false
  1 (.t 197)), none⟩, ⟨0, (some 30), (.mv (.t 198)), none⟩]) (.seq (.seq (.reg [] false [⟨0, (some 199), (.mv (.t 30)), none⟩, ⟨0, (some 200), (.mv (.t 22)),
  none⟩, ⟨0, (some 201), (.idx 1 (.t 200) (.c (.int .i64 0))), none⟩, ⟨0, (some 202), (.load false 1 (.t 201)), none⟩, ⟨0, (some 203), (.bin .gtr (.t 199) (.t
  202)), none⟩]) (.cond (.t 203) (.reg [] false [⟨0, (some 204), (.mv (.t 30)), none⟩, ⟨0, (some 205), (.bin .sub (.t 204) (.c (.int .i64 1))), none⟩, ⟨0,
  (some 30), (.mv (.t 205)), none⟩]) .skip)) (.reg [] false [⟨0, (some 206), (.mv (.t 28)), none⟩, ⟨0, (some 207), (.mv (.t 30)), none⟩, ⟨0, (some 208),
  (.bslice 1 1 [(.int .i64 0)] [(0, (1, (.t 207)))]), none⟩, ⟨0, (some 209), (.app 1 8 (.t 206) (.t 208)), none⟩, ⟨0, (some 28), (.mv (.t 209)), none⟩]))))
  (.reg [] false [⟨0, (some 210), (.bin .add (.t 195) (.c (.int .i64 1))), none⟩, ⟨0, (some 195), (.mv (.t 210)), none⟩])))))
def x12l3 : XCode :=
  (.loop [7, 13, 21, 22, 23, 150, 151, 152, 186, 187, 188] (.seq (.reg [] false [⟨0, (some 189), (.bin .lss (.t 188) (.t 187)), none⟩]) (.seq (.cond (.t 189)
  .skip (.exit 6)) (.seq (.block 7 (.seq (.reg [] false [⟨0, (some 190), (.mv (.t 188)), none⟩, ⟨0, (some 191), (.idx 1 (.t 186) (.t 188)), none⟩, ⟨0, (some
  192), (.load false 1 (.t 191)), none⟩, ⟨0, (some 26), (.mv (.t 190)), none⟩, ⟨0, (some 27), (.mv (.t 192)), none⟩]) (.seq (.reg [] false [⟨0, (some 28),
  (.mv (.c .nilsl)), none⟩]) (.seq (.seq (.reg [] false [⟨0, (some 193), (.mv (.t 27)), none⟩, ⟨0, (some 194), (.len false (.t 193)), none⟩, ⟨0, (some 195),
  (.mv (.c (.int .i64 0))), none⟩]) (.block 8 x12l2)) (.seq (.reg [] false [⟨0, (some 211), (.mv (.t 26)), none⟩, ⟨0, (some 212), (.mv (.t 21)), none⟩, ⟨0,
  (some 213), (.bin .neq (.t 211) (.t 212)), none⟩]) (.cond (.t 213) (.reg [(28, false)] false [⟨0, (some 214), (.fld 2 (.t 23)), none⟩, ⟨0, (some 215),
  (.load false 1 (.t 214)), none⟩, ⟨0, (some 216), (.mv (.t 28)), none⟩, ⟨0, (some 217), (.bslice 1 1 [.nilsl] [(0, (1, (.t 216)))]), none⟩, ⟨0, (some 218),
  (.app 1 24 (.t 215) (.t 217)), none⟩, ⟨0, (some 219), (.fld 2 (.t 23)), none⟩, ⟨0, none, (.store 1 (.t 219) (.t 218) []), none⟩]) .skip)))))) (.reg [] false
  [⟨0, (some 220), (.bin .add (.t 188) (.c (.int .i64 1))), none⟩, ⟨0, (some 188), (.mv (.t 220)), none⟩])))))
def x12l4 : XCode :=
  (.loop [7, 13, 150, 151, 152] (.seq (.reg [] false [⟨0, (some 153), (.bin .lss (.t 152) (.t 151)), none⟩]) (.seq (.cond (.t 153) .skip (.exit 2)) (.seq
  (.block 3 (.seq (.reg [] false [⟨0, (some 154), (.mv (.t 152)), none⟩, ⟨0, (some 155), (.idx 1 (.t 150) (.t 152)), none⟩, ⟨0, (some 156), (.load false 1 (.t
  155)), none⟩, ⟨0, (some 21), (.mv (.t 154)), none⟩, ⟨0, (some 22), (.mv (.t 156)), none⟩]) (.seq (.seq (.reg [] false [⟨0, (some 157), (.mv (.t 22)), none⟩,
  ⟨0, (some 158), (.len false (.t 157)), none⟩, ⟨0, (some 159), (.bin .neq (.t 158) (.c (.int .i64 1))), none⟩]) (.cond (.t 159) (.exit 3) .skip)) (.seq (.reg
  [] false [⟨0, (some 160), (.fld 0 (.t 7)), none⟩, ⟨0, (some 161), (.load false 1 (.t 160)), none⟩, ⟨0, (some 162), (.fld 3 (.t 7)), none⟩, ⟨0, (some 163),
  (.load true 2 (.t 162)), none⟩, ⟨0, (some 164), (.build [.nilsl, .nilsl, .nilsl, (.int .i64 0), (.int .i64 0)] [(0, (1, (.t 161))), (3, (2, (.t 163)))]),
  none⟩, ⟨0, (some 23), (.alloc [.nilsl, .nilsl, .nilsl, (.int .i64 0), (.int .i64 0)]), none⟩, ⟨0, none, (.store 5 (.t 23) (.t 164) []), none⟩]) (.seq (.seq
  (.reg [] false [⟨0, (some 165), (.fld 1 (.t 7)), none⟩, ⟨0, (some 166), (.load false 1 (.t 165)), none⟩, ⟨0, (some 167), (.len false (.t 166)), none⟩, ⟨0,
  (some 168), (.mv (.c (.int .i64 0))), none⟩]) (.block 4 x12l1)) (.seq (.seq (.reg [] false [⟨0, (some 185), (.fld 2 (.t 7)), none⟩, ⟨0, (some 186), (.load
  false 1 (.t 185)), none⟩, ⟨0, (some 187), (.len false (.t 186)), none⟩, ⟨0, (some 188), (.mv (.c (.int .i64 0))), none⟩]) (.block 6 x12l3)) (.seq (.reg
  [(23, true)] false [⟨0, (some 222), (.load true 5 (.t 23)), none⟩, ⟨0, (some 223), (.callf false (.c (.fn (.func 29) [] [])) [(.t 222)] []), none⟩, ⟨0,
  (some 221), (.mv (.t 223)), none⟩, ⟨0, (some 224), (.ext (.t 221) 0), none⟩, ⟨0, (some 225), (.ext (.t 221) 1), none⟩, ⟨0, (some 226), (.ext (.t 221) 2),
  none⟩, ⟨0, (some 31), (.mv (.t 224)), none⟩, ⟨0, (some 32), (.mv (.t 225)), none⟩, ⟨0, (some 33), (.mv (.t 226)), none⟩]) (.seq (.reg [] false [⟨0, (some
  227), (.mv (.t 33)), none⟩, ⟨0, (some 228), (.bin .neq (.t 227) (.c (.int .i64 0))), none⟩, ⟨0, (some 229), (.mv (.t 228)), none⟩, ⟨0, (some 230), (.mv (.t
  32)), (some (229, false))⟩, ⟨0, (some 231), (.mv (.t 13)), (some (229, false))⟩, ⟨0, (some 232), (.bin .gtr (.t 230) (.t 231)), (some (229, false))⟩, ⟨0,
  (some 233), (.pick (.t 229) (.c (.bool true)) (.t 232)), none⟩]) (.cond (.t 233) (.seq (.reg [] false [⟨0, (some 6), (.mv (.c (.bool false))), none⟩]) .ret)
  .skip))))))))) (.reg [] false [⟨0, (some 234), (.bin .add (.t 152) (.c (.int .i64 1))), none⟩, ⟨0, (some 152), (.mv (.t 234)), none⟩])))))
/-- zafra/zafralaw04.SourWorse -/
def x12 : XFn := ⟨236, [(6, none)], false, false,
  (.seq (.reg [] false [⟨0, (some 3), (.box (.t 0)), none⟩, ⟨0, (some 5), (.box (.t 2)), none⟩, ⟨0, (some 6), (.mv (.c (.bool false))), none⟩]) (.seq (.reg [(3,
  true)] false [⟨0, (some 34), (.load true 5 (.t 3)), none⟩, ⟨0, (some 35), (.callf false (.c (.fn (.func 39) [] [])) [(.t 34)] []), none⟩, ⟨0, (some 7),
  (.alloc [.nilsl, .nilsl, .nilsl, (.int .i64 0), (.int .i64 0)]), none⟩, ⟨0, none, (.store 5 (.t 7) (.t 35) []), none⟩]) (.seq (.seq (.reg [] false [⟨0,
  (some 36), (.fld 1 (.t 7)), none⟩, ⟨0, (some 37), (.load false 1 (.t 36)), none⟩, ⟨0, (some 38), (.len false (.t 37)), none⟩, ⟨0, (some 39), (.bin .eql (.t
  38) (.c (.int .i64 0))), none⟩]) (.cond (.t 39) (.seq (.reg [] false [⟨0, (some 40), (.callf false (.c (.fn (.func 15) [] [])) [] []), none⟩, ⟨0, (some 6),
  (.mv (.t 40)), none⟩]) .ret) .skip)) (.seq (.reg [] false [⟨0, (some 41), (.mv (.t 1)), none⟩, ⟨0, (some 42), (.conv .i64 (.t 41)), none⟩, ⟨0, (some 43),
  (.fld 1 (.t 7)), none⟩, ⟨0, (some 44), (.load false 1 (.t 43)), none⟩, ⟨0, (some 45), (.len false (.t 44)), none⟩, ⟨0, (some 46), (.bin .rem (.t 42) (.t
  45)), none⟩, ⟨0, (some 8), (.mv (.t 46)), none⟩]) (.seq (.reg [] false [⟨0, (some 47), (.load true 5 (.t 7)), none⟩, ⟨0, (some 9), (.alloc [.nilsl, .nilsl,
  .nilsl, (.int .i64 0), (.int .i64 0)]), none⟩, ⟨0, none, (.store 5 (.t 9) (.t 47) []), none⟩]) (.seq (.reg [] false [⟨0, (some 48), (.bslice 5 0 [(.int .i64
  0), (.int .i64 0), (.int .i64 0), (.int .i64 0), (.int .i64 0)] []), none⟩, ⟨0, (some 49), (.fld 1 (.t 7)), none⟩, ⟨0, (some 50), (.load false 1 (.t 49)),
  none⟩, ⟨0, (some 51), (.app 5 40 (.t 48) (.t 50)), none⟩, ⟨0, (some 52), (.fld 1 (.t 9)), none⟩, ⟨0, none, (.store 1 (.t 52) (.t 51) []), none⟩]) (.seq
  (.reg [] true [⟨0, (some 53), (.fld 1 (.t 9)), none⟩, ⟨1, (some 54), (.load false 1 (.t 53)), none⟩, ⟨2, (some 55), (.mv (.t 8)), none⟩, ⟨3, (some 56),
  (.idx 5 (.t 54) (.t 55)), none⟩, ⟨4, (some 57), (.fld 1 (.t 56)), none⟩, ⟨5, (some 58), (.fld 1 (.t 57)), none⟩, ⟨6, (some 59), (.load false 1 (.t 58)),
  none⟩, ⟨7, (some 60), (.idxa 3 1 (.t 5) (.c (.int .i64 0))), none⟩, ⟨8, (some 61), (.load false 1 (.t 60)), none⟩, ⟨9, (some 62), (.conv .i64 (.t 61)),
  none⟩, ⟨10, (some 63), (.bin .add (.t 59) (.t 62)), none⟩, ⟨11, (some 64), (.idx 5 (.t 54) (.t 55)), none⟩, ⟨12, (some 65), (.fld 1 (.t 64)), none⟩, ⟨13,
  (some 66), (.fld 1 (.t 65)), none⟩, ⟨14, none, (.store 1 (.t 66) (.t 63) []), none⟩]) (.seq (.reg [] true [⟨0, (some 67), (.fld 1 (.t 9)), none⟩, ⟨1, (some
  68), (.load false 1 (.t 67)), none⟩, ⟨2, (some 69), (.mv (.t 8)), none⟩, ⟨3, (some 70), (.idx 5 (.t 68) (.t 69)), none⟩, ⟨4, (some 71), (.fld 3 (.t 70)),
  none⟩, ⟨5, (some 72), (.fld 1 (.t 71)), none⟩, ⟨6, (some 73), (.load false 1 (.t 72)), none⟩, ⟨7, (some 74), (.idxa 3 1 (.t 5) (.c (.int .i64 1))), none⟩,
  ⟨8, (some 75), (.load false 1 (.t 74)), none⟩, ⟨9, (some 76), (.conv .i64 (.t 75)), none⟩, ⟨10, (some 77), (.bin .add (.t 73) (.t 76)), none⟩, ⟨11, (some
  78), (.idx 5 (.t 68) (.t 69)), none⟩, ⟨12, (some 79), (.fld 3 (.t 78)), none⟩, ⟨13, (some 80), (.fld 1 (.t 79)), none⟩, ⟨14, none, (.store 1 (.t 80) (.t 77)
  []), none⟩]) (.seq (.reg [] false [⟨0, (some 81), (.fld 3 (.t 9)), none⟩, ⟨0, (some 82), (.fld 1 (.t 81)), none⟩, ⟨0, (some 83), (.load false 1 (.t 82)),
  none⟩, ⟨0, (some 84), (.idxa 3 1 (.t 5) (.c (.int .i64 2))), none⟩, ⟨0, (some 85), (.load false 1 (.t 84)), none⟩, ⟨0, (some 86), (.conv .i64 (.t 85)),
  none⟩, ⟨0, (some 87), (.bin .add (.t 83) (.t 86)), none⟩, ⟨0, (some 88), (.fld 3 (.t 9)), none⟩, ⟨0, (some 89), (.fld 1 (.t 88)), none⟩, ⟨0, none, (.store 1
  (.t 89) (.t 87) []), none⟩]) (.seq (.reg [] false [⟨0, (some 90), (.load true 5 (.t 7)), none⟩, ⟨0, (some 10), (.alloc [.nilsl, .nilsl, .nilsl, (.int .i64
  0), (.int .i64 0)]), none⟩, ⟨0, none, (.store 5 (.t 10) (.t 90) []), none⟩]) (.seq (.reg [] false [⟨0, (some 91), (.fld 2 (.t 10)), none⟩, ⟨0, none, (.store
  1 (.t 91) (.c .nilsl) []), none⟩]) (.seq (.seq (.reg [] false [⟨0, (some 92), (.fld 1 (.t 7)), none⟩, ⟨0, (some 93), (.load false 1 (.t 92)), none⟩, ⟨0,
  (some 94), (.len false (.t 93)), none⟩, ⟨0, (some 95), (.mv (.c (.int .i64 0))), none⟩]) (.block 0 x12l0)) (.seq (.reg [(7, true)] false [⟨0, (some 112),
  (.load true 5 (.t 7)), none⟩, ⟨0, (some 113), (.callf false (.c (.fn (.func 29) [] [])) [(.t 112)] []), none⟩, ⟨0, (some 111), (.mv (.t 113)), none⟩, ⟨0,
  (some 114), (.ext (.t 111) 0), none⟩, ⟨0, (some 115), (.ext (.t 111) 1), none⟩, ⟨0, (some 116), (.ext (.t 111) 2), none⟩, ⟨0, (some 12), (.mv (.t 114)),
  none⟩, ⟨0, (some 13), (.mv (.t 115)), none⟩, ⟨0, (some 14), (.mv (.t 116)), none⟩]) (.seq (.reg [(9, true)] false [⟨0, (some 118), (.load true 5 (.t 9)),
  none⟩, ⟨0, (some 119), (.callf false (.c (.fn (.func 29) [] [])) [(.t 118)] []), none⟩, ⟨0, (some 117), (.mv (.t 119)), none⟩, ⟨0, (some 120), (.ext (.t
  117) 0), none⟩, ⟨0, (some 121), (.ext (.t 117) 1), none⟩, ⟨0, (some 122), (.ext (.t 117) 2), none⟩, ⟨0, (some 15), (.mv (.t 120)), none⟩, ⟨0, (some 16),
  (.mv (.t 121)), none⟩, ⟨0, (some 17), (.mv (.t 122)), none⟩]) (.seq (.reg [(10, true)] false [⟨0, (some 124), (.load true 5 (.t 10)), none⟩, ⟨0, (some 125),
  (.callf false (.c (.fn (.func 29) [] [])) [(.t 124)] []), none⟩, ⟨0, (some 123), (.mv (.t 125)), none⟩, ⟨0, (some 126), (.ext (.t 123) 0), none⟩, ⟨0, (some
  127), (.ext (.t 123) 1), none⟩, ⟨0, (some 128), (.ext (.t 123) 2), none⟩, ⟨0, (some 18), (.mv (.t 126)), none⟩, ⟨0, (some 19), (.mv (.t 127)), none⟩, ⟨0,
  (some 20), (.mv (.t 128)), none⟩]) (.seq (.seq (.reg [] false [⟨0, (some 129), (.mv (.t 14)), none⟩, ⟨0, (some 130), (.bin .neq (.t 129) (.c (.int .i64
  0))), none⟩, ⟨0, (some 131), (.mv (.t 130)), none⟩, ⟨0, (some 132), (.mv (.t 17)), (some (131, false))⟩, ⟨0, (some 133), (.bin .neq (.t 132) (.c (.int .i64
  0))), (some (131, false))⟩, ⟨0, (some 134), (.pick (.t 131) (.c (.bool true)) (.t 133)), none⟩, ⟨0, (some 135), (.mv (.t 134)), none⟩, ⟨0, (some 136), (.mv
  (.t 20)), (some (135, false))⟩, ⟨0, (some 137), (.bin .neq (.t 136) (.c (.int .i64 0))), (some (135, false))⟩, ⟨0, (some 138), (.pick (.t 135) (.c (.bool
  true)) (.t 137)), none⟩, ⟨0, (some 139), (.mv (.t 138)), none⟩, ⟨0, (some 140), (.mv (.t 16)), (some (139, false))⟩, ⟨0, (some 141), (.mv (.t 13)), (some
  (139, false))⟩, ⟨0, (some 142), (.bin .lss (.t 140) (.t 141)), (some (139, false))⟩, ⟨0, (some 143), (.pick (.t 139) (.c (.bool true)) (.t 142)), none⟩, ⟨0,
  (some 144), (.mv (.t 143)), none⟩, ⟨0, (some 145), (.mv (.t 19)), (some (144, false))⟩, ⟨0, (some 146), (.mv (.t 13)), (some (144, false))⟩, ⟨0, (some 147),
  (.bin .gtr (.t 145) (.t 146)), (some (144, false))⟩, ⟨0, (some 148), (.pick (.t 144) (.c (.bool true)) (.t 147)), none⟩]) (.cond (.t 148) (.seq (.reg []
  false [⟨0, (some 6), (.mv (.c (.bool false))), none⟩]) .ret) .skip)) (.seq (.seq (.reg [] false [⟨0, (some 149), (.fld 2 (.t 7)), none⟩, ⟨0, (some 150),
  (.load false 1 (.t 149)), none⟩, ⟨0, (some 151), (.len false (.t 150)), none⟩, ⟨0, (some 152), (.mv (.c (.int .i64 0))), none⟩]) (.block 2 x12l4)) (.seq
  (.reg [] false [⟨0, (some 235), (.callf false (.c (.fn (.func 15) [] [])) [] []), none⟩, ⟨0, (some 6), (.mv (.t 235)), none⟩]) .ret))))))))))))))))))⟩
theorem is12 : FnIs prog 12 x12.fn := ⟨fun vs w => call12 vs w, _, _, func12, rfl, rfl, by kernel_rfl, by kernel_rfl⟩
theorem ok12 : okX x12.body = true := by kernel_rfl
theorem st12 : sitesP x12 x12.body := (sitesP_of rfl)

end Go.Proofs.YtpbeclkpohehgaaDoor
end
section
set_option maxRecDepth 100000
namespace Go.Proofs.YtpbeclkpohehgaaDoor
open Go Go.DL Go.Proofs.Tryd

def x13l0 : XCode :=
  (.loop [1, 7, 8, 9, 10, 55, 56, 57] (.seq (.reg [] false [⟨0, (some 58), (.bin .lss (.t 57) (.t 56)), none⟩]) (.seq (.cond (.t 58) .skip (.exit 0)) (.seq
  (.block 1 (.seq (.reg [] false [⟨0, (some 59), (.mv (.t 57)), none⟩, ⟨0, (some 60), (.idx 5 (.t 55) (.t 57)), none⟩, ⟨0, (some 61), (.load true 5 (.t 60)),
  none⟩, ⟨0, (some 12), (.alloc [(.int .i64 0), (.int .i64 0), (.int .i64 0), (.int .i64 0), (.int .i64 0)]), none⟩, ⟨0, (some 11), (.mv (.t 59)), none⟩, ⟨0,
  none, (.store 5 (.t 12) (.t 61) []), none⟩]) (.reg [] true [⟨0, (some 62), (.fld 1 (.t 10)), none⟩, ⟨1, (some 63), (.load false 1 (.t 62)), none⟩, ⟨2, (some
  64), (.mv (.t 9)), none⟩, ⟨3, (some 65), (.mv (.t 11)), none⟩, ⟨5, (some 67), (.load true 5 (.t 12)), none⟩, ⟨4, (some 66), (.callf false (.t 64) [(.t 65)]
  [1, 5]), none⟩, ⟨6, (some 68), (.idx 5 (.t 63) (.t 66)), none⟩, ⟨7, none, (.store 5 (.t 68) (.t 67) []), none⟩]))) (.reg [] false [⟨0, (some 69), (.bin .add
  (.t 57) (.c (.int .i64 1))), none⟩, ⟨0, (some 57), (.mv (.t 69)), none⟩])))))
def x13l1 : XCode :=
  (.loop [1, 7, 8, 9, 10, 15, 71, 72, 73, 77, 78, 79] (.seq (.reg [] false [⟨0, (some 80), (.bin .lss (.t 79) (.t 78)), none⟩]) (.seq (.cond (.t 80) .skip
  (.exit 4)) (.seq (.block 5 (.seq (.reg [] false [⟨0, (some 81), (.idx 1 (.t 77) (.t 79)), none⟩, ⟨0, (some 82), (.load false 1 (.t 81)), none⟩, ⟨0, (some
  17), (.mv (.t 82)), none⟩]) (.reg [(17, false)] false [⟨0, (some 83), (.mv (.t 15)), none⟩, ⟨0, (some 84), (.mv (.t 9)), none⟩, ⟨0, (some 85), (.mv (.t
  17)), none⟩, ⟨0, (some 86), (.callf false (.t 84) [(.t 85)] []), none⟩, ⟨0, (some 87), (.bslice 1 1 [(.int .i64 0)] [(0, (1, (.t 86)))]), none⟩, ⟨0, (some
  88), (.app 1 8 (.t 83) (.t 87)), none⟩, ⟨0, (some 15), (.mv (.t 88)), none⟩]))) (.reg [] false [⟨0, (some 89), (.bin .add (.t 79) (.c (.int .i64 1))),
  none⟩, ⟨0, (some 79), (.mv (.t 89)), none⟩])))))
def x13l2 : XCode :=
  (.loop [1, 7, 8, 9, 10, 71, 72, 73] (.seq (.reg [] false [⟨0, (some 74), (.bin .lss (.t 73) (.t 72)), none⟩]) (.seq (.cond (.t 74) .skip (.exit 2)) (.seq
  (.block 3 (.seq (.reg [] false [⟨0, (some 75), (.idx 1 (.t 71) (.t 73)), none⟩, ⟨0, (some 76), (.load false 1 (.t 75)), none⟩, ⟨0, (some 14), (.mv (.t 76)),
  none⟩]) (.seq (.reg [] false [⟨0, (some 15), (.mv (.c .nilsl)), none⟩]) (.seq (.seq (.reg [] false [⟨0, (some 77), (.mv (.t 14)), none⟩, ⟨0, (some 78),
  (.len false (.t 77)), none⟩, ⟨0, (some 79), (.mv (.c (.int .i64 0))), none⟩]) (.block 4 x13l1)) (.reg [(15, false)] false [⟨0, (some 90), (.mv (.t 15)),
  none⟩, ⟨0, (some 91), (.bslice 1 1 [.nilsl] [(0, (1, (.t 90)))]), none⟩, ⟨0, (some 92), (.fld 2 (.t 10)), none⟩, ⟨0, (some 93), (.load false 1 (.t 92)),
  none⟩, ⟨0, (some 94), (.app 1 24 (.t 91) (.t 93)), none⟩, ⟨0, (some 95), (.fld 2 (.t 10)), none⟩, ⟨0, none, (.store 1 (.t 95) (.t 94) []), none⟩]))))) (.reg
  [] false [⟨0, (some 96), (.bin .add (.t 73) (.c (.int .i64 1))), none⟩, ⟨0, (some 73), (.mv (.t 96)), none⟩])))))
def x13l3 : XCode :=
  (.loop [7, 8, 9, 10, 18, 19, 100, 101, 102] (.seq (.reg [] false [⟨0, (some 103), (.bin .lss (.t 102) (.t 101)), none⟩]) (.seq (.cond (.t 103) .skip (.exit
  6)) (.seq (.block 7 (.seq (.reg [] false [⟨0, (some 104), (.idx 1 (.t 100) (.t 102)), none⟩, ⟨0, (some 105), (.load false 1 (.t 104)), none⟩, ⟨0, (some 21),
  (.mv (.t 105)), none⟩]) (.reg [(21, false)] false [⟨0, (some 106), (.mv (.t 19)), none⟩, ⟨0, (some 107), (.mv (.t 9)), none⟩, ⟨0, (some 108), (.mv (.t 21)),
  none⟩, ⟨0, (some 109), (.callf false (.t 107) [(.t 108)] []), none⟩, ⟨0, (some 110), (.bslice 1 1 [(.int .i64 0)] [(0, (1, (.t 109)))]), none⟩, ⟨0, (some
  111), (.app 1 8 (.t 106) (.t 110)), none⟩, ⟨0, (some 19), (.mv (.t 111)), none⟩]))) (.reg [] false [⟨0, (some 112), (.bin .add (.t 102) (.c (.int .i64 1))),
  none⟩, ⟨0, (some 102), (.mv (.t 112)), none⟩])))))
def x13l4 : XCode :=
  (.loop [7, 9, 19, 22, 23, 25, 26, 183, 184] (.seq (.reg [] false [⟨0, (some 185), (.bin .lss (.t 184) (.t 183)), none⟩]) (.seq (.cond (.t 185) .skip (.exit
  8)) (.seq (.block 9 (.seq (.reg [] false [⟨0, (some 186), (.mv (.t 184)), none⟩, ⟨0, (some 34), (.mv (.t 186)), none⟩]) (.seq (.reg [] true [⟨0, (some 187),
  (.mv (.t 22)), none⟩, ⟨1, (some 188), (.mv (.t 34)), none⟩, ⟨2, (some 189), (.idx 2 (.t 187) (.t 188)), none⟩, ⟨3, (some 190), (.load true 2 (.t 189)),
  none⟩, ⟨4, (some 191), (.mv (.t 25)), none⟩, ⟨5, (some 192), (.mv (.t 9)), none⟩, ⟨6, (some 193), (.mv (.t 34)), none⟩, ⟨7, (some 194), (.callf false (.t
  192) [(.t 193)] [3]), none⟩, ⟨8, (some 195), (.idx 2 (.t 191) (.t 194)), none⟩, ⟨9, (some 196), (.load true 2 (.t 195)), none⟩, ⟨10, (some 197), (.eqag true
  [0, 0] (.t 190) (.t 196)), none⟩, ⟨11, (some 198), (.mv (.t 197)), none⟩, ⟨12, (some 199), (.mv (.t 23)), (some (198, false))⟩, ⟨13, (some 200), (.mv (.t
  34)), (some (198, false))⟩, ⟨14, (some 201), (.idx 2 (.t 199) (.t 200)), (some (198, false))⟩, ⟨15, (some 202), (.load true 2 (.t 201)), (some (198,
  false))⟩, ⟨16, (some 203), (.mv (.t 26)), (some (198, false))⟩, ⟨17, (some 204), (.mv (.t 9)), (some (198, false))⟩, ⟨18, (some 205), (.mv (.t 34)), (some
  (198, false))⟩, ⟨19, (some 206), (.callf false (.t 204) [(.t 205)] [15]), (some (198, false))⟩, ⟨20, (some 207), (.idx 2 (.t 203) (.t 206)), (some (198,
  false))⟩, ⟨21, (some 208), (.load true 2 (.t 207)), (some (198, false))⟩, ⟨22, (some 209), (.eqag true [0, 0] (.t 202) (.t 208)), (some (198, false))⟩, ⟨23,
  (some 210), (.pick (.t 198) (.c (.bool true)) (.t 209)), none⟩]) (.cond (.t 210) (.seq (.reg [] false [⟨0, (some 6), (.mv (.c (.bool false))), none⟩]) .ret)
  .skip)))) (.reg [] false [⟨0, (some 211), (.bin .add (.t 184) (.c (.int .i64 1))), none⟩, ⟨0, (some 184), (.mv (.t 211)), none⟩])))))
/-- zafra/zafralaw04.SourNumbers -/
def x13 : XFn := ⟨232, [(6, none)], false, false,
  (.seq (.reg [] false [⟨0, (some 3), (.box (.t 0)), none⟩, ⟨0, (some 5), (.box (.t 2)), none⟩, ⟨0, (some 6), (.mv (.c (.bool false))), none⟩]) (.seq (.reg [(3,
  true)] false [⟨0, (some 38), (.load true 5 (.t 3)), none⟩, ⟨0, (some 39), (.callf false (.c (.fn (.func 39) [] [])) [(.t 38)] []), none⟩, ⟨0, (some 7),
  (.alloc [.nilsl, .nilsl, .nilsl, (.int .i64 0), (.int .i64 0)]), none⟩, ⟨0, none, (.store 5 (.t 7) (.t 39) []), none⟩]) (.seq (.reg [] false [⟨0, (some 40),
  (.fld 1 (.t 7)), none⟩, ⟨0, (some 41), (.load false 1 (.t 40)), none⟩, ⟨0, (some 42), (.len false (.t 41)), none⟩, ⟨0, (some 8), (.alloc [(.int .i64 0)]),
  none⟩, ⟨0, none, (.store 1 (.t 8) (.t 42) []), none⟩]) (.seq (.seq (.reg [] false [⟨0, (some 43), (.load false 1 (.t 8)), none⟩, ⟨0, (some 44), (.bin .eql
  (.t 43) (.c (.int .i64 0))), none⟩]) (.cond (.t 44) (.seq (.reg [] false [⟨0, (some 45), (.callf false (.c (.fn (.func 15) [] [])) [] []), none⟩, ⟨0, (some
  6), (.mv (.t 45)), none⟩]) .ret) .skip)) (.seq (.reg [] false [⟨0, (some 46), (.mkf (.func 47) [] [(.t 5), (.t 8)]), none⟩, ⟨0, (some 9), (.mv (.t 46)),
  none⟩]) (.seq (.reg [] true [⟨0, (some 47), (.fld 0 (.t 7)), none⟩, ⟨1, (some 48), (.load false 1 (.t 47)), none⟩, ⟨2, (some 49), (.fld 3 (.t 7)), none⟩,
  ⟨3, (some 50), (.load true 2 (.t 49)), none⟩, ⟨4, (some 51), (.load false 1 (.t 8)), none⟩, ⟨5, (some 52), (.mksl 5 40 [(.int .i64 0), (.int .i64 0), (.int
  .i64 0), (.int .i64 0), (.int .i64 0)] (.t 51) (.t 51)), none⟩, ⟨6, (some 53), (.build [.nilsl, .nilsl, .nilsl, (.int .i64 0), (.int .i64 0)] [(0, (1, (.t
  48))), (3, (2, (.t 50))), (1, (1, (.t 52)))]), none⟩, ⟨7, (some 10), (.alloc [.nilsl, .nilsl, .nilsl, (.int .i64 0), (.int .i64 0)]), none⟩, ⟨8, none,
  (.store 5 (.t 10) (.t 53) []), none⟩]) (.seq (.seq (.reg [] false [⟨0, (some 54), (.fld 1 (.t 7)), none⟩, ⟨0, (some 55), (.load false 1 (.t 54)), none⟩, ⟨0,
  (some 56), (.len false (.t 55)), none⟩, ⟨0, (some 57), (.mv (.c (.int .i64 0))), none⟩]) (.block 0 x13l0)) (.seq (.seq (.reg [] false [⟨0, (some 70), (.fld
  2 (.t 7)), none⟩, ⟨0, (some 71), (.load false 1 (.t 70)), none⟩, ⟨0, (some 72), (.len false (.t 71)), none⟩, ⟨0, (some 73), (.mv (.c (.int .i64 0))),
  none⟩]) (.block 2 x13l2)) (.seq (.reg [(7, true), (1, false)] false [⟨0, (some 97), (.load true 5 (.t 7)), none⟩, ⟨0, (some 98), (.mv (.t 1)), none⟩, ⟨0,
  (some 99), (.callf false (.c (.fn (.func 40) [] [])) [(.t 97), (.t 98)] []), none⟩, ⟨0, (some 18), (.mv (.t 99)), none⟩]) (.seq (.reg [] false [⟨0, (some
  19), (.mv (.c .nilsl)), none⟩]) (.seq (.seq (.reg [] false [⟨0, (some 100), (.mv (.t 18)), none⟩, ⟨0, (some 101), (.len false (.t 100)), none⟩, ⟨0, (some
  102), (.mv (.c (.int .i64 0))), none⟩]) (.block 6 x13l3)) (.seq (.reg [(7, true), (18, false)] false [⟨0, (some 114), (.load true 5 (.t 7)), none⟩, ⟨0,
  (some 115), (.mv (.t 18)), none⟩, ⟨0, (some 116), (.callf false (.c (.fn (.func 17) [] [])) [(.t 114), (.t 115)] []), none⟩, ⟨0, (some 113), (.mv (.t 116)),
  none⟩, ⟨0, (some 117), (.ext (.t 113) 0), none⟩, ⟨0, (some 118), (.ext (.t 113) 1), none⟩, ⟨0, (some 119), (.ext (.t 113) 2), none⟩, ⟨0, (some 22), (.mv (.t
  117)), none⟩, ⟨0, (some 23), (.mv (.t 118)), none⟩, ⟨0, (some 24), (.mv (.t 119)), none⟩]) (.seq (.reg [(10, true), (19, false)] false [⟨0, (some 121),
  (.load true 5 (.t 10)), none⟩, ⟨0, (some 122), (.mv (.t 19)), none⟩, ⟨0, (some 123), (.callf false (.c (.fn (.func 17) [] [])) [(.t 121), (.t 122)] []),
  none⟩, ⟨0, (some 120), (.mv (.t 123)), none⟩, ⟨0, (some 124), (.ext (.t 120) 0), none⟩, ⟨0, (some 125), (.ext (.t 120) 1), none⟩, ⟨0, (some 126), (.ext (.t
  120) 2), none⟩, ⟨0, (some 25), (.mv (.t 124)), none⟩, ⟨0, (some 26), (.mv (.t 125)), none⟩, ⟨0, (some 27), (.mv (.t 126)), none⟩]) (.seq (.reg [(7, true)]
  false [⟨0, (some 128), (.load true 5 (.t 7)), none⟩, ⟨0, (some 129), (.callf false (.c (.fn (.func 29) [] [])) [(.t 128)] []), none⟩, ⟨0, (some 127), (.mv
  (.t 129)), none⟩, ⟨0, (some 130), (.ext (.t 127) 0), none⟩, ⟨0, (some 131), (.ext (.t 127) 1), none⟩, ⟨0, (some 132), (.ext (.t 127) 2), none⟩, ⟨0, (some
  28), (.mv (.t 130)), none⟩, ⟨0, (some 29), (.mv (.t 131)), none⟩, ⟨0, (some 30), (.mv (.t 132)), none⟩]) (.seq (.reg [(10, true)] false [⟨0, (some 134),
  (.load true 5 (.t 10)), none⟩, ⟨0, (some 135), (.callf false (.c (.fn (.func 29) [] [])) [(.t 134)] []), none⟩, ⟨0, (some 133), (.mv (.t 135)), none⟩, ⟨0,
  (some 136), (.ext (.t 133) 0), none⟩, ⟨0, (some 137), (.ext (.t 133) 1), none⟩, ⟨0, (some 138), (.ext (.t 133) 2), none⟩, ⟨0, (some 31), (.mv (.t 136)),
  none⟩, ⟨0, (some 32), (.mv (.t 137)), none⟩, ⟨0, (some 33), (.mv (.t 138)), none⟩]) (.seq (.seq (.reg [] false [⟨0, (some 139), (.mv (.t 24)), none⟩, ⟨0,
  (some 140), (.bin .neq (.t 139) (.c (.int .i64 0))), none⟩, ⟨0, (some 141), (.mv (.t 140)), none⟩, ⟨0, (some 142), (.mv (.t 27)), (some (141, false))⟩, ⟨0,
  (some 143), (.bin .neq (.t 142) (.c (.int .i64 0))), (some (141, false))⟩, ⟨0, (some 144), (.pick (.t 141) (.c (.bool true)) (.t 143)), none⟩, ⟨0, (some
  145), (.mv (.t 144)), none⟩, ⟨0, (some 146), (.mv (.t 30)), (some (145, false))⟩, ⟨0, (some 147), (.bin .neq (.t 146) (.c (.int .i64 0))), (some (145,
  false))⟩, ⟨0, (some 148), (.pick (.t 145) (.c (.bool true)) (.t 147)), none⟩, ⟨0, (some 149), (.mv (.t 148)), none⟩, ⟨0, (some 150), (.mv (.t 33)), (some
  (149, false))⟩, ⟨0, (some 151), (.bin .neq (.t 150) (.c (.int .i64 0))), (some (149, false))⟩, ⟨0, (some 152), (.pick (.t 149) (.c (.bool true)) (.t 151)),
  none⟩, ⟨0, (some 153), (.mv (.t 152)), none⟩, ⟨0, (some 154), (.mv (.t 29)), (some (153, false))⟩, ⟨0, (some 155), (.mv (.t 32)), (some (153, false))⟩, ⟨0,
  (some 156), (.bin .neq (.t 154) (.t 155)), (some (153, false))⟩, ⟨0, (some 157), (.pick (.t 153) (.c (.bool true)) (.t 156)), none⟩, ⟨0, (some 158), (.mv
  (.t 157)), none⟩, ⟨0, (some 159), (.mv (.t 22)), (some (158, false))⟩, ⟨0, (some 160), (.len false (.t 159)), (some (158, false))⟩, ⟨0, (some 161), (.load
  false 1 (.t 8)), (some (158, false))⟩, ⟨0, (some 162), (.bin .neq (.t 160) (.t 161)), (some (158, false))⟩, ⟨0, (some 163), (.pick (.t 158) (.c (.bool
  true)) (.t 162)), none⟩, ⟨0, (some 164), (.mv (.t 163)), none⟩, ⟨0, (some 165), (.mv (.t 23)), (some (164, false))⟩, ⟨0, (some 166), (.len false (.t 165)),
  (some (164, false))⟩, ⟨0, (some 167), (.load false 1 (.t 8)), (some (164, false))⟩, ⟨0, (some 168), (.bin .neq (.t 166) (.t 167)), (some (164, false))⟩, ⟨0,
  (some 169), (.pick (.t 164) (.c (.bool true)) (.t 168)), none⟩, ⟨0, (some 170), (.mv (.t 169)), none⟩, ⟨0, (some 171), (.mv (.t 25)), (some (170, false))⟩,
  ⟨0, (some 172), (.len false (.t 171)), (some (170, false))⟩, ⟨0, (some 173), (.load false 1 (.t 8)), (some (170, false))⟩, ⟨0, (some 174), (.bin .neq (.t
  172) (.t 173)), (some (170, false))⟩, ⟨0, (some 175), (.pick (.t 170) (.c (.bool true)) (.t 174)), none⟩, ⟨0, (some 176), (.mv (.t 175)), none⟩, ⟨0, (some
  177), (.mv (.t 26)), (some (176, false))⟩, ⟨0, (some 178), (.len false (.t 177)), (some (176, false))⟩, ⟨0, (some 179), (.load false 1 (.t 8)), (some (176,
  false))⟩, ⟨0, (some 180), (.bin .neq (.t 178) (.t 179)), (some (176, false))⟩, ⟨0, (some 181), (.pick (.t 176) (.c (.bool true)) (.t 180)), none⟩]) (.cond
  (.t 181) (.seq (.reg [] false [⟨0, (some 6), (.mv (.c (.bool false))), none⟩]) .ret) .skip)) (.seq (.seq (.reg [] false [⟨0, (some 182), (.mv (.t 22)),
  none⟩, ⟨0, (some 183), (.len false (.t 182)), none⟩, ⟨0, (some 184), (.mv (.c (.int .i64 0))), none⟩]) (.block 8 x13l4)) (.seq (.reg [] false [⟨0, (some
  212), (.load true 5 (.t 7)), none⟩, ⟨0, (some 35), (.alloc [.nilsl, .nilsl, .nilsl, (.int .i64 0), (.int .i64 0)]), none⟩, ⟨0, none, (.store 5 (.t 35) (.t
  212) []), none⟩]) (.seq (.reg [(19, false)] false [⟨0, (some 213), (.mv (.t 19)), none⟩, ⟨0, (some 214), (.bslice 1 1 [.nilsl] [(0, (1, (.t 213)))]), none⟩,
  ⟨0, (some 215), (.fld 2 (.t 35)), none⟩, ⟨0, none, (.store 1 (.t 215) (.t 214) []), none⟩]) (.seq (.reg [(35, true)] false [⟨0, (some 217), (.load true 5
  (.t 35)), none⟩, ⟨0, (some 218), (.callf false (.c (.fn (.func 29) [] [])) [(.t 217)] []), none⟩, ⟨0, (some 216), (.mv (.t 218)), none⟩, ⟨0, (some 219),
  (.ext (.t 216) 0), none⟩, ⟨0, (some 220), (.ext (.t 216) 1), none⟩, ⟨0, (some 221), (.ext (.t 216) 2), none⟩, ⟨0, (some 36), (.mv (.t 219)), none⟩, ⟨0,
  (some 37), (.mv (.t 220)), none⟩, ⟨0, (some 24), (.mv (.t 221)), none⟩]) (.seq (.reg [(36, false), (19, false)] false [⟨0, (some 222), (.mv (.t 24)), none⟩,
  ⟨0, (some 223), (.bin .eql (.t 222) (.c (.int .i64 0))), none⟩, ⟨0, (some 224), (.mv (.t 223)), none⟩, ⟨0, (some 225), (.mv (.t 36)), (some (224, true))⟩,
  ⟨0, (some 226), (.mv (.t 19)), (some (224, true))⟩, ⟨0, (some 227), (.callf false (.c (.fn (.func 34) [] [])) [(.t 225), (.t 226)] []), (some (224, true))⟩,
  ⟨0, (some 228), (.pick (.t 224) (.t 227) (.c (.bool false))), none⟩, ⟨0, (some 229), (.mv (.t 228)), none⟩, ⟨0, (some 230), (.callf false (.c (.fn (.func
  15) [] [])) [] []), (some (229, true))⟩, ⟨0, (some 231), (.pick (.t 229) (.t 230) (.c (.bool false))), none⟩, ⟨0, (some 6), (.mv (.t 231)), none⟩])
  .ret)))))))))))))))))))))⟩
theorem is13 : FnIs prog 13 x13.fn := ⟨fun vs w => call13 vs w, _, _, func13, rfl, rfl, by kernel_rfl, by kernel_rfl⟩
theorem ok13 : okX x13.body = true := by kernel_rfl
theorem st13 : sitesP x13 x13.body := (sitesP_of rfl)

def x14l0 : XCode :=
  (.loop [1, 3, 4] (.seq (.seq (.reg [] false [⟨0, (some 22), (.mv (.t 4)), none⟩, ⟨0, (some 23), (.fld 0 (.t 1)), none⟩, ⟨0, (some 24), (.load false 1 (.t
  23)), none⟩, ⟨0, (some 25), (.len false (.t 24)), none⟩, ⟨0, (some 26), (.bin .lss (.t 22) (.t 25)), none⟩]) (.cond (.t 26) .skip (.exit 0))) (.seq (.block
  1 (.reg [] false [⟨0, (some 29), (.mv (.t 3)), none⟩, ⟨0, (some 30), (.mv (.t 29)), none⟩, ⟨0, (some 31), (.fld 0 (.t 1)), (some (30, false))⟩, ⟨0, (some
  32), (.load false 1 (.t 31)), (some (30, false))⟩, ⟨0, (some 33), (.mv (.t 4)), (some (30, false))⟩, ⟨0, (some 34), (.idx 1 (.t 32) (.t 33)), (some (30,
  false))⟩, ⟨0, (some 35), (.load false 1 (.t 34)), (some (30, false))⟩, ⟨0, (some 36), (.len false (.t 35)), (some (30, false))⟩, ⟨0, (some 37), (.bin .gtr
  (.t 36) (.c (.int .i64 20))), (some (30, false))⟩, ⟨0, (some 38), (.pick (.t 30) (.c (.bool true)) (.t 37)), none⟩, ⟨0, (some 3), (.mv (.t 38)), none⟩]))
  (.reg [] false [⟨0, (some 27), (.mv (.t 4)), none⟩, ⟨0, (some 28), (.bin .add (.t 27) (.c (.int .i64 1))), none⟩, ⟨0, (some 4), (.mv (.t 28)), none⟩]))))
def x14l1 : XCode :=
  (.loop [1, 3, 5] (.seq (.seq (.reg [] false [⟨0, (some 39), (.mv (.t 5)), none⟩, ⟨0, (some 40), (.fld 2 (.t 1)), none⟩, ⟨0, (some 41), (.load false 1 (.t
  40)), none⟩, ⟨0, (some 42), (.len false (.t 41)), none⟩, ⟨0, (some 43), (.bin .lss (.t 39) (.t 42)), none⟩]) (.cond (.t 43) .skip (.exit 2))) (.seq (.block
  3 (.reg [] false [⟨0, (some 46), (.mv (.t 3)), none⟩, ⟨0, (some 47), (.mv (.t 46)), none⟩, ⟨0, (some 48), (.fld 2 (.t 1)), (some (47, false))⟩, ⟨0, (some
  49), (.load false 1 (.t 48)), (some (47, false))⟩, ⟨0, (some 50), (.mv (.t 5)), (some (47, false))⟩, ⟨0, (some 51), (.idx 1 (.t 49) (.t 50)), (some (47,
  false))⟩, ⟨0, (some 52), (.load false 1 (.t 51)), (some (47, false))⟩, ⟨0, (some 53), (.len false (.t 52)), (some (47, false))⟩, ⟨0, (some 54), (.bin .gtr
  (.t 53) (.c (.int .i64 30))), (some (47, false))⟩, ⟨0, (some 55), (.pick (.t 47) (.c (.bool true)) (.t 54)), none⟩, ⟨0, (some 3), (.mv (.t 55)), none⟩]))
  (.reg [] false [⟨0, (some 44), (.mv (.t 5)), none⟩, ⟨0, (some 45), (.bin .add (.t 44) (.c (.int .i64 1))), none⟩, ⟨0, (some 5), (.mv (.t 45)), none⟩]))))
/-- zafra/zafralaw04.large -/
def x14 : XFn := ⟨57, [(2, none)], false, false,
  (.seq (.reg [] false [⟨0, (some 1), (.box (.t 0)), none⟩, ⟨0, (some 2), (.mv (.c (.bool false))), none⟩]) (.seq (.reg [] false [⟨0, (some 6), (.fld 0 (.t 1)),
  none⟩, ⟨0, (some 7), (.load false 1 (.t 6)), none⟩, ⟨0, (some 8), (.len false (.t 7)), none⟩, ⟨0, (some 9), (.bin .gtr (.t 8) (.c (.int .i64 20))), none⟩,
  ⟨0, (some 10), (.mv (.t 9)), none⟩, ⟨0, (some 11), (.fld 1 (.t 1)), (some (10, false))⟩, ⟨0, (some 12), (.load false 1 (.t 11)), (some (10, false))⟩, ⟨0,
  (some 13), (.len false (.t 12)), (some (10, false))⟩, ⟨0, (some 14), (.bin .gtr (.t 13) (.c (.int .i64 30))), (some (10, false))⟩, ⟨0, (some 15), (.pick (.t
  10) (.c (.bool true)) (.t 14)), none⟩, ⟨0, (some 16), (.mv (.t 15)), none⟩, ⟨0, (some 17), (.fld 2 (.t 1)), (some (16, false))⟩, ⟨0, (some 18), (.load false
  1 (.t 17)), (some (16, false))⟩, ⟨0, (some 19), (.len false (.t 18)), (some (16, false))⟩, ⟨0, (some 20), (.bin .gtr (.t 19) (.c (.int .i64 30))), (some
  (16, false))⟩, ⟨0, (some 21), (.pick (.t 16) (.c (.bool true)) (.t 20)), none⟩, ⟨0, (some 3), (.mv (.t 21)), none⟩]) (.seq (.seq (.reg [] false [⟨0, (some
  4), (.mv (.c (.int .i64 0))), none⟩]) (.block 0 x14l0)) (.seq (.seq (.reg [] false [⟨0, (some 5), (.mv (.c (.int .i64 0))), none⟩]) (.block 2 x14l1)) (.seq
  (.reg [] false [⟨0, (some 56), (.mv (.t 3)), none⟩, ⟨0, (some 2), (.mv (.t 56)), none⟩]) .ret)))))⟩
theorem is14 : FnIs prog 14 x14.fn := ⟨fun vs w => call14 vs w, _, _, func14, rfl, rfl, by kernel_rfl, by kernel_rfl⟩
theorem ok14 : okX x14.body = true := by kernel_rfl
theorem st14 : sitesP x14 x14.body := (sitesP_of rfl)

/-- zafra/zafralaw04.works -/
def x15 : XFn := ⟨170, [(0, none)], false, false,
  (.seq (.reg [] false [⟨0, (some 0), (.mv (.c (.bool false))), none⟩]) (.seq (.reg [] false [⟨0, (some 18), (.callf false (.c (.fn (.func 49) [] [])) [] []),
  none⟩, ⟨0, (some 19), (.callf false (.c (.fn (.func 48) [] [])) [(.t 18)] []), none⟩, ⟨0, (some 20), (.bslice 1 3 [(.int .i64 0)] [(0, (1, (.c (.int .i64
  0)))), (1, (1, (.c (.int .i64 2)))), (2, (1, (.c (.int .i64 1))))]), none⟩, ⟨0, (some 21), (.callf false (.c (.fn (.func 17) [] [])) [(.t 19), (.t 20)] []),
  none⟩, ⟨0, (some 17), (.mv (.t 21)), none⟩, ⟨0, (some 22), (.ext (.t 17) 0), none⟩, ⟨0, (some 23), (.ext (.t 17) 1), none⟩, ⟨0, (some 24), (.ext (.t 17) 2),
  none⟩, ⟨0, (some 1), (.mv (.t 22)), none⟩, ⟨0, (some 2), (.mv (.t 23)), none⟩, ⟨0, (some 3), (.mv (.t 24)), none⟩]) (.seq (.reg [] false [⟨0, (some 26),
  (.callf false (.c (.fn (.func 49) [] [])) [] []), none⟩, ⟨0, (some 27), (.callf false (.c (.fn (.func 48) [] [])) [(.t 26)] []), none⟩, ⟨0, (some 28),
  (.bslice 1 3 [(.int .i64 0)] [(0, (1, (.c (.int .i64 0)))), (1, (1, (.c (.int .i64 1)))), (2, (1, (.c (.int .i64 2))))]), none⟩, ⟨0, (some 29), (.callf
  false (.c (.fn (.func 19) [] [])) [(.t 27), (.t 28)] []), none⟩, ⟨0, (some 25), (.mv (.t 29)), none⟩, ⟨0, (some 30), (.ext (.t 25) 0), none⟩, ⟨0, (some 31),
  (.ext (.t 25) 1), none⟩, ⟨0, (some 4), (.mv (.t 30)), none⟩, ⟨0, (some 5), (.mv (.t 31)), none⟩]) (.seq (.reg [] false [⟨0, (some 33), (.callf false (.c
  (.fn (.func 49) [] [])) [] []), none⟩, ⟨0, (some 34), (.callf false (.c (.fn (.func 48) [] [])) [(.t 33)] []), none⟩, ⟨0, (some 35), (.bslice 1 3 [(.int
  .i64 0)] [(0, (1, (.c (.int .i64 2)))), (1, (1, (.c (.int .i64 0)))), (2, (1, (.c (.int .i64 1))))]), none⟩, ⟨0, (some 36), (.callf false (.c (.fn (.func
  19) [] [])) [(.t 34), (.t 35)] []), none⟩, ⟨0, (some 32), (.mv (.t 36)), none⟩, ⟨0, (some 37), (.ext (.t 32) 0), none⟩, ⟨0, (some 38), (.ext (.t 32) 1),
  none⟩, ⟨0, (some 6), (.mv (.t 37)), none⟩, ⟨0, (some 7), (.mv (.t 38)), none⟩]) (.seq (.seq (.reg [(1, false), (2, false)] false [⟨0, (some 39), (.mv (.t
  3)), none⟩, ⟨0, (some 40), (.bin .neq (.t 39) (.c (.int .i64 0))), none⟩, ⟨0, (some 41), (.mv (.t 40)), none⟩, ⟨0, (some 42), (.mv (.t 5)), (some (41,
  false))⟩, ⟨0, (some 43), (.bin .neq (.t 42) (.c (.int .i64 0))), (some (41, false))⟩, ⟨0, (some 44), (.pick (.t 41) (.c (.bool true)) (.t 43)), none⟩, ⟨0,
  (some 45), (.mv (.t 44)), none⟩, ⟨0, (some 46), (.mv (.t 7)), (some (45, false))⟩, ⟨0, (some 47), (.bin .neq (.t 46) (.c (.int .i64 21))), (some (45,
  false))⟩, ⟨0, (some 48), (.pick (.t 45) (.c (.bool true)) (.t 47)), none⟩, ⟨0, (some 49), (.mv (.t 48)), none⟩, ⟨0, (some 50), (.mv (.t 4)), (some (49,
  false))⟩, ⟨0, (some 51), (.bin .neq (.t 50) (.c (.int .i64 90))), (some (49, false))⟩, ⟨0, (some 52), (.pick (.t 49) (.c (.bool true)) (.t 51)), none⟩, ⟨0,
  (some 53), (.mv (.t 52)), none⟩, ⟨0, (some 54), (.mv (.t 1)), (some (53, false))⟩, ⟨0, (some 55), (.callf false (.c (.fn (.func 44) [] [])) [(.c (.int .i64
  100)), (.c (.int .i64 230))] []), (some (53, false))⟩, ⟨0, (some 56), (.callf false (.c (.fn (.func 44) [] [])) [(.c (.int .i64 400)), (.c (.int .i64 530))]
  []), (some (53, false))⟩, ⟨0, (some 57), (.callf false (.c (.fn (.func 44) [] [])) [(.c (.int .i64 200)), (.c (.int .i64 330))] []), (some (53, false))⟩,
  ⟨0, (some 58), (.bslice 2 3 [(.int .i64 0), (.int .i64 0)] [(0, (2, (.t 55))), (2, (2, (.t 56))), (4, (2, (.t 57)))]), (some (53, false))⟩, ⟨0, (some 59),
  (.callf false (.c (.fn (.func 21) [] [])) [(.t 54), (.t 58)] []), (some (53, false))⟩, ⟨0, (some 60), (.not (.t 59)), (some (53, false))⟩, ⟨0, (some 61),
  (.pick (.t 53) (.c (.bool true)) (.t 60)), none⟩, ⟨0, (some 62), (.mv (.t 61)), none⟩, ⟨0, (some 63), (.mv (.t 2)), (some (62, false))⟩, ⟨0, (some 64),
  (.callf false (.c (.fn (.func 50) [] [])) [(.c (.int .i64 10))] []), (some (62, false))⟩, ⟨0, (some 65), (.callf false (.c (.fn (.func 50) [] [])) [(.c
  (.int .i64 10))] []), (some (62, false))⟩, ⟨0, (some 66), (.callf false (.c (.fn (.func 44) [] [])) [(.c (.int .i64 20)), (.c (.int .i64 50))] []), (some
  (62, false))⟩, ⟨0, (some 67), (.bslice 2 3 [(.int .i64 0), (.int .i64 0)] [(0, (2, (.t 64))), (2, (2, (.t 65))), (4, (2, (.t 66)))]), (some (62, false))⟩,
  ⟨0, (some 68), (.callf false (.c (.fn (.func 21) [] [])) [(.t 63), (.t 67)] []), (some (62, false))⟩, ⟨0, (some 69), (.not (.t 68)), (some (62, false))⟩,
  ⟨0, (some 70), (.pick (.t 62) (.c (.bool true)) (.t 69)), none⟩]) (.cond (.t 70) (.seq (.reg [] false [⟨0, (some 0), (.mv (.c (.bool false))), none⟩]) .ret)
  .skip)) (.seq (.reg [] false [⟨0, (some 72), (.callf false (.c (.fn (.func 49) [] [])) [] []), none⟩, ⟨0, (some 73), (.callf false (.c (.fn (.func 48) []
  [])) [(.t 72)] []), none⟩, ⟨0, (some 74), (.callf false (.c (.fn (.func 29) [] [])) [(.t 73)] []), none⟩, ⟨0, (some 71), (.mv (.t 74)), none⟩, ⟨0, (some
  75), (.ext (.t 71) 0), none⟩, ⟨0, (some 76), (.ext (.t 71) 1), none⟩, ⟨0, (some 77), (.ext (.t 71) 2), none⟩, ⟨0, (some 8), (.mv (.t 75)), none⟩, ⟨0, (some
  9), (.mv (.t 76)), none⟩, ⟨0, (some 3), (.mv (.t 77)), none⟩]) (.seq (.reg [] false [⟨0, (some 79), (.callf false (.c (.fn (.func 51) [] [])) [] []), none⟩,
  ⟨0, (some 80), (.callf false (.c (.fn (.func 48) [] [])) [(.t 79)] []), none⟩, ⟨0, (some 81), (.callf false (.c (.fn (.func 29) [] [])) [(.t 80)] []),
  none⟩, ⟨0, (some 78), (.mv (.t 81)), none⟩, ⟨0, (some 82), (.ext (.t 78) 0), none⟩, ⟨0, (some 83), (.ext (.t 78) 1), none⟩, ⟨0, (some 84), (.ext (.t 78) 2),
  none⟩, ⟨0, (some 10), (.mv (.t 82)), none⟩, ⟨0, (some 11), (.mv (.t 83)), none⟩, ⟨0, (some 5), (.mv (.t 84)), none⟩]) (.seq (.reg [] false [⟨0, (some 86),
  (.callf false (.c (.fn (.func 49) [] [])) [] []), none⟩, ⟨0, (some 87), (.callf false (.c (.fn (.func 48) [] [])) [(.t 86)] []), none⟩, ⟨0, (some 88),
  (.callf false (.c (.fn (.func 32) [] [])) [(.t 87)] []), none⟩, ⟨0, (some 85), (.mv (.t 88)), none⟩, ⟨0, (some 89), (.ext (.t 85) 0), none⟩, ⟨0, (some 90),
  (.ext (.t 85) 1), none⟩, ⟨0, (some 12), (.mv (.t 89)), none⟩, ⟨0, (some 7), (.mv (.t 90)), none⟩]) (.seq (.reg [] false [⟨0, (some 92), (.callf false (.c
  (.fn (.func 49) [] [])) [] []), none⟩, ⟨0, (some 93), (.callf false (.c (.fn (.func 48) [] [])) [(.t 92)] []), none⟩, ⟨0, (some 94), (.bslice 1 3 [(.int
  .i64 0)] [(0, (1, (.c (.int .i64 0)))), (1, (1, (.c (.int .i64 2)))), (2, (1, (.c (.int .i64 1))))]), none⟩, ⟨0, (some 95), (.callf false (.c (.fn (.func
  37) [] [])) [(.t 93), (.t 94), (.c (.int .i64 50))] []), none⟩, ⟨0, (some 91), (.mv (.t 95)), none⟩, ⟨0, (some 96), (.ext (.t 91) 0), none⟩, ⟨0, (some 97),
  (.ext (.t 91) 1), none⟩, ⟨0, (some 13), (.mv (.t 96)), none⟩, ⟨0, (some 14), (.mv (.t 97)), none⟩]) (.seq (.reg [] false [⟨0, (some 99), (.callf false (.c
  (.fn (.func 49) [] [])) [] []), none⟩, ⟨0, (some 100), (.callf false (.c (.fn (.func 48) [] [])) [(.t 99)] []), none⟩, ⟨0, (some 101), (.bslice 1 3 [(.int
  .i64 0)] [(0, (1, (.c (.int .i64 0)))), (1, (1, (.c (.int .i64 2)))), (2, (1, (.c (.int .i64 1))))]), none⟩, ⟨0, (some 102), (.callf false (.c (.fn (.func
  37) [] [])) [(.t 100), (.t 101), (.c (.int .i64 90))] []), none⟩, ⟨0, (some 98), (.mv (.t 102)), none⟩, ⟨0, (some 103), (.ext (.t 98) 0), none⟩, ⟨0, (some
  104), (.ext (.t 98) 1), none⟩, ⟨0, (some 15), (.mv (.t 103)), none⟩, ⟨0, (some 16), (.mv (.t 104)), none⟩]) (.seq (.reg [(8, false), (10, false), (12,
  false)] false [⟨0, (some 105), (.mv (.t 3)), none⟩, ⟨0, (some 106), (.bin .eql (.t 105) (.c (.int .i64 0))), none⟩, ⟨0, (some 107), (.mv (.t 106)), none⟩,
  ⟨0, (some 108), (.mv (.t 5)), (some (107, true))⟩, ⟨0, (some 109), (.bin .eql (.t 108) (.c (.int .i64 0))), (some (107, true))⟩, ⟨0, (some 110), (.pick (.t
  107) (.t 109) (.c (.bool false))), none⟩, ⟨0, (some 111), (.mv (.t 110)), none⟩, ⟨0, (some 112), (.mv (.t 7)), (some (111, true))⟩, ⟨0, (some 113), (.bin
  .eql (.t 112) (.c (.int .i64 0))), (some (111, true))⟩, ⟨0, (some 114), (.pick (.t 111) (.t 113) (.c (.bool false))), none⟩, ⟨0, (some 115), (.mv (.t 114)),
  none⟩, ⟨0, (some 116), (.mv (.t 14)), (some (115, true))⟩, ⟨0, (some 117), (.bin .eql (.t 116) (.c (.int .i64 0))), (some (115, true))⟩, ⟨0, (some 118),
  (.pick (.t 115) (.t 117) (.c (.bool false))), none⟩, ⟨0, (some 119), (.mv (.t 118)), none⟩, ⟨0, (some 120), (.mv (.t 16)), (some (119, true))⟩, ⟨0, (some
  121), (.bin .eql (.t 120) (.c (.int .i64 0))), (some (119, true))⟩, ⟨0, (some 122), (.pick (.t 119) (.t 121) (.c (.bool false))), none⟩, ⟨0, (some 123),
  (.mv (.t 122)), none⟩, ⟨0, (some 124), (.mv (.t 8)), (some (123, true))⟩, ⟨0, (some 125), (.bslice 1 3 [(.int .i64 0)] [(0, (1, (.c (.int .i64 0)))), (1,
  (1, (.c (.int .i64 2)))), (2, (1, (.c (.int .i64 1))))]), (some (123, true))⟩, ⟨0, (some 126), (.callf false (.c (.fn (.func 34) [] [])) [(.t 124), (.t
  125)] []), (some (123, true))⟩, ⟨0, (some 127), (.pick (.t 123) (.t 126) (.c (.bool false))), none⟩, ⟨0, (some 128), (.mv (.t 127)), none⟩, ⟨0, (some 129),
  (.mv (.t 9)), (some (128, true))⟩, ⟨0, (some 130), (.bin .eql (.t 129) (.c (.int .i64 50))), (some (128, true))⟩, ⟨0, (some 131), (.pick (.t 128) (.t 130)
  (.c (.bool false))), none⟩, ⟨0, (some 132), (.mv (.t 131)), none⟩, ⟨0, (some 133), (.mv (.t 10)), (some (132, true))⟩, ⟨0, (some 134), (.bslice 1 3 [(.int
  .i64 0)] [(0, (1, (.c (.int .i64 2)))), (1, (1, (.c (.int .i64 0)))), (2, (1, (.c (.int .i64 1))))]), (some (132, true))⟩, ⟨0, (some 135), (.callf false (.c
  (.fn (.func 34) [] [])) [(.t 133), (.t 134)] []), (some (132, true))⟩, ⟨0, (some 136), (.pick (.t 132) (.t 135) (.c (.bool false))), none⟩, ⟨0, (some 137),
  (.mv (.t 136)), none⟩, ⟨0, (some 138), (.mv (.t 11)), (some (137, true))⟩, ⟨0, (some 139), (.bin .eql (.t 138) (.c (.int .i64 20))), (some (137, true))⟩,
  ⟨0, (some 140), (.pick (.t 137) (.t 139) (.c (.bool false))), none⟩, ⟨0, (some 141), (.mv (.t 140)), none⟩, ⟨0, (some 142), (.mv (.t 13)), (some (141,
  true))⟩, ⟨0, (some 143), (.bin .eql (.t 142) (.c (.int .i64 69))), (some (141, true))⟩, ⟨0, (some 144), (.pick (.t 141) (.t 143) (.c (.bool false))), none⟩,
  ⟨0, (some 145), (.mv (.t 144)), none⟩, ⟨0, (some 146), (.mv (.t 15)), (some (145, true))⟩, ⟨0, (some 147), (.bin .eql (.t 146) (.c (.int .i64
  1125899906842624))), (some (145, true))⟩, ⟨0, (some 148), (.pick (.t 145) (.t 147) (.c (.bool false))), none⟩, ⟨0, (some 149), (.mv (.t 148)), none⟩, ⟨0,
  (some 150), (.callf false (.c (.fn (.func 49) [] [])) [] []), (some (149, true))⟩, ⟨0, (some 151), (.callf false (.c (.fn (.func 48) [] [])) [(.t 150)] []),
  (some (149, true))⟩, ⟨0, (some 152), (.mv (.t 12)), (some (149, true))⟩, ⟨0, (some 153), (.callf false (.c (.fn (.func 36) [] [])) [(.t 151), (.c (.int .i64
  50)), (.t 152)] []), (some (149, true))⟩, ⟨0, (some 154), (.bin .eql (.t 153) (.c (.int .i64 0))), (some (149, true))⟩, ⟨0, (some 155), (.pick (.t 149) (.t
  154) (.c (.bool false))), none⟩, ⟨0, (some 156), (.mv (.t 155)), none⟩, ⟨0, (some 157), (.callf false (.c (.fn (.func 49) [] [])) [] []), (some (156,
  true))⟩, ⟨0, (some 158), (.callf false (.c (.fn (.func 48) [] [])) [(.t 157)] []), (some (156, true))⟩, ⟨0, (some 159), (.bslice 1 2 [(.int .i64 0)] [(0,
  (1, (.c (.int .i64 0)))), (1, (1, (.c (.int .i64 2))))]), (some (156, true))⟩, ⟨0, (some 160), (.callf false (.c (.fn (.func 36) [] [])) [(.t 158), (.c
  (.int .i64 50)), (.t 159)] []), (some (156, true))⟩, ⟨0, (some 161), (.bin .eql (.t 160) (.c (.int .i64 0))), (some (156, true))⟩, ⟨0, (some 162), (.pick
  (.t 156) (.t 161) (.c (.bool false))), none⟩, ⟨0, (some 163), (.mv (.t 162)), none⟩, ⟨0, (some 164), (.callf false (.c (.fn (.func 49) [] [])) [] []), (some
  (163, true))⟩, ⟨0, (some 165), (.callf false (.c (.fn (.func 48) [] [])) [(.t 164)] []), (some (163, true))⟩, ⟨0, (some 166), (.bslice 1 2 [(.int .i64 0)]
  [(0, (1, (.c (.int .i64 0)))), (1, (1, (.c (.int .i64 2))))]), (some (163, true))⟩, ⟨0, (some 167), (.callf false (.c (.fn (.func 36) [] [])) [(.t 165), (.c
  (.int .i64 51)), (.t 166)] []), (some (163, true))⟩, ⟨0, (some 168), (.bin .eql (.t 167) (.c (.int .i64 11))), (some (163, true))⟩, ⟨0, (some 169), (.pick
  (.t 163) (.t 168) (.c (.bool false))), none⟩, ⟨0, (some 0), (.mv (.t 169)), none⟩]) .ret)))))))))))⟩
theorem is15 : FnIs prog 15 x15.fn := ⟨fun vs w => call15 vs w, _, _, func15, rfl, rfl, by kernel_rfl, by kernel_rfl⟩
theorem ok15 : okX x15.body = true := by kernel_rfl
theorem st15 : sitesP x15 x15.body := (sitesP_of rfl)

def x16l0 : XCode :=
  (.loop [1, 2, 3, 4, 5, 6] (.seq (.seq (.reg [] false [⟨0, (some 20), (.mv (.t 6)), none⟩, ⟨0, (some 21), (.fld 0 (.t 1)), none⟩, ⟨0, (some 22), (.load false 1
  (.t 21)), none⟩, ⟨0, (some 23), (.mv (.t 4)), none⟩, ⟨0, (some 24), (.idx 1 (.t 22) (.t 23)), none⟩, ⟨0, (some 25), (.load false 1 (.t 24)), none⟩, ⟨0,
  (some 26), (.len false (.t 25)), none⟩, ⟨0, (some 27), (.bin .lss (.t 20) (.t 26)), none⟩]) (.cond (.t 27) .skip (.exit 2))) (.seq (.block 3 (.reg [] false
  [⟨0, (some 30), (.mv (.t 5)), none⟩, ⟨0, (some 31), (.fld 0 (.t 1)), none⟩, ⟨0, (some 32), (.load false 1 (.t 31)), none⟩, ⟨0, (some 33), (.mv (.t 4)),
  none⟩, ⟨0, (some 34), (.idx 1 (.t 32) (.t 33)), none⟩, ⟨0, (some 35), (.load false 1 (.t 34)), none⟩, ⟨0, (some 36), (.mv (.t 6)), none⟩, ⟨0, (some 37),
  (.idx 2 (.t 35) (.t 36)), none⟩, ⟨0, (some 38), (.load true 2 (.t 37)), none⟩, ⟨0, (some 39), (.bslice 2 1 [(.int .i64 0), (.int .i64 0)] [(0, (2, (.t
  38)))]), none⟩, ⟨0, (some 40), (.app 2 16 (.t 30) (.t 39)), none⟩, ⟨0, (some 5), (.mv (.t 40)), none⟩])) (.reg [] false [⟨0, (some 28), (.mv (.t 6)), none⟩,
  ⟨0, (some 29), (.bin .add (.t 28) (.c (.int .i64 1))), none⟩, ⟨0, (some 6), (.mv (.t 29)), none⟩]))))
def x16l1 : XCode :=
  (.loop [1, 2, 3, 4] (.seq (.seq (.reg [] false [⟨0, (some 13), (.mv (.t 4)), none⟩, ⟨0, (some 14), (.fld 0 (.t 1)), none⟩, ⟨0, (some 15), (.load false 1 (.t
  14)), none⟩, ⟨0, (some 16), (.len false (.t 15)), none⟩, ⟨0, (some 17), (.bin .lss (.t 13) (.t 16)), none⟩]) (.cond (.t 17) .skip (.exit 0))) (.seq (.block
  1 (.seq (.reg [] false [⟨0, (some 5), (.mv (.c .nilsl)), none⟩]) (.seq (.seq (.reg [] false [⟨0, (some 6), (.mv (.c (.int .i64 0))), none⟩]) (.block 2
  x16l0)) (.reg [(5, false)] false [⟨0, (some 41), (.fld 0 (.t 3)), none⟩, ⟨0, (some 42), (.load false 1 (.t 41)), none⟩, ⟨0, (some 43), (.mv (.t 5)), none⟩,
  ⟨0, (some 44), (.bslice 1 1 [.nilsl] [(0, (1, (.t 43)))]), none⟩, ⟨0, (some 45), (.app 1 24 (.t 42) (.t 44)), none⟩, ⟨0, (some 46), (.fld 0 (.t 3)), none⟩,
  ⟨0, none, (.store 1 (.t 46) (.t 45) []), none⟩])))) (.reg [] false [⟨0, (some 18), (.mv (.t 4)), none⟩, ⟨0, (some 19), (.bin .add (.t 18) (.c (.int .i64
  1))), none⟩, ⟨0, (some 4), (.mv (.t 19)), none⟩]))))
def x16l2 : XCode :=
  (.loop [1, 2, 3, 7] (.seq (.seq (.reg [] false [⟨0, (some 47), (.mv (.t 7)), none⟩, ⟨0, (some 48), (.fld 1 (.t 1)), none⟩, ⟨0, (some 49), (.load false 1 (.t
  48)), none⟩, ⟨0, (some 50), (.len false (.t 49)), none⟩, ⟨0, (some 51), (.bin .lss (.t 47) (.t 50)), none⟩]) (.cond (.t 51) .skip (.exit 4))) (.seq (.block
  5 (.reg [] true [⟨0, (some 54), (.fld 1 (.t 3)), none⟩, ⟨1, (some 55), (.load false 1 (.t 54)), none⟩, ⟨2, (some 56), (.fld 1 (.t 1)), none⟩, ⟨3, (some 57),
  (.load false 1 (.t 56)), none⟩, ⟨4, (some 58), (.mv (.t 7)), none⟩, ⟨5, (some 59), (.idx 5 (.t 57) (.t 58)), none⟩, ⟨6, (some 60), (.load true 5 (.t 59)),
  none⟩, ⟨7, (some 61), (.bslice 5 1 [(.int .i64 0), (.int .i64 0), (.int .i64 0), (.int .i64 0), (.int .i64 0)] [(0, (5, (.t 60)))]), none⟩, ⟨8, (some 62),
  (.app 5 40 (.t 55) (.t 61)), none⟩, ⟨9, (some 63), (.fld 1 (.t 3)), none⟩, ⟨10, none, (.store 1 (.t 63) (.t 62) []), none⟩])) (.reg [] false [⟨0, (some 52),
  (.mv (.t 7)), none⟩, ⟨0, (some 53), (.bin .add (.t 52) (.c (.int .i64 1))), none⟩, ⟨0, (some 7), (.mv (.t 53)), none⟩]))))
/-- zafra/zafralaw04.given -/
def x16 : XFn := ⟨65, [(2, (some (true, 5)))], false, false,
  (.seq (.reg [] false [⟨0, (some 1), (.box (.t 0)), none⟩, ⟨0, (some 2), (.alloc [.nilsl, .nilsl, .nilsl, (.int .i64 0), (.int .i64 0)]), none⟩]) (.seq (.reg
  [] false [⟨0, (some 8), (.fld 2 (.t 1)), none⟩, ⟨0, (some 9), (.load false 1 (.t 8)), none⟩, ⟨0, (some 10), (.fld 3 (.t 1)), none⟩, ⟨0, (some 11), (.load
  true 2 (.t 10)), none⟩, ⟨0, (some 12), (.build [.nilsl, .nilsl, .nilsl, (.int .i64 0), (.int .i64 0)] [(2, (1, (.t 9))), (3, (2, (.t 11)))]), none⟩, ⟨0,
  (some 3), (.alloc [.nilsl, .nilsl, .nilsl, (.int .i64 0), (.int .i64 0)]), none⟩, ⟨0, none, (.store 5 (.t 3) (.t 12) []), none⟩]) (.seq (.seq (.reg [] false
  [⟨0, (some 4), (.mv (.c (.int .i64 0))), none⟩]) (.block 0 x16l1)) (.seq (.seq (.reg [] false [⟨0, (some 7), (.mv (.c (.int .i64 0))), none⟩]) (.block 4
  x16l2)) (.seq (.reg [] false [⟨0, (some 64), (.load true 5 (.t 3)), none⟩, ⟨0, none, (.store 5 (.t 2) (.t 64) []), none⟩]) .ret)))))⟩
theorem is16 : FnIs prog 16 x16.fn := ⟨fun vs w => call16 vs w, _, _, func16, rfl, rfl, by kernel_rfl, by kernel_rfl⟩
theorem ok16 : okX x16.body = true := by kernel_rfl
theorem st16 : sitesP x16 x16.body := (sitesP_of rfl)

def x17l0 : XCode :=
  (.loop [2, 4, 5, 9, 36, 37, 38] (.seq (.reg [] false [⟨0, (some 39), (.bin .lss (.t 38) (.t 37)), none⟩]) (.seq (.cond (.t 39) .skip (.exit 0)) (.seq (.block
  1 (.seq (.reg [] false [⟨0, (some 40), (.idx 1 (.t 36) (.t 38)), none⟩, ⟨0, (some 41), (.load false 1 (.t 40)), none⟩, ⟨0, (some 11), (.mv (.t 41)), none⟩])
  (.seq (.reg [] false [⟨0, (some 42), (.fld 1 (.t 2)), none⟩, ⟨0, (some 43), (.load false 1 (.t 42)), none⟩, ⟨0, (some 44), (.mv (.t 11)), none⟩, ⟨0, (some
  45), (.idx 5 (.t 43) (.t 44)), none⟩, ⟨0, (some 46), (.load true 5 (.t 45)), none⟩, ⟨0, (some 12), (.alloc [(.int .i64 0), (.int .i64 0), (.int .i64 0),
  (.int .i64 0), (.int .i64 0)]), none⟩, ⟨0, none, (.store 5 (.t 12) (.t 46) []), none⟩]) (.seq (.reg [] false [⟨0, (some 47), (.fld 0 (.t 9)), none⟩, ⟨0,
  (some 48), (.load false 1 (.t 47)), none⟩, ⟨0, (some 49), (.fld 3 (.t 12)), none⟩, ⟨0, (some 50), (.fld 0 (.t 49)), none⟩, ⟨0, (some 51), (.load false 1 (.t
  50)), none⟩, ⟨0, (some 52), (.bin .add (.t 48) (.t 51)), none⟩, ⟨0, (some 53), (.fld 0 (.t 9)), none⟩, ⟨0, none, (.store 1 (.t 53) (.t 52) []), none⟩])
  (.seq (.reg [] false [⟨0, (some 54), (.fld 1 (.t 9)), none⟩, ⟨0, (some 55), (.load false 1 (.t 54)), none⟩, ⟨0, (some 56), (.fld 3 (.t 12)), none⟩, ⟨0,
  (some 57), (.fld 1 (.t 56)), none⟩, ⟨0, (some 58), (.load false 1 (.t 57)), none⟩, ⟨0, (some 59), (.bin .add (.t 55) (.t 58)), none⟩, ⟨0, (some 60), (.fld 1
  (.t 9)), none⟩, ⟨0, none, (.store 1 (.t 60) (.t 59) []), none⟩]) (.seq (.reg [] false [⟨0, (some 61), (.fld 0 (.t 2)), none⟩, ⟨0, (some 62), (.load false 1
  (.t 61)), none⟩, ⟨0, (some 63), (.fld 0 (.t 12)), none⟩, ⟨0, (some 64), (.load false 1 (.t 63)), none⟩, ⟨0, (some 65), (.idx 1 (.t 62) (.t 64)), none⟩, ⟨0,
  (some 66), (.load false 1 (.t 65)), none⟩, ⟨0, (some 67), (.mkf (.func 54) [(.t 66)] []), none⟩, ⟨0, (some 13), (.mv (.t 67)), none⟩]) (.reg [] true [⟨0,
  (some 68), (.mv (.t 4)), none⟩, ⟨1, (some 69), (.mv (.t 11)), none⟩, ⟨2, (some 70), (.mv (.t 5)), none⟩, ⟨3, (some 71), (.mv (.t 11)), none⟩, ⟨4, (some 72),
  (.load true 2 (.t 9)), none⟩, ⟨5, (some 73), (.mv (.t 13)), none⟩, ⟨6, (some 74), (.fld 1 (.t 12)), none⟩, ⟨7, (some 75), (.fld 0 (.t 74)), none⟩, ⟨8, (some
  76), (.load false 1 (.t 75)), none⟩, ⟨9, (some 77), (.fld 0 (.t 9)), none⟩, ⟨10, (some 78), (.load false 1 (.t 77)), none⟩, ⟨11, (some 79), (.bin .add (.t
  76) (.t 78)), none⟩, ⟨13, (some 81), (.mv (.t 13)), none⟩, ⟨14, (some 82), (.fld 1 (.t 12)), none⟩, ⟨15, (some 83), (.fld 1 (.t 82)), none⟩, ⟨16, (some 84),
  (.load false 1 (.t 83)), none⟩, ⟨17, (some 85), (.fld 1 (.t 9)), none⟩, ⟨18, (some 86), (.load false 1 (.t 85)), none⟩, ⟨19, (some 87), (.bin .add (.t 84)
  (.t 86)), none⟩, ⟨12, (some 80), (.callf false (.t 73) [(.t 79)] [4, 16, 18]), none⟩, ⟨20, (some 88), (.callf false (.t 81) [(.t 87)] [4]), none⟩, ⟨21,
  (some 89), (.build [(.int .i64 0), (.int .i64 0)] [(0, (1, (.t 80))), (1, (1, (.t 88)))]), none⟩, ⟨22, (some 90), (.idx 2 (.t 68) (.t 69)), none⟩, ⟨23,
  none, (.store 2 (.t 90) (.t 72) []), none⟩, ⟨24, (some 91), (.idx 2 (.t 70) (.t 71)), none⟩, ⟨25, none, (.store 2 (.t 91) (.t 89) []), none⟩]))))))) (.reg
  [] false [⟨0, (some 92), (.bin .add (.t 38) (.c (.int .i64 1))), none⟩, ⟨0, (some 38), (.mv (.t 92)), none⟩])))))
/-- zafra/sour.Run -/
def x17 : XFn := ⟨95, [(4, none), (5, none), (6, none)], false, false,
  (.seq (.reg [] false [⟨0, (some 2), (.box (.t 0)), none⟩, ⟨0, (some 4), (.mv (.c .nilsl)), none⟩, ⟨0, (some 5), (.mv (.c .nilsl)), none⟩, ⟨0, (some 6), (.mv
  (.c (.int .i64 0))), none⟩]) (.seq (.reg [(2, true)] false [⟨0, (some 15), (.load true 5 (.t 2)), none⟩, ⟨0, (some 16), (.callf false (.c (.fn (.func 52) []
  [])) [(.t 15)] []), none⟩, ⟨0, (some 14), (.mv (.t 16)), none⟩, ⟨0, (some 17), (.ext (.t 14) 0), none⟩, ⟨0, (some 18), (.ext (.t 14) 1), none⟩, ⟨0, (some
  7), (.mv (.t 17)), none⟩, ⟨0, (some 6), (.mv (.t 18)), none⟩]) (.seq (.seq (.reg [] false [⟨0, (some 19), (.mv (.t 6)), none⟩, ⟨0, (some 20), (.bin .neq (.t
  19) (.c (.int .i64 0))), none⟩]) (.cond (.t 20) (.seq (.reg [] false [⟨0, (some 21), (.mv (.t 6)), none⟩, ⟨0, (some 4), (.mv (.c .nilsl)), none⟩, ⟨0, (some
  5), (.mv (.c .nilsl)), none⟩, ⟨0, (some 6), (.mv (.t 21)), none⟩]) .ret) .skip)) (.seq (.seq (.reg [(7, false), (1, false)] false [⟨0, (some 22), (.mv (.t
  7)), none⟩, ⟨0, (some 23), (.mv (.t 1)), none⟩, ⟨0, (some 24), (.callf false (.c (.fn (.func 53) [] [])) [(.t 22), (.t 23)] []), none⟩, ⟨0, (some 8), (.mv
  (.t 24)), none⟩]) (.seq (.reg [] false [⟨0, (some 25), (.mv (.t 8)), none⟩, ⟨0, (some 26), (.bin .neq (.t 25) (.c (.int .i64 0))), none⟩]) (.cond (.t 26)
  (.seq (.reg [] false [⟨0, (some 27), (.mv (.t 8)), none⟩, ⟨0, (some 4), (.mv (.c .nilsl)), none⟩, ⟨0, (some 5), (.mv (.c .nilsl)), none⟩, ⟨0, (some 6), (.mv
  (.t 27)), none⟩]) .ret) .skip))) (.seq (.reg [] true [⟨0, (some 28), (.mv (.t 1)), none⟩, ⟨1, (some 29), (.len false (.t 28)), none⟩, ⟨2, (some 30), (.mksl
  2 16 [(.int .i64 0), (.int .i64 0)] (.t 29) (.t 29)), none⟩, ⟨3, (some 31), (.mv (.t 1)), none⟩, ⟨4, (some 32), (.len false (.t 31)), none⟩, ⟨5, (some 33),
  (.mksl 2 16 [(.int .i64 0), (.int .i64 0)] (.t 32) (.t 32)), none⟩, ⟨6, (some 4), (.mv (.t 30)), none⟩, ⟨7, (some 5), (.mv (.t 33)), none⟩]) (.seq (.reg []
  false [⟨0, (some 34), (.fld 3 (.t 2)), none⟩, ⟨0, (some 35), (.load true 2 (.t 34)), none⟩, ⟨0, (some 9), (.alloc [(.int .i64 0), (.int .i64 0)]), none⟩,
  ⟨0, none, (.store 2 (.t 9) (.t 35) []), none⟩]) (.seq (.seq (.reg [] false [⟨0, (some 36), (.mv (.t 1)), none⟩, ⟨0, (some 37), (.len false (.t 36)), none⟩,
  ⟨0, (some 38), (.mv (.c (.int .i64 0))), none⟩]) (.block 0 x17l0)) (.seq (.reg [] false [⟨0, (some 93), (.mv (.t 4)), none⟩, ⟨0, (some 94), (.mv (.t 5)),
  none⟩, ⟨0, (some 4), (.mv (.t 93)), none⟩, ⟨0, (some 5), (.mv (.t 94)), none⟩, ⟨0, (some 6), (.mv (.c (.int .i64 0))), none⟩]) .ret))))))))⟩
theorem is17 : FnIs prog 17 x17.fn := ⟨fun vs w => call17 vs w, _, _, func17, rfl, rfl, by kernel_rfl, by kernel_rfl⟩
theorem ok17 : okX x17.body = true := by kernel_rfl
theorem st17 : sitesP x17 x17.body := (sitesP_of rfl)

def x18l0 : XCode :=
  (.loop [1, 2, 8, 9, 10, 11] (.seq (.seq (.reg [] false [⟨0, (some 32), (.mv (.t 11)), none⟩, ⟨0, (some 33), (.mv (.t 1)), none⟩, ⟨0, (some 34), (.len false
  (.t 33)), none⟩, ⟨0, (some 35), (.bin .lss (.t 32) (.t 34)), none⟩]) (.cond (.t 35) .skip (.exit 0))) (.seq (.block 1 (.seq (.reg [] false [⟨0, (some 38),
  (.mv (.t 1)), none⟩, ⟨0, (some 39), (.mv (.t 11)), none⟩, ⟨0, (some 40), (.idx 1 (.t 38) (.t 39)), none⟩, ⟨0, (some 41), (.load false 1 (.t 40)), none⟩, ⟨0,
  (some 12), (.mv (.t 41)), none⟩]) (.seq (.reg [] false [⟨0, (some 42), (.fld 1 (.t 2)), none⟩, ⟨0, (some 43), (.load false 1 (.t 42)), none⟩, ⟨0, (some 44),
  (.mv (.t 12)), none⟩, ⟨0, (some 45), (.idx 5 (.t 43) (.t 44)), none⟩, ⟨0, (some 46), (.load true 5 (.t 45)), none⟩, ⟨0, (some 13), (.alloc [(.int .i64 0),
  (.int .i64 0), (.int .i64 0), (.int .i64 0), (.int .i64 0)]), none⟩, ⟨0, none, (.store 5 (.t 13) (.t 46) []), none⟩]) (.seq (.reg [] false [⟨0, (some 47),
  (.fld 0 (.t 10)), none⟩, ⟨0, (some 48), (.load false 1 (.t 47)), none⟩, ⟨0, (some 49), (.fld 3 (.t 13)), none⟩, ⟨0, (some 50), (.fld 0 (.t 49)), none⟩, ⟨0,
  (some 51), (.load false 1 (.t 50)), none⟩, ⟨0, (some 52), (.bin .add (.t 48) (.t 51)), none⟩, ⟨0, (some 53), (.fld 1 (.t 10)), none⟩, ⟨0, (some 54), (.load
  false 1 (.t 53)), none⟩, ⟨0, (some 55), (.fld 3 (.t 13)), none⟩, ⟨0, (some 56), (.fld 1 (.t 55)), none⟩, ⟨0, (some 57), (.load false 1 (.t 56)), none⟩, ⟨0,
  (some 58), (.bin .add (.t 54) (.t 57)), none⟩, ⟨0, (some 59), (.build [(.int .i64 0), (.int .i64 0)] [(0, (1, (.t 52))), (1, (1, (.t 58)))]), none⟩, ⟨0,
  none, (.store 2 (.t 10) (.t 59) []), none⟩]) (.seq (.reg [] false [⟨0, (some 60), (.mv (.t 8)), none⟩, ⟨0, (some 61), (.mv (.t 12)), none⟩, ⟨0, (some 62),
  (.load true 2 (.t 10)), none⟩, ⟨0, (some 63), (.idx 2 (.t 60) (.t 61)), none⟩, ⟨0, none, (.store 2 (.t 63) (.t 62) []), none⟩]) (.reg [] true [⟨0, (some
  64), (.mv (.t 9)), none⟩, ⟨1, (some 65), (.mv (.t 12)), none⟩, ⟨2, (some 66), (.fld 0 (.t 2)), none⟩, ⟨3, (some 67), (.load false 1 (.t 66)), none⟩, ⟨4,
  (some 68), (.fld 0 (.t 13)), none⟩, ⟨5, (some 69), (.load false 1 (.t 68)), none⟩, ⟨6, (some 70), (.idx 1 (.t 67) (.t 69)), none⟩, ⟨7, (some 71), (.load
  false 1 (.t 70)), none⟩, ⟨8, (some 72), (.fld 1 (.t 13)), none⟩, ⟨9, (some 73), (.fld 0 (.t 72)), none⟩, ⟨10, (some 74), (.load false 1 (.t 73)), none⟩,
  ⟨11, (some 75), (.fld 0 (.t 10)), none⟩, ⟨12, (some 76), (.load false 1 (.t 75)), none⟩, ⟨13, (some 77), (.bin .add (.t 74) (.t 76)), none⟩, ⟨15, (some 79),
  (.fld 0 (.t 2)), none⟩, ⟨16, (some 80), (.load false 1 (.t 79)), none⟩, ⟨17, (some 81), (.fld 0 (.t 13)), none⟩, ⟨18, (some 82), (.load false 1 (.t 81)),
  none⟩, ⟨19, (some 83), (.idx 1 (.t 80) (.t 82)), none⟩, ⟨20, (some 84), (.load false 1 (.t 83)), none⟩, ⟨21, (some 85), (.fld 1 (.t 13)), none⟩, ⟨22, (some
  86), (.fld 1 (.t 85)), none⟩, ⟨23, (some 87), (.load false 1 (.t 86)), none⟩, ⟨24, (some 88), (.fld 1 (.t 10)), none⟩, ⟨25, (some 89), (.load false 1 (.t
  88)), none⟩, ⟨26, (some 90), (.bin .add (.t 87) (.t 89)), none⟩, ⟨14, (some 78), (.callf false (.c (.fn (.func 56) [] [])) [(.t 71), (.t 77)] [16, 18, 20,
  23, 25]), none⟩, ⟨27, (some 91), (.callf false (.c (.fn (.func 56) [] [])) [(.t 84), (.t 90)] []), none⟩, ⟨28, (some 92), (.build [(.int .i64 0), (.int .i64
  0)] [(0, (1, (.t 78))), (1, (1, (.t 91)))]), none⟩, ⟨29, (some 93), (.idx 2 (.t 64) (.t 65)), none⟩, ⟨30, none, (.store 2 (.t 93) (.t 92) []), none⟩]))))))
  (.reg [] false [⟨0, (some 36), (.mv (.t 11)), none⟩, ⟨0, (some 37), (.bin .add (.t 36) (.c (.int .i64 1))), none⟩, ⟨0, (some 11), (.mv (.t 37)), none⟩]))))
/-- zafra/zafraref04.Run -/
def x18 : XFn := ⟨96, [(4, none), (5, none), (6, none)], false, false,
  (.seq (.reg [] false [⟨0, (some 2), (.box (.t 0)), none⟩, ⟨0, (some 4), (.mv (.c .nilsl)), none⟩, ⟨0, (some 5), (.mv (.c .nilsl)), none⟩, ⟨0, (some 6), (.mv
  (.c (.int .i64 0))), none⟩]) (.seq (.reg [(2, true)] false [⟨0, (some 14), (.load true 5 (.t 2)), none⟩, ⟨0, (some 15), (.callf false (.c (.fn (.func 23) []
  [])) [(.t 14)] []), none⟩, ⟨0, (some 7), (.mv (.t 15)), none⟩]) (.seq (.seq (.reg [] false [⟨0, (some 16), (.mv (.t 7)), none⟩, ⟨0, (some 17), (.bin .eql
  (.t 16) (.c (.int .i64 0))), none⟩]) (.cond (.t 17) (.reg [(2, true), (1, false)] false [⟨0, (some 18), (.load true 5 (.t 2)), none⟩, ⟨0, (some 19), (.mv
  (.t 1)), none⟩, ⟨0, (some 20), (.callf false (.c (.fn (.func 55) [] [])) [(.t 18), (.t 19)] []), none⟩, ⟨0, (some 7), (.mv (.t 20)), none⟩]) .skip)) (.seq
  (.seq (.reg [] false [⟨0, (some 21), (.mv (.t 7)), none⟩, ⟨0, (some 22), (.bin .neq (.t 21) (.c (.int .i64 0))), none⟩]) (.cond (.t 22) (.seq (.reg [] false
  [⟨0, (some 23), (.mv (.t 7)), none⟩, ⟨0, (some 4), (.mv (.c .nilsl)), none⟩, ⟨0, (some 5), (.mv (.c .nilsl)), none⟩, ⟨0, (some 6), (.mv (.t 23)), none⟩])
  .ret) .skip)) (.seq (.reg [] true [⟨0, (some 24), (.mv (.t 1)), none⟩, ⟨1, (some 25), (.len false (.t 24)), none⟩, ⟨2, (some 26), (.mksl 2 16 [(.int .i64
  0), (.int .i64 0)] (.t 25) (.t 25)), none⟩, ⟨3, (some 27), (.mv (.t 1)), none⟩, ⟨4, (some 28), (.len false (.t 27)), none⟩, ⟨5, (some 29), (.mksl 2 16
  [(.int .i64 0), (.int .i64 0)] (.t 28) (.t 28)), none⟩, ⟨6, (some 8), (.mv (.t 26)), none⟩, ⟨7, (some 9), (.mv (.t 29)), none⟩]) (.seq (.reg [] false [⟨0,
  (some 30), (.fld 3 (.t 2)), none⟩, ⟨0, (some 31), (.load true 2 (.t 30)), none⟩, ⟨0, (some 10), (.alloc [(.int .i64 0), (.int .i64 0)]), none⟩, ⟨0, none,
  (.store 2 (.t 10) (.t 31) []), none⟩]) (.seq (.seq (.reg [] false [⟨0, (some 11), (.mv (.c (.int .i64 0))), none⟩]) (.block 0 x18l0)) (.seq (.reg [] false
  [⟨0, (some 94), (.mv (.t 8)), none⟩, ⟨0, (some 95), (.mv (.t 9)), none⟩, ⟨0, (some 4), (.mv (.t 94)), none⟩, ⟨0, (some 5), (.mv (.t 95)), none⟩, ⟨0, (some
  6), (.mv (.c (.int .i64 0))), none⟩]) .ret))))))))⟩
theorem is18 : FnIs prog 18 x18.fn := ⟨fun vs w => call18 vs w, _, _, func18, rfl, rfl, by kernel_rfl, by kernel_rfl⟩
theorem ok18 : okX x18.body = true := by kernel_rfl
theorem st18 : sitesP x18 x18.body := (sitesP_of rfl)

def x19l0 : XCode :=
  (.loop [9, 22, 23, 24] (.seq (.reg [] false [⟨0, (some 25), (.bin .lss (.t 24) (.t 23)), none⟩]) (.seq (.cond (.t 25) .skip (.exit 0)) (.seq (.block 1 (.seq
  (.reg [] false [⟨0, (some 26), (.idx 2 (.t 22) (.t 24)), none⟩, ⟨0, (some 27), (.load true 2 (.t 26)), none⟩, ⟨0, (some 11), (.alloc [(.int .i64 0), (.int
  .i64 0)]), none⟩, ⟨0, none, (.store 2 (.t 11) (.t 27) []), none⟩]) (.reg [] false [⟨0, (some 28), (.mv (.t 9)), none⟩, ⟨0, (some 29), (.fld 1 (.t 11)),
  none⟩, ⟨0, (some 30), (.load false 1 (.t 29)), none⟩, ⟨0, (some 31), (.mm true (.t 28) (.t 30)), none⟩, ⟨0, (some 9), (.mv (.t 31)), none⟩]))) (.reg []
  false [⟨0, (some 32), (.bin .add (.t 24) (.c (.int .i64 1))), none⟩, ⟨0, (some 24), (.mv (.t 32)), none⟩])))))
/-- zafra/sour.Worst -/
def x19 : XFn := ⟨34, [(4, none), (5, none)], false, false,
  (.seq (.reg [] false [⟨0, (some 2), (.box (.t 0)), none⟩, ⟨0, (some 4), (.mv (.c (.int .i64 0))), none⟩, ⟨0, (some 5), (.mv (.c (.int .i64 0))), none⟩]) (.seq
  (.reg [(2, true), (1, false)] false [⟨0, (some 13), (.load true 5 (.t 2)), none⟩, ⟨0, (some 14), (.mv (.t 1)), none⟩, ⟨0, (some 15), (.callf false (.c (.fn
  (.func 17) [] [])) [(.t 13), (.t 14)] []), none⟩, ⟨0, (some 12), (.mv (.t 15)), none⟩, ⟨0, (some 16), (.ext (.t 12) 0), none⟩, ⟨0, (some 17), (.ext (.t 12)
  1), none⟩, ⟨0, (some 18), (.ext (.t 12) 2), none⟩, ⟨0, (some 6), (.mv (.t 16)), none⟩, ⟨0, (some 7), (.mv (.t 17)), none⟩, ⟨0, (some 8), (.mv (.t 18)),
  none⟩]) (.seq (.seq (.reg [] false [⟨0, (some 19), (.mv (.t 8)), none⟩, ⟨0, (some 20), (.bin .neq (.t 19) (.c (.int .i64 0))), none⟩]) (.cond (.t 20) (.seq
  (.reg [] false [⟨0, (some 21), (.mv (.t 8)), none⟩, ⟨0, (some 4), (.mv (.c (.int .i64 0))), none⟩, ⟨0, (some 5), (.mv (.t 21)), none⟩]) .ret) .skip)) (.seq
  (.reg [] false [⟨0, (some 9), (.mv (.c (.int .i64 0))), none⟩]) (.seq (.seq (.reg [] false [⟨0, (some 22), (.mv (.t 7)), none⟩, ⟨0, (some 23), (.len false
  (.t 22)), none⟩, ⟨0, (some 24), (.mv (.c (.int .i64 0))), none⟩]) (.block 0 x19l0)) (.seq (.reg [] false [⟨0, (some 33), (.mv (.t 9)), none⟩, ⟨0, (some 4),
  (.mv (.t 33)), none⟩, ⟨0, (some 5), (.mv (.c (.int .i64 0))), none⟩]) .ret))))))⟩
theorem is19 : FnIs prog 19 x19.fn := ⟨fun vs w => call19 vs w, _, _, func19, rfl, rfl, by kernel_rfl, by kernel_rfl⟩
theorem ok19 : okX x19.body = true := by kernel_rfl
theorem st19 : sitesP x19 x19.body := (sitesP_of rfl)

def x20l0 : XCode :=
  (.loop [7, 9, 10] (.seq (.seq (.reg [] false [⟨0, (some 21), (.mv (.t 10)), none⟩, ⟨0, (some 22), (.mv (.t 7)), none⟩, ⟨0, (some 23), (.len false (.t 22)),
  none⟩, ⟨0, (some 24), (.bin .lss (.t 21) (.t 23)), none⟩]) (.cond (.t 24) .skip (.exit 0))) (.seq (.block 1 (.reg [] false [⟨0, (some 27), (.mv (.t 9)),
  none⟩, ⟨0, (some 28), (.mv (.t 7)), none⟩, ⟨0, (some 29), (.mv (.t 10)), none⟩, ⟨0, (some 30), (.idx 2 (.t 28) (.t 29)), none⟩, ⟨0, (some 31), (.fld 1 (.t
  30)), none⟩, ⟨0, (some 32), (.load false 1 (.t 31)), none⟩, ⟨0, (some 33), (.mm true (.t 27) (.t 32)), none⟩, ⟨0, (some 9), (.mv (.t 33)), none⟩])) (.reg []
  false [⟨0, (some 25), (.mv (.t 10)), none⟩, ⟨0, (some 26), (.bin .add (.t 25) (.c (.int .i64 1))), none⟩, ⟨0, (some 10), (.mv (.t 26)), none⟩]))))
/-- zafra/zafraref04.Worst -/
def x20 : XFn := ⟨35, [(4, none), (5, none)], false, false,
  (.seq (.reg [] false [⟨0, (some 2), (.box (.t 0)), none⟩, ⟨0, (some 4), (.mv (.c (.int .i64 0))), none⟩, ⟨0, (some 5), (.mv (.c (.int .i64 0))), none⟩]) (.seq
  (.reg [(2, true), (1, false)] false [⟨0, (some 12), (.load true 5 (.t 2)), none⟩, ⟨0, (some 13), (.mv (.t 1)), none⟩, ⟨0, (some 14), (.callf false (.c (.fn
  (.func 18) [] [])) [(.t 12), (.t 13)] []), none⟩, ⟨0, (some 11), (.mv (.t 14)), none⟩, ⟨0, (some 15), (.ext (.t 11) 0), none⟩, ⟨0, (some 16), (.ext (.t 11)
  1), none⟩, ⟨0, (some 17), (.ext (.t 11) 2), none⟩, ⟨0, (some 6), (.mv (.t 15)), none⟩, ⟨0, (some 7), (.mv (.t 16)), none⟩, ⟨0, (some 8), (.mv (.t 17)),
  none⟩]) (.seq (.seq (.reg [] false [⟨0, (some 18), (.mv (.t 8)), none⟩, ⟨0, (some 19), (.bin .neq (.t 18) (.c (.int .i64 0))), none⟩]) (.cond (.t 19) (.seq
  (.reg [] false [⟨0, (some 20), (.mv (.t 8)), none⟩, ⟨0, (some 4), (.mv (.c (.int .i64 0))), none⟩, ⟨0, (some 5), (.mv (.t 20)), none⟩]) .ret) .skip)) (.seq
  (.reg [] false [⟨0, (some 9), (.mv (.c (.int .i64 0))), none⟩]) (.seq (.seq (.reg [] false [⟨0, (some 10), (.mv (.c (.int .i64 0))), none⟩]) (.block 0
  x20l0)) (.seq (.reg [] false [⟨0, (some 34), (.mv (.t 9)), none⟩, ⟨0, (some 4), (.mv (.t 34)), none⟩, ⟨0, (some 5), (.mv (.c (.int .i64 0))), none⟩])
  .ret))))))⟩
theorem is20 : FnIs prog 20 x20.fn := ⟨fun vs w => call20 vs w, _, _, func20, rfl, rfl, by kernel_rfl, by kernel_rfl⟩
theorem ok20 : okX x20.body = true := by kernel_rfl
theorem st20 : sitesP x20 x20.body := (sitesP_of rfl)

def x21l0 : XCode :=
  (.loop [0, 1, 5] (.seq (.seq (.reg [] false [⟨0, (some 11), (.mv (.t 5)), none⟩, ⟨0, (some 12), (.mv (.t 0)), none⟩, ⟨0, (some 13), (.len false (.t 12)),
  none⟩, ⟨0, (some 14), (.bin .lss (.t 11) (.t 13)), none⟩]) (.cond (.t 14) .skip (.exit 0))) (.seq (.block 1 (.seq (.reg [] true [⟨0, (some 17), (.mv (.t
  0)), none⟩, ⟨1, (some 18), (.mv (.t 5)), none⟩, ⟨2, (some 19), (.idx 2 (.t 17) (.t 18)), none⟩, ⟨3, (some 20), (.load true 2 (.t 19)), none⟩, ⟨4, (some 21),
  (.mv (.t 1)), none⟩, ⟨5, (some 22), (.mv (.t 5)), none⟩, ⟨6, (some 23), (.idx 2 (.t 21) (.t 22)), none⟩, ⟨7, (some 24), (.load true 2 (.t 23)), none⟩, ⟨8,
  (some 25), (.eqag true [0, 0] (.t 20) (.t 24)), none⟩]) (.cond (.t 25) (.seq (.reg [] false [⟨0, (some 4), (.mv (.c (.bool false))), none⟩]) .ret) .skip)))
  (.reg [] false [⟨0, (some 15), (.mv (.t 5)), none⟩, ⟨0, (some 16), (.bin .add (.t 15) (.c (.int .i64 1))), none⟩, ⟨0, (some 5), (.mv (.t 16)), none⟩]))))
/-- zafra/zafralaw04.spans -/
def x21 : XFn := ⟨26, [(4, none)], false, false,
  (.seq (.reg [] false [⟨0, (some 4), (.mv (.c (.bool false))), none⟩]) (.seq (.seq (.reg [] false [⟨0, (some 6), (.mv (.t 0)), none⟩, ⟨0, (some 7), (.len false
  (.t 6)), none⟩, ⟨0, (some 8), (.mv (.t 1)), none⟩, ⟨0, (some 9), (.len false (.t 8)), none⟩, ⟨0, (some 10), (.bin .neq (.t 7) (.t 9)), none⟩]) (.cond (.t
  10) (.seq (.reg [] false [⟨0, (some 4), (.mv (.c (.bool false))), none⟩]) .ret) .skip)) (.seq (.seq (.reg [] false [⟨0, (some 5), (.mv (.c (.int .i64 0))),
  none⟩]) (.block 0 x21l0)) (.seq (.reg [] false [⟨0, (some 4), (.mv (.c (.bool true))), none⟩]) .ret))))⟩
theorem is21 : FnIs prog 21 x21.fn := ⟨fun vs w => call21 vs w, _, _, func21, rfl, rfl, by kernel_rfl, by kernel_rfl⟩
theorem ok21 : okX x21.body = true := by kernel_rfl
theorem st21 : sitesP x21 x21.body := (sitesP_of rfl)

def x22l0 : XCode :=
  (.loop [1, 14, 15, 16] (.seq (.reg [] false [⟨0, (some 17), (.bin .lss (.t 16) (.t 15)), none⟩]) (.seq (.cond (.t 17) .skip (.exit 0)) (.seq (.block 1 (.seq
  (.reg [] false [⟨0, (some 18), (.idx 1 (.t 14) (.t 16)), none⟩, ⟨0, (some 19), (.load false 1 (.t 18)), none⟩, ⟨0, (some 4), (.mv (.t 19)), none⟩]) (.seq
  (.reg [(4, false)] false [⟨0, (some 20), (.mv (.t 4)), none⟩, ⟨0, (some 21), (.callf false (.c (.fn (.func 57) [] [])) [(.t 20)] []), none⟩, ⟨0, (some 5),
  (.mv (.t 21)), none⟩]) (.seq (.reg [] false [⟨0, (some 22), (.mv (.t 5)), none⟩, ⟨0, (some 23), (.bin .neq (.t 22) (.c (.int .i64 0))), none⟩]) (.cond (.t
  23) (.seq (.reg [] false [⟨0, (some 24), (.mv (.t 5)), none⟩, ⟨0, (some 2), (.mv (.t 24)), none⟩]) .ret) .skip))))) (.reg [] false [⟨0, (some 25), (.bin
  .add (.t 16) (.c (.int .i64 1))), none⟩, ⟨0, (some 16), (.mv (.t 25)), none⟩])))))
def x22l1 : XCode :=
  (.loop [1, 31, 32, 33] (.seq (.reg [] false [⟨0, (some 34), (.bin .lss (.t 33) (.t 32)), none⟩]) (.seq (.cond (.t 34) .skip (.exit 2)) (.seq (.block 3 (.seq
  (.reg [] false [⟨0, (some 35), (.idx 5 (.t 31) (.t 33)), none⟩, ⟨0, (some 36), (.load true 5 (.t 35)), none⟩, ⟨0, (some 7), (.alloc [(.int .i64 0), (.int
  .i64 0), (.int .i64 0), (.int .i64 0), (.int .i64 0)]), none⟩, ⟨0, none, (.store 5 (.t 7) (.t 36) []), none⟩]) (.block 4 (.seq (.reg [(7, true)] false [⟨0,
  (some 38), (.fld 0 (.t 7)), none⟩, ⟨0, (some 39), (.load false 1 (.t 38)), none⟩, ⟨0, (some 40), (.fld 0 (.t 1)), none⟩, ⟨0, (some 41), (.load false 1 (.t
  40)), none⟩, ⟨0, (some 42), (.len false (.t 41)), none⟩, ⟨0, (some 43), (.bin .sub (.t 42) (.c (.int .i64 1))), none⟩, ⟨0, (some 44), (.callf false (.c (.fn
  (.func 58) [] [])) [(.c (.int .i64 0)), (.t 39), (.t 43)] []), none⟩, ⟨0, (some 45), (.not (.t 44)), none⟩, ⟨0, (some 37), (.mv (.t 45)), none⟩]) (.cond (.t
  37) (.seq (.reg [] false [⟨0, (some 2), (.mv (.c (.int .i64 18))), none⟩]) .ret) (.seq (.reg [(7, true)] false [⟨0, (some 47), (.fld 1 (.t 7)), none⟩, ⟨0,
  (some 48), (.load true 2 (.t 47)), none⟩, ⟨0, (some 49), (.callf false (.c (.fn (.func 59) [] [])) [(.t 48), (.c (.int .i64 0)), (.c (.int .i64 100000))]
  []), none⟩, ⟨0, (some 50), (.not (.t 49)), none⟩, ⟨0, (some 51), (.mv (.t 50)), none⟩, ⟨0, (some 52), (.fld 3 (.t 7)), (some (51, false))⟩, ⟨0, (some 53),
  (.load true 2 (.t 52)), (some (51, false))⟩, ⟨0, (some 54), (.callf false (.c (.fn (.func 59) [] [])) [(.t 53), (.c (.int .i64 1)), (.c (.int .i64 10000))]
  []), (some (51, false))⟩, ⟨0, (some 55), (.not (.t 54)), (some (51, false))⟩, ⟨0, (some 56), (.pick (.t 51) (.c (.bool true)) (.t 55)), none⟩, ⟨0, (some
  46), (.mv (.t 56)), none⟩]) (.cond (.t 46) (.seq (.reg [] false [⟨0, (some 2), (.mv (.c (.int .i64 2))), none⟩]) .ret) .skip))))))) (.reg [] false [⟨0,
  (some 57), (.bin .add (.t 33) (.c (.int .i64 1))), none⟩, ⟨0, (some 33), (.mv (.t 57)), none⟩])))))
/-- zafra/sour.Check -/
def x22 : XFn := ⟨67, [(2, none)], false, false,
  (.seq (.reg [] false [⟨0, (some 1), (.box (.t 0)), none⟩, ⟨0, (some 2), (.mv (.c (.int .i64 0))), none⟩]) (.seq (.seq (.reg [] false [⟨0, (some 9), (.fld 0
  (.t 1)), none⟩, ⟨0, (some 10), (.load false 1 (.t 9)), none⟩, ⟨0, (some 11), (.len false (.t 10)), none⟩, ⟨0, (some 12), (.bin .gtr (.t 11) (.c (.int .i64
  6))), none⟩]) (.cond (.t 12) (.seq (.reg [] false [⟨0, (some 2), (.mv (.c (.int .i64 1))), none⟩]) .ret) .skip)) (.seq (.seq (.reg [] false [⟨0, (some 13),
  (.fld 0 (.t 1)), none⟩, ⟨0, (some 14), (.load false 1 (.t 13)), none⟩, ⟨0, (some 15), (.len false (.t 14)), none⟩, ⟨0, (some 16), (.mv (.c (.int .i64 0))),
  none⟩]) (.block 0 x22l0)) (.seq (.seq (.reg [] false [⟨0, (some 26), (.fld 1 (.t 1)), none⟩, ⟨0, (some 27), (.load false 1 (.t 26)), none⟩, ⟨0, (some 28),
  (.len false (.t 27)), none⟩, ⟨0, (some 29), (.bin .gtr (.t 28) (.c (.int .i64 10))), none⟩]) (.cond (.t 29) (.seq (.reg [] false [⟨0, (some 2), (.mv (.c
  (.int .i64 1))), none⟩]) .ret) .skip)) (.seq (.seq (.reg [] false [⟨0, (some 30), (.fld 1 (.t 1)), none⟩, ⟨0, (some 31), (.load false 1 (.t 30)), none⟩, ⟨0,
  (some 32), (.len false (.t 31)), none⟩, ⟨0, (some 33), (.mv (.c (.int .i64 0))), none⟩]) (.block 2 x22l1)) (.seq (.seq (.reg [(1, true)] false [⟨0, (some
  58), (.load true 5 (.t 1)), none⟩, ⟨0, (some 59), (.callf false (.c (.fn (.func 60) [] [])) [(.t 58)] []), none⟩, ⟨0, (some 8), (.mv (.t 59)), none⟩]) (.seq
  (.reg [] false [⟨0, (some 60), (.mv (.t 8)), none⟩, ⟨0, (some 61), (.bin .neq (.t 60) (.c (.int .i64 0))), none⟩]) (.cond (.t 61) (.seq (.reg [] false [⟨0,
  (some 62), (.mv (.t 8)), none⟩, ⟨0, (some 2), (.mv (.t 62)), none⟩]) .ret) .skip))) (.seq (.seq (.reg [(1, true)] false [⟨0, (some 63), (.fld 3 (.t 1)),
  none⟩, ⟨0, (some 64), (.load true 2 (.t 63)), none⟩, ⟨0, (some 65), (.callf false (.c (.fn (.func 59) [] [])) [(.t 64), (.c (.int .i64 0)), (.c (.int .i64
  100000))] []), none⟩, ⟨0, (some 66), (.not (.t 65)), none⟩]) (.cond (.t 66) (.seq (.reg [] false [⟨0, (some 2), (.mv (.c (.int .i64 2))), none⟩]) .ret)
  .skip)) (.seq (.reg [] false [⟨0, (some 2), (.mv (.c (.int .i64 0))), none⟩]) .ret))))))))⟩
theorem is22 : FnIs prog 22 x22.fn := ⟨fun vs w => call22 vs w, _, _, func22, rfl, rfl, by kernel_rfl, by kernel_rfl⟩
theorem ok22 : okX x22.body = true := by kernel_rfl
theorem st22 : sitesP x22 x22.body := (sitesP_of rfl)

def x23l0 : XCode :=
  (.loop [1, 4] (.seq (.seq (.reg [] false [⟨0, (some 16), (.mv (.t 4)), none⟩, ⟨0, (some 17), (.fld 1 (.t 1)), none⟩, ⟨0, (some 18), (.load false 1 (.t 17)),
  none⟩, ⟨0, (some 19), (.len false (.t 18)), none⟩, ⟨0, (some 20), (.bin .lss (.t 16) (.t 19)), none⟩]) (.cond (.t 20) .skip (.exit 0))) (.seq (.block 1
  (.seq (.reg [] false [⟨0, (some 23), (.fld 1 (.t 1)), none⟩, ⟨0, (some 24), (.load false 1 (.t 23)), none⟩, ⟨0, (some 25), (.mv (.t 4)), none⟩, ⟨0, (some
  26), (.idx 5 (.t 24) (.t 25)), none⟩, ⟨0, (some 27), (.load true 5 (.t 26)), none⟩, ⟨0, (some 5), (.alloc [(.int .i64 0), (.int .i64 0), (.int .i64 0),
  (.int .i64 0), (.int .i64 0)]), none⟩, ⟨0, none, (.store 5 (.t 5) (.t 27) []), none⟩]) (.seq (.seq (.reg [(5, true)] false [⟨0, (some 28), (.fld 0 (.t 5)),
  none⟩, ⟨0, (some 29), (.load false 1 (.t 28)), none⟩, ⟨0, (some 30), (.fld 0 (.t 1)), none⟩, ⟨0, (some 31), (.load false 1 (.t 30)), none⟩, ⟨0, (some 32),
  (.len false (.t 31)), none⟩, ⟨0, (some 33), (.bin .sub (.t 32) (.c (.int .i64 1))), none⟩, ⟨0, (some 34), (.callf false (.c (.fn (.func 62) [] [])) [(.t
  29), (.c (.int .i64 0)), (.t 33)] []), none⟩, ⟨0, (some 35), (.not (.t 34)), none⟩]) (.cond (.t 35) (.seq (.reg [] false [⟨0, (some 2), (.mv (.c (.int .i64
  18))), none⟩]) .ret) .skip)) (.seq (.reg [(5, true)] false [⟨0, (some 36), (.fld 1 (.t 5)), none⟩, ⟨0, (some 37), (.load true 2 (.t 36)), none⟩, ⟨0, (some
  38), (.callf false (.c (.fn (.func 63) [] [])) [(.t 37), (.c (.int .i64 0)), (.c (.int .i64 100000))] []), none⟩, ⟨0, (some 39), (.not (.t 38)), none⟩, ⟨0,
  (some 40), (.mv (.t 39)), none⟩, ⟨0, (some 41), (.fld 3 (.t 5)), (some (40, false))⟩, ⟨0, (some 42), (.load true 2 (.t 41)), (some (40, false))⟩, ⟨0, (some
  43), (.callf false (.c (.fn (.func 63) [] [])) [(.t 42), (.c (.int .i64 1)), (.c (.int .i64 10000))] []), (some (40, false))⟩, ⟨0, (some 44), (.not (.t
  43)), (some (40, false))⟩, ⟨0, (some 45), (.pick (.t 40) (.c (.bool true)) (.t 44)), none⟩]) (.cond (.t 45) (.seq (.reg [] false [⟨0, (some 2), (.mv (.c
  (.int .i64 2))), none⟩]) .ret) .skip))))) (.reg [] false [⟨0, (some 21), (.mv (.t 4)), none⟩, ⟨0, (some 22), (.bin .add (.t 21) (.c (.int .i64 1))), none⟩,
  ⟨0, (some 4), (.mv (.t 22)), none⟩]))))
/-- zafra/zafraref04.Check -/
def x23 : XFn := ⟨59, [(2, none)], false, false,
  (.seq (.reg [] false [⟨0, (some 1), (.box (.t 0)), none⟩, ⟨0, (some 2), (.mv (.c (.int .i64 0))), none⟩]) (.seq (.reg [(1, true)] false [⟨0, (some 6), (.fld 0
  (.t 1)), none⟩, ⟨0, (some 7), (.load false 1 (.t 6)), none⟩, ⟨0, (some 8), (.callf false (.c (.fn (.func 61) [] [])) [(.t 7)] []), none⟩, ⟨0, (some 3), (.mv
  (.t 8)), none⟩]) (.seq (.seq (.reg [] false [⟨0, (some 9), (.mv (.t 3)), none⟩, ⟨0, (some 10), (.bin .neq (.t 9) (.c (.int .i64 0))), none⟩]) (.cond (.t 10)
  (.seq (.reg [] false [⟨0, (some 11), (.mv (.t 3)), none⟩, ⟨0, (some 2), (.mv (.t 11)), none⟩]) .ret) .skip)) (.seq (.seq (.reg [] false [⟨0, (some 12),
  (.fld 1 (.t 1)), none⟩, ⟨0, (some 13), (.load false 1 (.t 12)), none⟩, ⟨0, (some 14), (.len false (.t 13)), none⟩, ⟨0, (some 15), (.bin .gtr (.t 14) (.c
  (.int .i64 10))), none⟩]) (.cond (.t 15) (.seq (.reg [] false [⟨0, (some 2), (.mv (.c (.int .i64 1))), none⟩]) .ret) .skip)) (.seq (.seq (.reg [] false [⟨0,
  (some 4), (.mv (.c (.int .i64 0))), none⟩]) (.block 0 x23l0)) (.seq (.reg [(1, true)] false [⟨0, (some 46), (.fld 2 (.t 1)), none⟩, ⟨0, (some 47), (.load
  false 1 (.t 46)), none⟩, ⟨0, (some 48), (.fld 1 (.t 1)), none⟩, ⟨0, (some 49), (.load false 1 (.t 48)), none⟩, ⟨0, (some 50), (.len false (.t 49)), none⟩,
  ⟨0, (some 51), (.callf false (.c (.fn (.func 64) [] [])) [(.t 47), (.t 50)] []), none⟩, ⟨0, (some 3), (.mv (.t 51)), none⟩]) (.seq (.seq (.reg [] false [⟨0,
  (some 52), (.mv (.t 3)), none⟩, ⟨0, (some 53), (.bin .neq (.t 52) (.c (.int .i64 0))), none⟩]) (.cond (.t 53) (.seq (.reg [] false [⟨0, (some 54), (.mv (.t
  3)), none⟩, ⟨0, (some 2), (.mv (.t 54)), none⟩]) .ret) .skip)) (.seq (.seq (.reg [(1, true)] false [⟨0, (some 55), (.fld 3 (.t 1)), none⟩, ⟨0, (some 56),
  (.load true 2 (.t 55)), none⟩, ⟨0, (some 57), (.callf false (.c (.fn (.func 63) [] [])) [(.t 56), (.c (.int .i64 0)), (.c (.int .i64 100000))] []), none⟩,
  ⟨0, (some 58), (.not (.t 57)), none⟩]) (.cond (.t 58) (.seq (.reg [] false [⟨0, (some 2), (.mv (.c (.int .i64 2))), none⟩]) .ret) .skip)) (.seq (.reg []
  false [⟨0, (some 2), (.mv (.c (.int .i64 0))), none⟩]) .ret)))))))))⟩
theorem is23 : FnIs prog 23 x23.fn := ⟨fun vs w => call23 vs w, _, _, func23, rfl, rfl, by kernel_rfl, by kernel_rfl⟩
theorem ok23 : okX x23.body = true := by kernel_rfl
theorem st23 : sitesP x23 x23.body := (sitesP_of rfl)

/-- zafra/zafratop.crushedWorks -/
def x24 : XFn := ⟨64, [(0, none)], false, false,
  (.seq (.reg [] false [⟨0, (some 0), (.mv (.c (.bool false))), none⟩]) (.seq (.reg [] false [⟨0, (some 9), (.callf false (.c (.fn (.func 25) [] [])) [(.c (.int
  .i64 0)), (.c (.int .i64 10))] []), none⟩, ⟨0, (some 10), (.build [(.int .i64 0), (.int .i64 0), (.int .i64 0), .nilsl] [(0, (1, (.c (.int .i64 3)))), (1,
  (2, (.t 9)))]), none⟩, ⟨0, (some 1), (.alloc [(.int .i64 0), (.int .i64 0), (.int .i64 0), .nilsl]), none⟩, ⟨0, none, (.store 4 (.t 1) (.t 10) []), none⟩])
  (.seq (.reg [(1, true)] false [⟨0, (some 12), (.load true 4 (.t 1)), none⟩, ⟨0, (some 13), (.callf false (.c (.fn (.func 27) [] [])) [(.t 12)] []), none⟩,
  ⟨0, (some 11), (.mv (.t 13)), none⟩, ⟨0, (some 14), (.ext (.t 11) 0), none⟩, ⟨0, (some 15), (.ext (.t 11) 1), none⟩, ⟨0, (some 16), (.ext (.t 11) 2), none⟩,
  ⟨0, (some 2), (.mv (.t 14)), none⟩, ⟨0, (some 3), (.mv (.t 15)), none⟩, ⟨0, (some 4), (.mv (.t 16)), none⟩]) (.seq (.reg [] false [⟨0, (some 17), (.build
  [(.int .i64 0), (.int .i64 0)] [(0, (1, (.c (.int .i64 15)))), (1, (1, (.c (.int .i64 5))))]), none⟩, ⟨0, (some 18), (.bslice 2 1 [(.int .i64 0), (.int .i64
  0)] [(0, (2, (.t 17)))]), none⟩, ⟨0, (some 19), (.bslice 1 1 [.nilsl] [(0, (1, (.t 18)))]), none⟩, ⟨0, (some 20), (.callf false (.c (.fn (.func 25) [] []))
  [(.c (.int .i64 10)), (.c (.int .i64 10))] []), none⟩, ⟨0, (some 21), (.build [(.int .i64 0), (.int .i64 0), (.int .i64 0), (.int .i64 0), (.int .i64 0)]
  [(3, (2, (.t 20)))]), none⟩, ⟨0, (some 22), (.callf false (.c (.fn (.func 25) [] [])) [(.c (.int .i64 10)), (.c (.int .i64 10))] []), none⟩, ⟨0, (some 23),
  (.build [(.int .i64 0), (.int .i64 0), (.int .i64 0), (.int .i64 0), (.int .i64 0)] [(3, (2, (.t 22)))]), none⟩, ⟨0, (some 24), (.bslice 5 2 [(.int .i64 0),
  (.int .i64 0), (.int .i64 0), (.int .i64 0), (.int .i64 0)] [(0, (5, (.t 21))), (5, (5, (.t 23)))]), none⟩, ⟨0, (some 25), (.bslice 1 1 [(.int .i64 0)] [(0,
  (1, (.c (.int .i64 1))))]), none⟩, ⟨0, (some 26), (.bslice 1 1 [(.int .i64 0)] [(0, (1, (.c (.int .i64 0))))]), none⟩, ⟨0, (some 27), (.bslice 1 2 [.nilsl]
  [(0, (1, (.t 25))), (1, (1, (.t 26)))]), none⟩, ⟨0, (some 28), (.build [.nilsl, .nilsl, .nilsl, (.int .i64 0), (.int .i64 0)] [(0, (1, (.t 19))), (1, (1,
  (.t 24))), (2, (1, (.t 27)))]), none⟩, ⟨0, (some 5), (.alloc [.nilsl, .nilsl, .nilsl, (.int .i64 0), (.int .i64 0)]), none⟩, ⟨0, none, (.store 5 (.t 5) (.t
  28) []), none⟩]) (.seq (.reg [(5, true)] false [⟨0, (some 30), (.load true 5 (.t 5)), none⟩, ⟨0, (some 31), (.callf false (.c (.fn (.func 29) [] [])) [(.t
  30)] []), none⟩, ⟨0, (some 29), (.mv (.t 31)), none⟩, ⟨0, (some 32), (.ext (.t 29) 0), none⟩, ⟨0, (some 33), (.ext (.t 29) 1), none⟩, ⟨0, (some 34), (.ext
  (.t 29) 2), none⟩, ⟨0, (some 6), (.mv (.t 32)), none⟩, ⟨0, (some 7), (.mv (.t 33)), none⟩, ⟨0, (some 8), (.mv (.t 34)), none⟩]) (.seq (.reg [] false [⟨0,
  (some 35), (.mv (.t 4)), none⟩, ⟨0, (some 36), (.bin .eql (.t 35) (.c (.int .i64 0))), none⟩, ⟨0, (some 37), (.mv (.t 36)), none⟩, ⟨0, (some 38), (.mv (.t
  8)), (some (37, true))⟩, ⟨0, (some 39), (.bin .eql (.t 38) (.c (.int .i64 0))), (some (37, true))⟩, ⟨0, (some 40), (.pick (.t 37) (.t 39) (.c (.bool
  false))), none⟩, ⟨0, (some 41), (.mv (.t 40)), none⟩, ⟨0, (some 42), (.mv (.t 2)), (some (41, true))⟩, ⟨0, (some 43), (.bin .eql (.t 42) (.c (.int .i64
  1))), (some (41, true))⟩, ⟨0, (some 44), (.pick (.t 41) (.t 43) (.c (.bool false))), none⟩, ⟨0, (some 45), (.mv (.t 44)), none⟩, ⟨0, (some 46), (.mv (.t
  3)), (some (45, true))⟩, ⟨0, (some 47), (.bin .eql (.t 46) (.c (.int .i64 5))), (some (45, true))⟩, ⟨0, (some 48), (.pick (.t 45) (.t 47) (.c (.bool
  false))), none⟩, ⟨0, (some 49), (.mv (.t 48)), none⟩, ⟨0, (some 50), (.mv (.t 6)), (some (49, true))⟩, ⟨0, (some 51), (.len false (.t 50)), (some (49,
  true))⟩, ⟨0, (some 52), (.bin .eql (.t 51) (.c (.int .i64 2))), (some (49, true))⟩, ⟨0, (some 53), (.pick (.t 49) (.t 52) (.c (.bool false))), none⟩, ⟨0,
  (some 54), (.mv (.t 53)), none⟩, ⟨0, (some 55), (.mv (.t 6)), (some (54, true))⟩, ⟨0, (some 56), (.idx 1 (.t 55) (.c (.int .i64 0))), (some (54, true))⟩,
  ⟨0, (some 57), (.load false 1 (.t 56)), (some (54, true))⟩, ⟨0, (some 58), (.bin .eql (.t 57) (.c (.int .i64 0))), (some (54, true))⟩, ⟨0, (some 59), (.pick
  (.t 54) (.t 58) (.c (.bool false))), none⟩, ⟨0, (some 60), (.mv (.t 59)), none⟩, ⟨0, (some 61), (.mv (.t 7)), (some (60, true))⟩, ⟨0, (some 62), (.bin .eql
  (.t 61) (.c (.int .i64 5))), (some (60, true))⟩, ⟨0, (some 63), (.pick (.t 60) (.t 62) (.c (.bool false))), none⟩, ⟨0, (some 0), (.mv (.t 63)), none⟩])
  .ret))))))⟩
theorem is24 : FnIs prog 24 x24.fn := ⟨fun vs w => call24 vs w, _, _, func24, rfl, rfl, by kernel_rfl, by kernel_rfl⟩
theorem ok24 : okX x24.body = true := by kernel_rfl
theorem st24 : sitesP x24 x24.body := (sitesP_of rfl)

/-- zafra/zafratop.crushedSpan -/
def x25 : XFn := ⟨8, [(4, (some (true, 2)))], false, false,
  (.seq (.reg [] false [⟨0, (some 4), (.alloc [(.int .i64 0), (.int .i64 0)]), none⟩]) (.seq (.reg [] false [⟨0, (some 5), (.mv (.t 0)), none⟩, ⟨0, (some 6),
  (.mv (.t 1)), none⟩, ⟨0, (some 7), (.build [(.int .i64 0), (.int .i64 0)] [(0, (1, (.t 5))), (1, (1, (.t 6)))]), none⟩, ⟨0, none, (.store 2 (.t 4) (.t 7)
  []), none⟩]) .ret))⟩
theorem is25 : FnIs prog 25 x25.fn := ⟨fun vs w => call25 vs w, _, _, func25, rfl, rfl, by kernel_rfl, by kernel_rfl⟩
theorem ok25 : okX x25.body = true := by kernel_rfl
theorem st25 : sitesP x25 x25.body := (sitesP_of rfl)

def x26l0 : XCode :=
  (.loop [1, 2, 4, 5, 6, 7] (.seq (.seq (.reg [] false [⟨0, (some 22), (.mv (.t 7)), none⟩, ⟨0, (some 23), (.bin .lss (.t 22) (.c (.int .i64 6))), none⟩])
  (.cond (.t 23) .skip (.exit 0))) (.seq (.block 1 (.seq (.reg [] false [⟨0, (some 26), (.mv (.t 5)), none⟩, ⟨0, (some 27), (.mv (.t 5)), none⟩, ⟨0, (some
  28), (.mv (.t 7)), none⟩, ⟨0, (some 29), (.bin .sub (.t 28) (.c (.int .i64 1))), none⟩, ⟨0, (some 30), (.idx 1 (.t 27) (.t 29)), none⟩, ⟨0, (some 31),
  (.load false 1 (.t 30)), none⟩, ⟨0, (some 32), (.mv (.t 6)), none⟩, ⟨0, (some 33), (.bin .add (.t 31) (.t 32)), none⟩, ⟨0, (some 34), (.bslice 1 1 [(.int
  .i64 0)] [(0, (1, (.t 33)))]), none⟩, ⟨0, (some 35), (.app 1 8 (.t 26) (.t 34)), none⟩, ⟨0, (some 5), (.mv (.t 35)), none⟩]) (.reg [] false [⟨0, (some 36),
  (.mv (.t 6)), none⟩, ⟨0, (some 37), (.idxa 4 1 (.t 1) (.c (.int .i64 2))), none⟩, ⟨0, (some 38), (.load false 1 (.t 37)), none⟩, ⟨0, (some 39), (.conv .i64
  (.t 38)), none⟩, ⟨0, (some 40), (.bin .sub (.t 36) (.t 39)), none⟩, ⟨0, (some 6), (.mv (.t 40)), none⟩]))) (.reg [] false [⟨0, (some 24), (.mv (.t 7)),
  none⟩, ⟨0, (some 25), (.bin .add (.t 24) (.c (.int .i64 1))), none⟩, ⟨0, (some 7), (.mv (.t 25)), none⟩]))))
def x26l1 : XCode :=
  (.loop [1, 2, 4, 5, 8] (.seq (.seq (.reg [] false [⟨0, (some 41), (.mv (.t 8)), none⟩, ⟨0, (some 42), (.bin .lss (.t 41) (.c (.int .i64 6))), none⟩]) (.cond
  (.t 42) .skip (.exit 2))) (.seq (.block 3 (.seq (.reg [] false [⟨0, (some 45), (.idxa 4 1 (.t 1) (.c (.int .i64 3))), none⟩, ⟨0, (some 46), (.load false 1
  (.t 45)), none⟩, ⟨0, (some 47), (.mv (.t 8)), none⟩, ⟨0, (some 48), (.bin .shr (.t 46) (.t 47)), none⟩, ⟨0, (some 49), (.bin .and (.t 48) (.c (.int .u8
  1))), none⟩, ⟨0, (some 50), (.bin .eql (.t 49) (.c (.int .u8 1))), none⟩]) (.cond (.t 50) (.seq (.reg [] false [⟨0, (some 51), (.idxa 4 1 (.t 1) (.c (.int
  .i64 2))), none⟩, ⟨0, (some 52), (.load false 1 (.t 51)), none⟩, ⟨0, (some 53), (.conv .i64 (.t 52)), none⟩, ⟨0, (some 54), (.mv (.t 8)), none⟩, ⟨0, (some
  55), (.bin .add (.t 54) (.c (.int .i64 1))), none⟩, ⟨0, (some 56), (.bin .quo (.t 53) (.t 55)), none⟩, ⟨0, (some 9), (.mv (.t 56)), none⟩]) (.reg [] true
  [⟨0, (some 57), (.fld 3 (.t 4)), none⟩, ⟨1, (some 58), (.load false 1 (.t 57)), none⟩, ⟨2, (some 59), (.mv (.t 8)), none⟩, ⟨3, (some 60), (.mv (.t 5)),
  none⟩, ⟨4, (some 61), (.mv (.t 8)), none⟩, ⟨5, (some 62), (.idx 1 (.t 60) (.t 61)), none⟩, ⟨6, (some 63), (.load false 1 (.t 62)), none⟩, ⟨7, (some 64),
  (.mv (.t 9)), none⟩, ⟨8, (some 65), (.bin .quo (.t 64) (.c (.int .i64 2))), none⟩, ⟨9, (some 66), (.bin .sub (.t 63) (.t 65)), none⟩, ⟨10, (some 67), (.mm
  true (.c (.int .i64 0)) (.t 66)), none⟩, ⟨11, (some 68), (.mv (.t 9)), none⟩, ⟨12, (some 69), (.build [(.int .i64 0), (.int .i64 0), (.int .i64 0)] [(0, (1,
  (.t 59))), (1, (1, (.t 67))), (2, (1, (.t 68)))]), none⟩, ⟨13, (some 70), (.bslice 3 1 [(.int .i64 0), (.int .i64 0), (.int .i64 0)] [(0, (3, (.t 69)))]),
  none⟩, ⟨14, (some 71), (.app 3 24 (.t 58) (.t 70)), none⟩, ⟨15, (some 72), (.fld 3 (.t 4)), none⟩, ⟨16, none, (.store 1 (.t 72) (.t 71) []), none⟩]))
  .skip))) (.reg [] false [⟨0, (some 43), (.mv (.t 8)), none⟩, ⟨0, (some 44), (.bin .add (.t 43) (.c (.int .i64 1))), none⟩, ⟨0, (some 8), (.mv (.t 44)),
  none⟩]))))
/-- zafra/zafratop.crushedField -/
def x26 : XFn := ⟨75, [(2, (some (true, 4))), (3, none)], false, false,
  (.seq (.reg [] false [⟨0, (some 1), (.box (.t 0)), none⟩, ⟨0, (some 2), (.alloc [(.int .i64 0), (.int .i64 0), (.int .i64 0), .nilsl]), none⟩, ⟨0, (some 3),
  (.mv (.c .nilsl)), none⟩]) (.seq (.reg [] false [⟨0, (some 10), (.callf false (.c (.fn (.func 25) [] [])) [(.c (.int .i64 0)), (.c (.int .i64 30000))] []),
  none⟩, ⟨0, (some 11), (.build [(.int .i64 0), (.int .i64 0), (.int .i64 0), .nilsl] [(0, (1, (.c (.int .i64 6)))), (1, (2, (.t 10)))]), none⟩, ⟨0, (some 4),
  (.alloc [(.int .i64 0), (.int .i64 0), (.int .i64 0), .nilsl]), none⟩, ⟨0, none, (.store 4 (.t 4) (.t 11) []), none⟩]) (.seq (.reg [] true [⟨0, (some 12),
  (.idxa 4 1 (.t 1) (.c (.int .i64 0))), none⟩, ⟨1, (some 13), (.load false 1 (.t 12)), none⟩, ⟨2, (some 14), (.conv .i64 (.t 13)), none⟩, ⟨3, (some 15),
  (.bin .mul (.c (.int .i64 20)) (.t 14)), none⟩, ⟨4, (some 16), (.bin .add (.c (.int .i64 6000)) (.t 15)), none⟩, ⟨5, (some 17), (.bslice 1 1 [(.int .i64 0)]
  [(0, (1, (.t 16)))]), none⟩, ⟨6, (some 18), (.idxa 4 1 (.t 1) (.c (.int .i64 1))), none⟩, ⟨7, (some 19), (.load false 1 (.t 18)), none⟩, ⟨8, (some 20),
  (.conv .i64 (.t 19)), none⟩, ⟨9, (some 21), (.bin .mul (.c (.int .i64 2)) (.t 20)), none⟩, ⟨10, (some 5), (.mv (.t 17)), none⟩, ⟨11, (some 6), (.mv (.t
  21)), none⟩]) (.seq (.seq (.reg [] false [⟨0, (some 7), (.mv (.c (.int .i64 1))), none⟩]) (.block 0 x26l0)) (.seq (.seq (.reg [] false [⟨0, (some 8), (.mv
  (.c (.int .i64 0))), none⟩]) (.block 2 x26l1)) (.seq (.reg [] false [⟨0, (some 73), (.load true 4 (.t 4)), none⟩, ⟨0, (some 74), (.mv (.t 5)), none⟩, ⟨0,
  none, (.store 4 (.t 2) (.t 73) []), none⟩, ⟨0, (some 3), (.mv (.t 74)), none⟩]) .ret))))))⟩
theorem is26 : FnIs prog 26 x26.fn := ⟨fun vs w => call26 vs w, _, _, func26, rfl, rfl, by kernel_rfl, by kernel_rfl⟩
theorem ok26 : okX x26.body = true := by kernel_rfl
theorem st26 : sitesP x26 x26.body := (sitesP_of rfl)

def x27l0 : XCode :=
  (.loop [1, 2, 5, 6, 7] (.seq (.seq (.reg [] false [⟨0, (some 19), (.mv (.t 7)), none⟩, ⟨0, (some 20), (.fld 0 (.t 1)), none⟩, ⟨0, (some 21), (.load false 1
  (.t 20)), none⟩, ⟨0, (some 22), (.bin .lss (.t 19) (.t 21)), none⟩]) (.cond (.t 22) .skip (.exit 0))) (.seq (.block 1 (.seq (.reg [(5, false)] false [⟨0,
  (some 25), (.mv (.t 5)), none⟩, ⟨0, (some 26), (.mv (.t 7)), none⟩, ⟨0, (some 27), (.callf false (.c (.fn (.func 66) [] [])) [(.t 25), (.t 26)] []), none⟩,
  ⟨0, (some 8), (.alloc [(.int .i64 0), (.int .i64 0)]), none⟩, ⟨0, none, (.store 2 (.t 8) (.t 27) []), none⟩]) (.seq (.reg [(8, true), (6, true)] false [⟨0,
  (some 28), (.load true 2 (.t 8)), none⟩, ⟨0, (some 29), (.load true 2 (.t 6)), none⟩, ⟨0, (some 30), (.callf false (.c (.fn (.func 67) [] [])) [(.t 28), (.t
  29)] []), none⟩, ⟨0, (some 31), (.bin .lss (.t 30) (.c (.int .i64 0))), none⟩]) (.cond (.t 31) (.reg [] true [⟨0, (some 32), (.mv (.t 7)), none⟩, ⟨1, (some
  33), (.load true 2 (.t 8)), none⟩, ⟨2, (some 2), (.mv (.t 32)), none⟩, ⟨3, none, (.store 2 (.t 6) (.t 33) []), none⟩]) .skip)))) (.reg [] false [⟨0, (some
  23), (.mv (.t 7)), none⟩, ⟨0, (some 24), (.bin .add (.t 23) (.c (.int .i64 1))), none⟩, ⟨0, (some 7), (.mv (.t 24)), none⟩]))))
/-- zafra/ripe.Cut -/
def x27 : XFn := ⟨37, [(2, none), (3, none), (4, none)], false, false,
  (.seq (.reg [] false [⟨0, (some 1), (.box (.t 0)), none⟩, ⟨0, (some 2), (.mv (.c (.int .i64 0))), none⟩, ⟨0, (some 3), (.mv (.c (.int .i64 0))), none⟩, ⟨0,
  (some 4), (.mv (.c (.int .i64 0))), none⟩]) (.seq (.reg [(1, true)] false [⟨0, (some 10), (.load true 4 (.t 1)), none⟩, ⟨0, (some 11), (.callf false (.c
  (.fn (.func 65) [] [])) [(.t 10)] []), none⟩, ⟨0, (some 9), (.mv (.t 11)), none⟩, ⟨0, (some 12), (.ext (.t 9) 0), none⟩, ⟨0, (some 13), (.ext (.t 9) 1),
  none⟩, ⟨0, (some 5), (.mv (.t 12)), none⟩, ⟨0, (some 4), (.mv (.t 13)), none⟩]) (.seq (.seq (.reg [] false [⟨0, (some 14), (.mv (.t 4)), none⟩, ⟨0, (some
  15), (.bin .neq (.t 14) (.c (.int .i64 0))), none⟩]) (.cond (.t 15) (.seq (.reg [] false [⟨0, (some 16), (.mv (.t 4)), none⟩, ⟨0, (some 2), (.mv (.c (.int
  .i64 0))), none⟩, ⟨0, (some 3), (.mv (.c (.int .i64 0))), none⟩, ⟨0, (some 4), (.mv (.t 16)), none⟩]) .ret) .skip)) (.seq (.reg [(5, false)] false [⟨0,
  (some 17), (.mv (.t 5)), none⟩, ⟨0, (some 18), (.callf false (.c (.fn (.func 66) [] [])) [(.t 17), (.c (.int .i64 0))] []), none⟩, ⟨0, (some 6), (.alloc
  [(.int .i64 0), (.int .i64 0)]), none⟩, ⟨0, none, (.store 2 (.t 6) (.t 18) []), none⟩]) (.seq (.seq (.reg [] false [⟨0, (some 7), (.mv (.c (.int .i64 1))),
  none⟩]) (.block 0 x27l0)) (.seq (.reg [(6, true)] false [⟨0, (some 34), (.mv (.t 2)), none⟩, ⟨0, (some 35), (.load true 2 (.t 6)), none⟩, ⟨0, (some 36),
  (.callf false (.c (.fn (.func 68) [] [])) [(.t 35)] []), none⟩, ⟨0, (some 2), (.mv (.t 34)), none⟩, ⟨0, (some 3), (.mv (.t 36)), none⟩, ⟨0, (some 4), (.mv
  (.c (.int .i64 0))), none⟩]) .ret))))))⟩
theorem is27 : FnIs prog 27 x27.fn := ⟨fun vs w => call27 vs w, _, _, func27, rfl, rfl, by kernel_rfl, by kernel_rfl⟩
theorem ok27 : okX x27.body = true := by kernel_rfl
theorem st27 : sitesP x27 x27.body := (sitesP_of rfl)

def x28l0 : XCode :=
  (.loop [4, 6, 17, 18] (.seq (.reg [] false [⟨0, (some 19), (.bin .lss (.t 18) (.t 17)), none⟩]) (.seq (.cond (.t 19) .skip (.exit 0)) (.seq (.block 1 (.seq
  (.reg [] false [⟨0, (some 20), (.mv (.t 18)), none⟩, ⟨0, (some 7), (.mv (.t 20)), none⟩]) (.reg [(4, false)] false [⟨0, (some 21), (.mv (.t 6)), none⟩, ⟨0,
  (some 22), (.mv (.t 4)), none⟩, ⟨0, (some 23), (.mv (.t 7)), none⟩, ⟨0, (some 24), (.callf false (.c (.fn (.func 69) [] [])) [(.t 22), (.t 23)] []), none⟩,
  ⟨0, (some 25), (.callf false (.c (.fn (.func 70) [] [])) [(.t 24)] []), none⟩, ⟨0, (some 26), (.mv (.t 4)), none⟩, ⟨0, (some 27), (.mv (.t 7)), none⟩, ⟨0,
  (some 28), (.callf false (.c (.fn (.func 71) [] [])) [(.t 26), (.t 27)] []), none⟩, ⟨0, (some 29), (.callf false (.c (.fn (.func 68) [] [])) [(.t 28)] []),
  none⟩, ⟨0, (some 30), (.build [(.int .i64 0), (.int .i64 0)] [(0, (1, (.t 25))), (1, (1, (.t 29)))]), none⟩, ⟨0, (some 31), (.bslice 2 1 [(.int .i64 0),
  (.int .i64 0)] [(0, (2, (.t 30)))]), none⟩, ⟨0, (some 32), (.app 2 16 (.t 21) (.t 31)), none⟩, ⟨0, (some 6), (.mv (.t 32)), none⟩]))) (.reg [] false [⟨0,
  (some 33), (.bin .add (.t 18) (.c (.int .i64 1))), none⟩, ⟨0, (some 18), (.mv (.t 33)), none⟩])))))
/-- zafra/ripe.Known -/
def x28 : XFn := ⟨35, [(2, none), (3, none)], false, false,
  (.seq (.reg [] false [⟨0, (some 1), (.box (.t 0)), none⟩, ⟨0, (some 2), (.mv (.c .nilsl)), none⟩, ⟨0, (some 3), (.mv (.c (.int .i64 0))), none⟩]) (.seq (.reg
  [(1, true)] false [⟨0, (some 9), (.load true 4 (.t 1)), none⟩, ⟨0, (some 10), (.callf false (.c (.fn (.func 65) [] [])) [(.t 9)] []), none⟩, ⟨0, (some 8),
  (.mv (.t 10)), none⟩, ⟨0, (some 11), (.ext (.t 8) 0), none⟩, ⟨0, (some 12), (.ext (.t 8) 1), none⟩, ⟨0, (some 4), (.mv (.t 11)), none⟩, ⟨0, (some 5), (.mv
  (.t 12)), none⟩]) (.seq (.seq (.reg [] false [⟨0, (some 13), (.mv (.t 5)), none⟩, ⟨0, (some 14), (.bin .neq (.t 13) (.c (.int .i64 0))), none⟩]) (.cond (.t
  14) (.seq (.reg [] false [⟨0, (some 15), (.mv (.t 5)), none⟩, ⟨0, (some 2), (.mv (.c .nilsl)), none⟩, ⟨0, (some 3), (.mv (.t 15)), none⟩]) .ret) .skip))
  (.seq (.reg [] false [⟨0, (some 6), (.mv (.c .nilsl)), none⟩]) (.seq (.seq (.reg [] false [⟨0, (some 16), (.fld 0 (.t 1)), none⟩, ⟨0, (some 17), (.load
  false 1 (.t 16)), none⟩, ⟨0, (some 18), (.mv (.c (.int .i64 0))), none⟩]) (.block 0 x28l0)) (.seq (.reg [] false [⟨0, (some 34), (.mv (.t 6)), none⟩, ⟨0,
  (some 2), (.mv (.t 34)), none⟩, ⟨0, (some 3), (.mv (.c (.int .i64 0))), none⟩]) .ret))))))⟩
theorem is28 : FnIs prog 28 x28.fn := ⟨fun vs w => call28 vs w, _, _, func28, rfl, rfl, by kernel_rfl, by kernel_rfl⟩
theorem ok28 : okX x28.body = true := by kernel_rfl
theorem st28 : sitesP x28 x28.body := (sitesP_of rfl)

end Go.Proofs.YtpbeclkpohehgaaDoor
end
section
set_option maxRecDepth 100000
namespace Go.Proofs.YtpbeclkpohehgaaDoor
open Go Go.DL Go.Proofs.Tryd

/-- zafra/sour.Best -/
def x29 : XFn := ⟨23, [(2, (some (false, 1))), (3, (some (false, 1))), (4, none)], false, false,
  (.seq (.reg [] false [⟨0, (some 1), (.box (.t 0)), none⟩, ⟨0, (some 2), (.alloc [.nilsl]), none⟩, ⟨0, (some 3), (.alloc [(.int .i64 0)]), none⟩, ⟨0, (some 4),
  (.mv (.c (.int .i64 0))), none⟩]) (.seq (.reg [(1, true)] false [⟨0, (some 9), (.load true 5 (.t 1)), none⟩, ⟨0, (some 10), (.callf false (.c (.fn (.func
  52) [] [])) [(.t 9)] []), none⟩, ⟨0, (some 8), (.mv (.t 10)), none⟩, ⟨0, (some 11), (.ext (.t 8) 0), none⟩, ⟨0, (some 12), (.ext (.t 8) 1), none⟩, ⟨0, (some
  5), (.alloc [.nilpt]), none⟩, ⟨0, none, (.store 1 (.t 5) (.t 11) []), none⟩, ⟨0, (some 4), (.mv (.t 12)), none⟩]) (.seq (.seq (.reg [] false [⟨0, (some 13),
  (.mv (.t 4)), none⟩, ⟨0, (some 14), (.bin .neq (.t 13) (.c (.int .i64 0))), none⟩]) (.cond (.t 14) (.seq (.reg [] false [⟨0, (some 15), (.mv (.t 4)), none⟩,
  ⟨0, none, (.store 1 (.t 2) (.c .nilsl) []), none⟩, ⟨0, none, (.store 1 (.t 3) (.c (.int .i64 0)) []), none⟩, ⟨0, (some 4), (.mv (.t 15)), none⟩]) .ret)
  .skip)) (.seq (.reg [(5, true)] false [⟨0, (some 16), (.load false 1 (.t 5)), none⟩, ⟨0, (some 17), (.callf false (.c (.fn (.func 72) [] [])) [(.t 16), (.c
  (.int .u64 0))] []), none⟩, ⟨0, none, (.store 1 (.t 3) (.t 17) []), none⟩]) (.seq (.reg [] false [⟨0, (some 6), (.alloc [(.int .u64 0)]), none⟩]) (.seq
  (.reg [] false [⟨0, (some 7), (.alloc [.nilfn]), none⟩]) (.seq (.reg [] false [⟨0, (some 18), (.mkf (.func 73) [] [(.t 5), (.t 6), (.t 3), (.t 2), (.t 7)]),
  none⟩, ⟨0, none, (.store 1 (.t 7) (.t 18) []), none⟩]) (.seq (.reg [] false [⟨0, (some 19), (.load false 1 (.t 7)), none⟩, ⟨0, (some 20), (.callf false (.t
  19) [] []), none⟩]) (.seq (.reg [] true [⟨0, (some 21), (.load false 1 (.t 2)), none⟩, ⟨1, (some 22), (.load false 1 (.t 3)), none⟩, ⟨2, none, (.store 1 (.t
  2) (.t 21) [1]), none⟩, ⟨3, none, (.store 1 (.t 3) (.t 22) []), none⟩, ⟨4, (some 4), (.mv (.c (.int .i64 0))), none⟩]) .ret)))))))))⟩
theorem is29 : FnIs prog 29 x29.fn := ⟨fun vs w => call29 vs w, _, _, func29, rfl, rfl, by kernel_rfl, by kernel_rfl⟩
theorem ok29 : okX x29.body = true := by kernel_rfl
theorem st29 : sitesP x29 x29.body := (sitesP_of rfl)

/-- zafra/zafratop.TopCrushed$1 -/
def x30 : XFn := ⟨29, [(5, none)], false, false,
  (.seq (.reg [] false [⟨0, (some 4), (.box (.t 1)), none⟩, ⟨0, (some 5), (.mv (.c (.int .i64 0))), none⟩]) (.seq (.seq (.reg [] false [⟨0, (some 6), (.load
  false 1 (.t 2)), none⟩, ⟨0, (some 7), (.len false (.t 6)), none⟩, ⟨0, (some 8), (.bin .eql (.t 7) (.c (.int .i64 0))), none⟩]) (.cond (.t 8) (.seq (.reg []
  false [⟨0, (some 9), (.fld 0 (.t 4)), none⟩, ⟨0, (some 10), (.load false 1 (.t 9)), none⟩, ⟨0, (some 5), (.mv (.t 10)), none⟩]) .ret) .skip)) (.seq (.reg []
  true [⟨0, (some 11), (.fld 0 (.t 4)), none⟩, ⟨1, (some 12), (.load false 1 (.t 11)), none⟩, ⟨2, (some 13), (.load false 1 (.t 2)), none⟩, ⟨3, (some 14),
  (.mv (.t 0)), none⟩, ⟨4, (some 15), (.load false 1 (.t 2)), none⟩, ⟨5, (some 16), (.len false (.t 15)), none⟩, ⟨6, (some 17), (.bin .rem (.t 14) (.t 16)),
  none⟩, ⟨7, (some 18), (.idx 1 (.t 13) (.t 17)), none⟩, ⟨8, (some 19), (.load false 1 (.t 18)), none⟩, ⟨9, (some 20), (.conv .i64 (.t 19)), none⟩, ⟨10, (some
  21), (.fld 1 (.t 4)), none⟩, ⟨11, (some 22), (.load false 1 (.t 21)), none⟩, ⟨12, (some 23), (.fld 0 (.t 4)), none⟩, ⟨13, (some 24), (.load false 1 (.t
  23)), none⟩, ⟨14, (some 25), (.bin .sub (.t 22) (.t 24)), none⟩, ⟨15, (some 26), (.bin .add (.t 25) (.c (.int .i64 1))), none⟩, ⟨16, (some 27), (.bin .rem
  (.t 20) (.t 26)), none⟩, ⟨17, (some 28), (.bin .add (.t 12) (.t 27)), none⟩, ⟨18, (some 5), (.mv (.t 28)), none⟩]) .ret)))⟩
theorem is30 : FnIs prog 30 x30.fn := ⟨fun vs w => call30 vs w, _, _, func30, rfl, rfl, by kernel_rfl, by kernel_rfl⟩
theorem ok30 : okX x30.body = true := by kernel_rfl
theorem st30 : sitesP x30 x30.body := (sitesP_of rfl)

def x31l0 : XCode :=
  (.loop [1, 6, 7, 8, 9, 10] (.seq (.seq (.reg [] false [⟨0, (some 27), (.mv (.t 10)), none⟩, ⟨0, (some 28), (.fld 1 (.t 1)), none⟩, ⟨0, (some 29), (.load false
  1 (.t 28)), none⟩, ⟨0, (some 30), (.len false (.t 29)), none⟩, ⟨0, (some 31), (.bin .lss (.t 27) (.t 30)), none⟩]) (.cond (.t 31) .skip (.exit 2))) (.seq
  (.block 3 (.seq (.reg [] false [⟨0, (some 34), (.mv (.t 9)), none⟩, ⟨0, (some 35), (.mv (.t 10)), none⟩, ⟨0, (some 36), (.bin .shl (.c (.int .i64 1)) (.t
  35)), none⟩, ⟨0, (some 37), (.bin .or (.t 34) (.t 36)), none⟩, ⟨0, (some 11), (.mv (.t 37)), none⟩]) (.seq (.reg [(1, true)] true [⟨0, (some 38), (.mv (.t
  9)), none⟩, ⟨1, (some 39), (.mv (.t 10)), none⟩, ⟨2, (some 40), (.bin .shr (.t 38) (.t 39)), none⟩, ⟨3, (some 41), (.bin .and (.t 40) (.c (.int .i64 1))),
  none⟩, ⟨4, (some 42), (.bin .eql (.t 41) (.c (.int .i64 0))), none⟩, ⟨5, (some 43), (.mv (.t 42)), none⟩, ⟨6, (some 44), (.mv (.t 6)), (some (43, true))⟩,
  ⟨7, (some 45), (.mv (.t 10)), (some (43, true))⟩, ⟨8, (some 46), (.idx 1 (.t 44) (.t 45)), (some (43, true))⟩, ⟨9, (some 47), (.load false 1 (.t 46)), (some
  (43, true))⟩, ⟨10, (some 48), (.mv (.t 9)), (some (43, true))⟩, ⟨11, (some 49), (.bin .andNot (.t 47) (.t 48)), (some (43, true))⟩, ⟨12, (some 50), (.bin
  .eql (.t 49) (.c (.int .i64 0))), (some (43, true))⟩, ⟨13, (some 51), (.pick (.t 43) (.t 50) (.c (.bool false))), none⟩, ⟨14, (some 52), (.mv (.t 51)),
  none⟩, ⟨15, (some 53), (.load true 5 (.t 1)), (some (52, true))⟩, ⟨16, (some 54), (.mv (.t 10)), (some (52, true))⟩, ⟨17, (some 55), (.load true 5 (.t 1)),
  (some (52, true))⟩, ⟨18, (some 56), (.mv (.t 11)), (some (52, true))⟩, ⟨21, (some 59), (.mv (.t 7)), (some (52, true))⟩, ⟨22, (some 60), (.mv (.t 11)),
  (some (52, true))⟩, ⟨23, (some 61), (.idx 1 (.t 59) (.t 60)), (some (52, true))⟩, ⟨24, (some 62), (.load false 1 (.t 61)), (some (52, true))⟩, ⟨26, (some
  64), (.mv (.t 7)), (some (52, true))⟩, ⟨27, (some 65), (.idx 1 (.t 64) (.c (.int .i64 0))), (some (52, true))⟩, ⟨28, (some 66), (.load false 1 (.t 65)),
  (some (52, true))⟩, ⟨19, (some 57), (.callf false (.c (.fn (.func 79) [] [])) [(.t 55), (.t 56)] [15, 24, 28]), (some (52, true))⟩, ⟨20, (some 58), (.callf
  false (.c (.fn (.func 78) [] [])) [(.t 53), (.t 54), (.t 57)] [24, 28]), (some (52, true))⟩, ⟨25, (some 63), (.mm true (.t 58) (.t 62)), (some (52, true))⟩,
  ⟨29, (some 67), (.bin .leq (.t 63) (.t 66)), (some (52, true))⟩, ⟨30, (some 68), (.pick (.t 52) (.t 67) (.c (.bool false))), none⟩]) (.cond (.t 68) (.seq
  (.reg [] false [⟨0, (some 69), (.mv (.t 8)), none⟩, ⟨0, (some 70), (.mv (.t 10)), none⟩, ⟨0, (some 71), (.bslice 1 1 [(.int .i64 0)] [(0, (1, (.t 70)))]),
  none⟩, ⟨0, (some 72), (.app 1 8 (.t 69) (.t 71)), none⟩, ⟨0, (some 8), (.mv (.t 72)), none⟩]) (.seq (.reg [] false [⟨0, (some 73), (.mv (.t 11)), none⟩, ⟨0,
  (some 9), (.mv (.t 73)), none⟩]) (.exit 2))) .skip)))) (.reg [] false [⟨0, (some 32), (.mv (.t 10)), none⟩, ⟨0, (some 33), (.bin .add (.t 32) (.c (.int .i64
  1))), none⟩, ⟨0, (some 10), (.mv (.t 33)), none⟩]))))
def x31l1 : XCode :=
  (.loop [1, 6, 7, 8, 9] (.seq (.seq (.reg [] false [⟨0, (some 21), (.mv (.t 8)), none⟩, ⟨0, (some 22), (.len false (.t 21)), none⟩, ⟨0, (some 23), (.fld 1 (.t
  1)), none⟩, ⟨0, (some 24), (.load false 1 (.t 23)), none⟩, ⟨0, (some 25), (.len false (.t 24)), none⟩, ⟨0, (some 26), (.bin .lss (.t 22) (.t 25)), none⟩])
  (.cond (.t 26) .skip (.exit 0))) (.block 1 (.seq (.reg [] false [⟨0, (some 10), (.mv (.c (.int .i64 0))), none⟩]) (.block 2 x31l0)))))
/-- zafra/zafraref04.Best -/
def x31 : XFn := ⟨78, [(2, none), (3, none), (4, none)], false, false,
  (.seq (.reg [] false [⟨0, (some 1), (.box (.t 0)), none⟩, ⟨0, (some 2), (.mv (.c .nilsl)), none⟩, ⟨0, (some 3), (.mv (.c (.int .i64 0))), none⟩, ⟨0, (some 4),
  (.mv (.c (.int .i64 0))), none⟩]) (.seq (.reg [(1, true)] false [⟨0, (some 12), (.load true 5 (.t 1)), none⟩, ⟨0, (some 13), (.callf false (.c (.fn (.func
  23) [] [])) [(.t 12)] []), none⟩, ⟨0, (some 5), (.mv (.t 13)), none⟩]) (.seq (.seq (.reg [] false [⟨0, (some 14), (.mv (.t 5)), none⟩, ⟨0, (some 15), (.bin
  .neq (.t 14) (.c (.int .i64 0))), none⟩]) (.cond (.t 15) (.seq (.reg [] false [⟨0, (some 16), (.mv (.t 5)), none⟩, ⟨0, (some 2), (.mv (.c .nilsl)), none⟩,
  ⟨0, (some 3), (.mv (.c (.int .i64 0))), none⟩, ⟨0, (some 4), (.mv (.t 16)), none⟩]) .ret) .skip)) (.seq (.reg [(1, true)] true [⟨0, (some 17), (.load true 5
  (.t 1)), none⟩, ⟨2, (some 19), (.load true 5 (.t 1)), none⟩, ⟨1, (some 18), (.callf false (.c (.fn (.func 76) [] [])) [(.t 17)] [2]), none⟩, ⟨3, (some 20),
  (.callf false (.c (.fn (.func 77) [] [])) [(.t 19)] []), none⟩, ⟨4, (some 6), (.mv (.t 18)), none⟩, ⟨5, (some 7), (.mv (.t 20)), none⟩]) (.seq (.reg []
  false [⟨0, (some 8), (.mv (.c .nilsl)), none⟩]) (.seq (.reg [] false [⟨0, (some 9), (.mv (.c (.int .i64 0))), none⟩]) (.seq (.block 0 x31l1) (.seq (.reg []
  true [⟨0, (some 74), (.mv (.t 8)), none⟩, ⟨1, (some 75), (.mv (.t 7)), none⟩, ⟨2, (some 76), (.idx 1 (.t 75) (.c (.int .i64 0))), none⟩, ⟨3, (some 77),
  (.load false 1 (.t 76)), none⟩, ⟨4, (some 2), (.mv (.t 74)), none⟩, ⟨5, (some 3), (.mv (.t 77)), none⟩, ⟨6, (some 4), (.mv (.c (.int .i64 0))), none⟩])
  .ret))))))))⟩
theorem is31 : FnIs prog 31 x31.fn := ⟨fun vs w => call31 vs w, _, _, func31, rfl, rfl, by kernel_rfl, by kernel_rfl⟩
theorem ok31 : okX x31.body = true := by kernel_rfl
theorem st31 : sitesP x31 x31.body := (sitesP_of rfl)

def x32l0 : XCode :=
  (.loop [2, 3, 4, 7, 8, 9] (.seq (.seq (.reg [] false [⟨0, (some 32), (.load false 1 (.t 9)), none⟩, ⟨0, (some 33), (.bin .neq (.t 32) (.c (.int .u64 0))),
  none⟩]) (.cond (.t 33) .skip (.exit 0))) (.seq (.block 1 (.seq (.seq (.reg [(4, true), (9, true)] false [⟨0, (some 34), (.load false 1 (.t 4)), none⟩, ⟨0,
  (some 35), (.load false 1 (.t 9)), none⟩, ⟨0, (some 36), (.callf false (.c (.fn (.func 80) [] [])) [(.t 34), (.t 35)] []), none⟩, ⟨0, (some 10), (.mv (.t
  36)), none⟩]) (.seq (.reg [] false [⟨0, (some 37), (.mv (.t 10)), none⟩, ⟨0, (some 38), (.mv (.t 8)), none⟩, ⟨0, (some 39), (.bin .gtr (.t 37) (.t 38)),
  none⟩]) (.cond (.t 39) (.reg [] false [⟨0, (some 40), (.load false 1 (.t 9)), none⟩, ⟨0, (some 41), (.mv (.t 10)), none⟩, ⟨0, (some 7), (.mv (.t 40)),
  none⟩, ⟨0, (some 8), (.mv (.t 41)), none⟩]) .skip))) (.seq (.reg [] false [⟨0, (some 11), (.alloc [(.int .i64 0)]), none⟩, ⟨0, (some 12), (.alloc [(.int
  .i64 0)]), none⟩, ⟨0, none, (.store 1 (.t 11) (.c (.int .i64 0)) []), none⟩, ⟨0, none, (.store 1 (.t 12) (.c (.int .i64 1000001)) []), none⟩]) (.seq (.seq
  (.reg [(9, true)] false [⟨0, (some 42), (.load false 1 (.t 9)), none⟩, ⟨0, (some 43), (.callf false (.c (.fn (.func 81) [] [])) [(.t 42)] []), none⟩])
  (.block 2 (.rng 0 [4, 9, 11, 12] (.t 43) [44] (.reg [] false [⟨0, (some 13), (.alloc [(.int .i64 0)]), none⟩, ⟨0, none, (.store 1 (.t 13) (.t 44) []),
  none⟩]) (.block 3 (.seq (.reg [] false [⟨0, (some 45), (.mkf (.func 82) [] [(.t 4), (.t 13)]), none⟩, ⟨0, (some 14), (.mv (.t 45)), none⟩]) (.seq (.reg [(9,
  true), (14, false), (4, true), (13, true)] true [⟨0, (some 46), (.load false 1 (.t 9)), none⟩, ⟨3, (some 49), (.mv (.t 14)), none⟩, ⟨1, (some 47), (.callf
  false (.c (.fn (.func 81) [] [])) [(.t 46)] []), none⟩, ⟨2, (some 48), (.callf false (.c (.fn (.func 85) [] [])) [(.t 47)] []), none⟩, ⟨4, (some 50),
  (.callf false (.c (.fn (.func 84) [] [])) [(.t 48), (.t 49)] []), none⟩, ⟨5, (some 51), (.not (.t 50)), none⟩, ⟨6, (some 52), (.mv (.t 51)), none⟩, ⟨7,
  (some 53), (.load false 1 (.t 4)), (some (52, true))⟩, ⟨8, (some 54), (.load false 1 (.t 9)), (some (52, true))⟩, ⟨9, (some 55), (.load false 1 (.t 13)),
  (some (52, true))⟩, ⟨11, (some 57), (.load false 1 (.t 12)), (some (52, true))⟩, ⟨10, (some 56), (.callf false (.c (.fn (.func 86) [] [])) [(.t 53), (.t
  54), (.t 55)] [11]), (some (52, true))⟩, ⟨12, (some 58), (.bin .lss (.t 56) (.t 57)), (some (52, true))⟩, ⟨13, (some 59), (.pick (.t 52) (.t 58) (.c (.bool
  false))), none⟩]) (.cond (.t 59) (.reg [(4, true), (9, true), (13, true)] true [⟨0, (some 60), (.load false 1 (.t 13)), none⟩, ⟨1, (some 61), (.load false 1
  (.t 4)), none⟩, ⟨2, (some 62), (.load false 1 (.t 9)), none⟩, ⟨3, (some 63), (.load false 1 (.t 13)), none⟩, ⟨4, (some 64), (.callf false (.c (.fn (.func
  86) [] [])) [(.t 61), (.t 62), (.t 63)] [0]), none⟩, ⟨5, none, (.store 1 (.t 11) (.t 60) []), none⟩, ⟨6, none, (.store 1 (.t 12) (.t 64) []), none⟩])
  .skip))))))) (.reg [] true [⟨0, (some 65), (.load false 1 (.t 9)), none⟩, ⟨1, (some 66), (.load false 1 (.t 11)), none⟩, ⟨2, (some 67), (.bin .shl (.c (.int
  .u64 1)) (.t 66)), none⟩, ⟨3, (some 68), (.bin .andNot (.t 65) (.t 67)), none⟩, ⟨4, none, (.store 1 (.t 9) (.t 68) []), none⟩]))))) (.seq (.reg [] false
  [⟨0, (some 69), (.load false 1 (.t 9)), none⟩]) (.reg [] false [⟨0, (some 9), (.alloc [(.int .u64 0)]), none⟩, ⟨0, none, (.store 1 (.t 9) (.t 69) []),
  none⟩])))))
/-- zafra/sour.Prove -/
def x32 : XFn := ⟨73, [(2, none), (3, none)], false, false,
  (.seq (.reg [] false [⟨0, (some 1), (.box (.t 0)), none⟩, ⟨0, (some 2), (.mv (.c .nilsl)), none⟩, ⟨0, (some 3), (.mv (.c (.int .i64 0))), none⟩]) (.seq (.reg
  [(1, true)] false [⟨0, (some 16), (.load true 5 (.t 1)), none⟩, ⟨0, (some 17), (.callf false (.c (.fn (.func 52) [] [])) [(.t 16)] []), none⟩, ⟨0, (some
  15), (.mv (.t 17)), none⟩, ⟨0, (some 18), (.ext (.t 15) 0), none⟩, ⟨0, (some 19), (.ext (.t 15) 1), none⟩, ⟨0, (some 4), (.alloc [.nilpt]), none⟩, ⟨0, none,
  (.store 1 (.t 4) (.t 18) []), none⟩, ⟨0, (some 5), (.mv (.t 19)), none⟩]) (.seq (.seq (.reg [] false [⟨0, (some 20), (.mv (.t 5)), none⟩, ⟨0, (some 21),
  (.bin .neq (.t 20) (.c (.int .i64 0))), none⟩]) (.cond (.t 21) (.seq (.reg [] false [⟨0, (some 22), (.mv (.t 5)), none⟩, ⟨0, (some 2), (.mv (.c .nilsl)),
  none⟩, ⟨0, (some 3), (.mv (.t 22)), none⟩]) .ret) .skip)) (.seq (.reg [(4, true)] false [⟨0, (some 23), (.load false 1 (.t 4)), none⟩, ⟨0, (some 24),
  (.callf false (.c (.fn (.func 72) [] [])) [(.t 23), (.c (.int .u64 0))] []), none⟩, ⟨0, (some 6), (.mv (.t 24)), none⟩]) (.seq (.seq (.reg [] false [⟨0,
  (some 25), (.mv (.t 6)), none⟩, ⟨0, (some 26), (.bin .eql (.t 25) (.c (.int .i64 0))), none⟩]) (.cond (.t 26) (.seq (.reg [] false [⟨0, (some 2), (.mv (.c
  .nilsl)), none⟩, ⟨0, (some 3), (.mv (.c (.int .i64 5))), none⟩]) .ret) .skip)) (.seq (.reg [] false [⟨0, (some 7), (.mv (.c (.int .u64 0))), none⟩, ⟨0,
  (some 8), (.mv (.c (.int .i64 0))), none⟩]) (.seq (.seq (.reg [] false [⟨0, (some 27), (.fld 1 (.t 1)), none⟩, ⟨0, (some 28), (.load false 1 (.t 27)),
  none⟩, ⟨0, (some 29), (.len false (.t 28)), none⟩, ⟨0, (some 30), (.bin .shl (.c (.int .u64 1)) (.t 29)), none⟩, ⟨0, (some 31), (.bin .sub (.t 30) (.c (.int
  .u64 1))), none⟩, ⟨0, (some 9), (.alloc [(.int .u64 0)]), none⟩, ⟨0, none, (.store 1 (.t 9) (.t 31) []), none⟩]) (.block 0 x32l0)) (.seq (.reg [] false [⟨0,
  (some 70), (.mv (.t 7)), none⟩, ⟨0, (some 71), (.callf false (.c (.fn (.func 81) [] [])) [(.t 70)] []), none⟩, ⟨0, (some 72), (.callf false (.c (.fn (.func
  85) [] [])) [(.t 71)] []), none⟩, ⟨0, (some 2), (.mv (.t 72)), none⟩, ⟨0, (some 3), (.mv (.c (.int .i64 0))), none⟩]) .ret))))))))⟩
theorem is32 : FnIs prog 32 x32.fn := ⟨fun vs w => call32 vs w, _, _, func32, rfl, rfl, by kernel_rfl, by kernel_rfl⟩
theorem ok32 : okX x32.body = true := by kernel_rfl
theorem st32 : sitesP x32 x32.body := ⟨(sitesP_of rfl), ⟨(sitesP_of rfl), ⟨(sitesP_of rfl), ⟨(sitesP_of rfl), ⟨(sitesP_of rfl), ⟨(sitesP_of rfl), ⟨⟨(sitesP_of rfl), ⟨(sitesP_of rfl), ⟨⟨(sitesP_of rfl), ⟨(sitesP_of rfl), ⟨⟨(sitesP_of rfl), ⟨by kernel_rfl, (sitesP_of rfl), (sitesP_of rfl)⟩⟩, (sitesP_of rfl)⟩⟩⟩, (sitesP_of rfl)⟩⟩⟩, (sitesP_of rfl)⟩⟩⟩⟩⟩⟩⟩

def x33l0 : XCode :=
  (.loop [1, 5, 7, 8, 9] (.seq (.seq (.reg [(1, true)] false [⟨0, (some 34), (.mv (.t 9)), none⟩, ⟨0, (some 35), (.fld 1 (.t 1)), none⟩, ⟨0, (some 36), (.load
  false 1 (.t 35)), none⟩, ⟨0, (some 37), (.len false (.t 36)), none⟩, ⟨0, (some 38), (.bin .lss (.t 34) (.t 37)), none⟩, ⟨0, (some 39), (.mv (.t 38)), none⟩,
  ⟨0, (some 40), (.load true 5 (.t 1)), (some (39, true))⟩, ⟨0, (some 41), (.mv (.t 8)), (some (39, true))⟩, ⟨0, (some 42), (.callf false (.c (.fn (.func 87)
  [] [])) [(.t 40), (.t 41)] []), (some (39, true))⟩, ⟨0, (some 43), (.mv (.t 5)), (some (39, true))⟩, ⟨0, (some 44), (.bin .geq (.t 42) (.t 43)), (some (39,
  true))⟩, ⟨0, (some 45), (.pick (.t 39) (.t 44) (.c (.bool false))), none⟩]) (.cond (.t 45) .skip (.exit 2))) (.seq (.block 3 (.seq (.reg [] false [⟨0, (some
  48), (.mv (.t 8)), none⟩, ⟨0, (some 49), (.mv (.t 9)), none⟩, ⟨0, (some 50), (.bin .shr (.t 48) (.t 49)), none⟩, ⟨0, (some 51), (.bin .and (.t 50) (.c (.int
  .i64 1))), none⟩, ⟨0, (some 52), (.bin .eql (.t 51) (.c (.int .i64 1))), none⟩]) (.cond (.t 52) (.reg [] false [⟨0, (some 53), (.mv (.t 7)), none⟩, ⟨0,
  (some 54), (.mv (.t 9)), none⟩, ⟨0, (some 55), (.bslice 1 1 [(.int .i64 0)] [(0, (1, (.t 54)))]), none⟩, ⟨0, (some 56), (.app 1 8 (.t 53) (.t 55)), none⟩,
  ⟨0, (some 7), (.mv (.t 56)), none⟩]) .skip))) (.reg [] false [⟨0, (some 46), (.mv (.t 9)), none⟩, ⟨0, (some 47), (.bin .add (.t 46) (.c (.int .i64 1))),
  none⟩, ⟨0, (some 9), (.mv (.t 47)), none⟩]))))
def x33l1 : XCode :=
  (.loop [1, 5, 7, 8] (.seq (.seq (.reg [] false [⟨0, (some 21), (.mv (.t 8)), none⟩, ⟨0, (some 22), (.fld 1 (.t 1)), none⟩, ⟨0, (some 23), (.load false 1 (.t
  22)), none⟩, ⟨0, (some 24), (.len false (.t 23)), none⟩, ⟨0, (some 25), (.bin .shl (.c (.int .i64 1)) (.t 24)), none⟩, ⟨0, (some 26), (.bin .lss (.t 21) (.t
  25)), none⟩, ⟨0, (some 27), (.mv (.t 26)), none⟩, ⟨0, (some 28), (.mv (.t 7)), (some (27, true))⟩, ⟨0, (some 29), (.len false (.t 28)), (some (27, true))⟩,
  ⟨0, (some 30), (.bin .eql (.t 29) (.c (.int .i64 0))), (some (27, true))⟩, ⟨0, (some 31), (.pick (.t 27) (.t 30) (.c (.bool false))), none⟩]) (.cond (.t 31)
  .skip (.exit 0))) (.seq (.block 1 (.seq (.reg [] false [⟨0, (some 9), (.mv (.c (.int .i64 0))), none⟩]) (.block 2 x33l0))) (.reg [] false [⟨0, (some 32),
  (.mv (.t 8)), none⟩, ⟨0, (some 33), (.bin .add (.t 32) (.c (.int .i64 1))), none⟩, ⟨0, (some 8), (.mv (.t 33)), none⟩]))))
/-- zafra/zafraref04.Prove -/
def x33 : XFn := ⟨58, [(2, none), (3, none)], false, false,
  (.seq (.reg [] false [⟨0, (some 1), (.box (.t 0)), none⟩, ⟨0, (some 2), (.mv (.c .nilsl)), none⟩, ⟨0, (some 3), (.mv (.c (.int .i64 0))), none⟩]) (.seq (.reg
  [(1, true)] false [⟨0, (some 11), (.load true 5 (.t 1)), none⟩, ⟨0, (some 12), (.callf false (.c (.fn (.func 31) [] [])) [(.t 11)] []), none⟩, ⟨0, (some
  10), (.mv (.t 12)), none⟩, ⟨0, (some 13), (.ext (.t 10) 0), none⟩, ⟨0, (some 14), (.ext (.t 10) 1), none⟩, ⟨0, (some 15), (.ext (.t 10) 2), none⟩, ⟨0, (some
  4), (.mv (.t 13)), none⟩, ⟨0, (some 5), (.mv (.t 14)), none⟩, ⟨0, (some 6), (.mv (.t 15)), none⟩]) (.seq (.seq (.reg [] false [⟨0, (some 16), (.mv (.t 6)),
  none⟩, ⟨0, (some 17), (.bin .neq (.t 16) (.c (.int .i64 0))), none⟩]) (.cond (.t 17) (.seq (.reg [] false [⟨0, (some 18), (.mv (.t 6)), none⟩, ⟨0, (some 2),
  (.mv (.c .nilsl)), none⟩, ⟨0, (some 3), (.mv (.t 18)), none⟩]) .ret) .skip)) (.seq (.seq (.reg [] false [⟨0, (some 19), (.mv (.t 5)), none⟩, ⟨0, (some 20),
  (.bin .eql (.t 19) (.c (.int .i64 0))), none⟩]) (.cond (.t 20) (.seq (.reg [] false [⟨0, (some 2), (.mv (.c .nilsl)), none⟩, ⟨0, (some 3), (.mv (.c (.int
  .i64 5))), none⟩]) .ret) .skip)) (.seq (.reg [] false [⟨0, (some 7), (.mv (.c .nilsl)), none⟩]) (.seq (.seq (.reg [] false [⟨0, (some 8), (.mv (.c (.int
  .i64 1))), none⟩]) (.block 0 x33l1)) (.seq (.reg [] false [⟨0, (some 57), (.mv (.t 7)), none⟩, ⟨0, (some 2), (.mv (.t 57)), none⟩, ⟨0, (some 3), (.mv (.c
  (.int .i64 0))), none⟩]) .ret)))))))⟩
theorem is33 : FnIs prog 33 x33.fn := ⟨fun vs w => call33 vs w, _, _, func33, rfl, rfl, by kernel_rfl, by kernel_rfl⟩
theorem ok33 : okX x33.body = true := by kernel_rfl
theorem st33 : sitesP x33 x33.body := (sitesP_of rfl)

def x34l0 : XCode :=
  (.loop [0, 1, 5] (.seq (.seq (.reg [] false [⟨0, (some 11), (.mv (.t 5)), none⟩, ⟨0, (some 12), (.mv (.t 0)), none⟩, ⟨0, (some 13), (.len false (.t 12)),
  none⟩, ⟨0, (some 14), (.bin .lss (.t 11) (.t 13)), none⟩]) (.cond (.t 14) .skip (.exit 0))) (.seq (.block 1 (.seq (.reg [] true [⟨0, (some 17), (.mv (.t
  0)), none⟩, ⟨1, (some 18), (.mv (.t 5)), none⟩, ⟨2, (some 19), (.idx 1 (.t 17) (.t 18)), none⟩, ⟨3, (some 20), (.load false 1 (.t 19)), none⟩, ⟨4, (some
  21), (.mv (.t 1)), none⟩, ⟨5, (some 22), (.mv (.t 5)), none⟩, ⟨6, (some 23), (.idx 1 (.t 21) (.t 22)), none⟩, ⟨7, (some 24), (.load false 1 (.t 23)), none⟩,
  ⟨8, (some 25), (.bin .neq (.t 20) (.t 24)), none⟩]) (.cond (.t 25) (.seq (.reg [] false [⟨0, (some 4), (.mv (.c (.bool false))), none⟩]) .ret) .skip)))
  (.reg [] false [⟨0, (some 15), (.mv (.t 5)), none⟩, ⟨0, (some 16), (.bin .add (.t 15) (.c (.int .i64 1))), none⟩, ⟨0, (some 5), (.mv (.t 16)), none⟩]))))
/-- zafra/zafralaw04.numbers -/
def x34 : XFn := ⟨26, [(4, none)], false, false,
  (.seq (.reg [] false [⟨0, (some 4), (.mv (.c (.bool false))), none⟩]) (.seq (.seq (.reg [] false [⟨0, (some 6), (.mv (.t 0)), none⟩, ⟨0, (some 7), (.len false
  (.t 6)), none⟩, ⟨0, (some 8), (.mv (.t 1)), none⟩, ⟨0, (some 9), (.len false (.t 8)), none⟩, ⟨0, (some 10), (.bin .neq (.t 7) (.t 9)), none⟩]) (.cond (.t
  10) (.seq (.reg [] false [⟨0, (some 4), (.mv (.c (.bool false))), none⟩]) .ret) .skip)) (.seq (.seq (.reg [] false [⟨0, (some 5), (.mv (.c (.int .i64 0))),
  none⟩]) (.block 0 x34l0)) (.seq (.reg [] false [⟨0, (some 4), (.mv (.c (.bool true))), none⟩]) .ret))))⟩
theorem is34 : FnIs prog 34 x34.fn := ⟨fun vs w => call34 vs w, _, _, func34, rfl, rfl, by kernel_rfl, by kernel_rfl⟩
theorem ok34 : okX x34.body = true := by kernel_rfl
theorem st34 : sitesP x34 x34.body := (sitesP_of rfl)

def x35l0 : XCode :=
  (.loop [1, 2, 3, 8, 9] (.seq (.seq (.reg [] false [⟨0, (some 21), (.mv (.t 9)), none⟩, ⟨0, (some 22), (.mv (.t 2)), none⟩, ⟨0, (some 23), (.len false (.t
  22)), none⟩, ⟨0, (some 24), (.bin .lss (.t 21) (.t 23)), none⟩]) (.cond (.t 24) .skip (.exit 0))) (.seq (.block 1 (.seq (.seq (.reg [] true [⟨0, (some 27),
  (.mv (.t 2)), none⟩, ⟨1, (some 28), (.mv (.t 9)), none⟩, ⟨2, (some 29), (.idx 1 (.t 27) (.t 28)), none⟩, ⟨3, (some 30), (.load false 1 (.t 29)), none⟩, ⟨4,
  (some 31), (.fld 1 (.t 3)), none⟩, ⟨5, (some 32), (.load false 1 (.t 31)), none⟩, ⟨6, (some 33), (.len false (.t 32)), none⟩, ⟨7, (some 34), (.bin .sub (.t
  33) (.c (.int .i64 1))), none⟩, ⟨8, (some 35), (.callf false (.c (.fn (.func 62) [] [])) [(.t 30), (.c (.int .i64 0)), (.t 34)] []), none⟩, ⟨9, (some 36),
  (.not (.t 35)), none⟩]) (.cond (.t 36) (.seq (.reg [] false [⟨0, (some 6), (.mv (.c (.int .i64 5))), none⟩]) .ret) .skip)) (.seq (.seq (.reg [] true [⟨0,
  (some 37), (.mv (.t 9)), none⟩, ⟨1, (some 38), (.bin .gtr (.t 37) (.c (.int .i64 0))), none⟩, ⟨2, (some 39), (.mv (.t 38)), none⟩, ⟨3, (some 40), (.mv (.t
  2)), (some (39, true))⟩, ⟨4, (some 41), (.mv (.t 9)), (some (39, true))⟩, ⟨5, (some 42), (.idx 1 (.t 40) (.t 41)), (some (39, true))⟩, ⟨6, (some 43), (.load
  false 1 (.t 42)), (some (39, true))⟩, ⟨7, (some 44), (.mv (.t 2)), (some (39, true))⟩, ⟨8, (some 45), (.mv (.t 9)), (some (39, true))⟩, ⟨9, (some 46), (.bin
  .sub (.t 45) (.c (.int .i64 1))), (some (39, true))⟩, ⟨10, (some 47), (.idx 1 (.t 44) (.t 46)), (some (39, true))⟩, ⟨11, (some 48), (.load false 1 (.t 47)),
  (some (39, true))⟩, ⟨12, (some 49), (.bin .leq (.t 43) (.t 48)), (some (39, true))⟩, ⟨13, (some 50), (.pick (.t 39) (.t 49) (.c (.bool false))), none⟩])
  (.cond (.t 50) (.seq (.reg [] false [⟨0, (some 6), (.mv (.c (.int .i64 7))), none⟩]) .ret) .skip)) (.reg [] false [⟨0, (some 51), (.mv (.t 8)), none⟩, ⟨0,
  (some 52), (.mv (.t 2)), none⟩, ⟨0, (some 53), (.mv (.t 9)), none⟩, ⟨0, (some 54), (.idx 1 (.t 52) (.t 53)), none⟩, ⟨0, (some 55), (.load false 1 (.t 54)),
  none⟩, ⟨0, (some 56), (.bin .shl (.c (.int .i64 1)) (.t 55)), none⟩, ⟨0, (some 57), (.bin .or (.t 51) (.t 56)), none⟩, ⟨0, (some 8), (.mv (.t 57)),
  none⟩])))) (.reg [] false [⟨0, (some 25), (.mv (.t 9)), none⟩, ⟨0, (some 26), (.bin .add (.t 25) (.c (.int .i64 1))), none⟩, ⟨0, (some 9), (.mv (.t 26)),
  none⟩]))))
/-- zafra/zafraref04.Verify -/
def x35 : XFn := ⟨63, [(6, none)], false, false,
  (.seq (.reg [] false [⟨0, (some 3), (.box (.t 0)), none⟩, ⟨0, (some 6), (.mv (.c (.int .i64 0))), none⟩]) (.seq (.reg [(3, true)] false [⟨0, (some 10), (.load
  true 5 (.t 3)), none⟩, ⟨0, (some 11), (.callf false (.c (.fn (.func 23) [] [])) [(.t 10)] []), none⟩, ⟨0, (some 7), (.mv (.t 11)), none⟩]) (.seq (.seq (.reg
  [] false [⟨0, (some 12), (.mv (.t 7)), none⟩, ⟨0, (some 13), (.bin .neq (.t 12) (.c (.int .i64 0))), none⟩]) (.cond (.t 13) (.seq (.reg [] false [⟨0, (some
  14), (.mv (.t 7)), none⟩, ⟨0, (some 6), (.mv (.t 14)), none⟩]) .ret) .skip)) (.seq (.seq (.reg [] false [⟨0, (some 15), (.mv (.t 1)), none⟩, ⟨0, (some 16),
  (.callf false (.c (.fn (.func 62) [] [])) [(.t 15), (.c (.int .i64 1)), (.c (.int .i64 1000000))] []), none⟩, ⟨0, (some 17), (.not (.t 16)), none⟩]) (.cond
  (.t 17) (.seq (.reg [] false [⟨0, (some 6), (.mv (.c (.int .i64 2))), none⟩]) .ret) .skip)) (.seq (.seq (.reg [] false [⟨0, (some 18), (.mv (.t 2)), none⟩,
  ⟨0, (some 19), (.len false (.t 18)), none⟩, ⟨0, (some 20), (.bin .eql (.t 19) (.c (.int .i64 0))), none⟩]) (.cond (.t 20) (.seq (.reg [] false [⟨0, (some
  6), (.mv (.c (.int .i64 4))), none⟩]) .ret) .skip)) (.seq (.reg [] false [⟨0, (some 8), (.mv (.c (.int .i64 0))), none⟩]) (.seq (.seq (.reg [] false [⟨0,
  (some 9), (.mv (.c (.int .i64 0))), none⟩]) (.block 0 x35l0)) (.seq (.seq (.reg [(3, true)] false [⟨0, (some 58), (.load true 5 (.t 3)), none⟩, ⟨0, (some
  59), (.mv (.t 8)), none⟩, ⟨0, (some 60), (.callf false (.c (.fn (.func 87) [] [])) [(.t 58), (.t 59)] []), none⟩, ⟨0, (some 61), (.mv (.t 1)), none⟩, ⟨0,
  (some 62), (.bin .lss (.t 60) (.t 61)), none⟩]) (.cond (.t 62) (.seq (.reg [] false [⟨0, (some 6), (.mv (.c (.int .i64 11))), none⟩]) .ret) .skip)) (.seq
  (.reg [] false [⟨0, (some 6), (.mv (.c (.int .i64 0))), none⟩]) .ret)))))))))⟩
theorem is35 : FnIs prog 35 x35.fn := ⟨fun vs w => call35 vs w, _, _, func35, rfl, rfl, by kernel_rfl, by kernel_rfl⟩
theorem ok35 : okX x35.body = true := by kernel_rfl
theorem st35 : sitesP x35 x35.body := (sitesP_of rfl)

def x36l0 : XCode :=
  (.loop [1, 3, 7, 9, 10, 30, 31, 32] (.seq (.reg [] false [⟨0, (some 33), (.bin .lss (.t 32) (.t 31)), none⟩]) (.seq (.cond (.t 33) .skip (.exit 1)) (.seq
  (.block 2 (.seq (.reg [] false [⟨0, (some 34), (.idx 1 (.t 30) (.t 32)), none⟩, ⟨0, (some 35), (.load false 1 (.t 34)), none⟩, ⟨0, (some 12), (.mv (.t 35)),
  none⟩]) (.seq (.block 3 (.seq (.reg [] false [⟨0, (some 37), (.mv (.t 12)), none⟩, ⟨0, (some 38), (.fld 1 (.t 3)), none⟩, ⟨0, (some 39), (.load false 1 (.t
  38)), none⟩, ⟨0, (some 40), (.len false (.t 39)), none⟩, ⟨0, (some 41), (.bin .sub (.t 40) (.c (.int .i64 1))), none⟩, ⟨0, (some 42), (.callf false (.c (.fn
  (.func 58) [] [])) [(.c (.int .i64 0)), (.t 37), (.t 41)] []), none⟩, ⟨0, (some 43), (.not (.t 42)), none⟩, ⟨0, (some 36), (.mv (.t 43)), none⟩]) (.cond (.t
  36) (.seq (.reg [] false [⟨0, (some 6), (.mv (.c (.int .i64 5))), none⟩]) .ret) (.seq (.reg [] false [⟨0, (some 45), (.mv (.t 12)), none⟩, ⟨0, (some 46),
  (.mv (.t 10)), none⟩, ⟨0, (some 47), (.bin .leq (.t 45) (.t 46)), none⟩, ⟨0, (some 44), (.mv (.t 47)), none⟩]) (.cond (.t 44) (.seq (.reg [] false [⟨0,
  (some 6), (.mv (.c (.int .i64 7))), none⟩]) .ret) .skip))))) (.seq (.reg [] false [⟨0, (some 48), (.mv (.t 12)), none⟩, ⟨0, (some 10), (.mv (.t 48)),
  none⟩]) (.reg [] false [⟨0, (some 49), (.mv (.t 9)), none⟩, ⟨0, (some 50), (.mv (.t 12)), none⟩, ⟨0, (some 51), (.bin .shl (.c (.int .u64 1)) (.t 50)),
  none⟩, ⟨0, (some 52), (.bin .or (.t 49) (.t 51)), none⟩, ⟨0, (some 9), (.mv (.t 52)), none⟩]))))) (.reg [] false [⟨0, (some 53), (.bin .add (.t 32) (.c
  (.int .i64 1))), none⟩, ⟨0, (some 32), (.mv (.t 53)), none⟩])))))
/-- zafra/sour.Verify -/
def x36 : XFn := ⟨59, [(6, none)], false, false,
  (.seq (.reg [] false [⟨0, (some 3), (.box (.t 0)), none⟩, ⟨0, (some 6), (.mv (.c (.int .i64 0))), none⟩]) (.seq (.reg [(3, true)] false [⟨0, (some 14), (.load
  true 5 (.t 3)), none⟩, ⟨0, (some 15), (.callf false (.c (.fn (.func 52) [] [])) [(.t 14)] []), none⟩, ⟨0, (some 13), (.mv (.t 15)), none⟩, ⟨0, (some 16),
  (.ext (.t 13) 0), none⟩, ⟨0, (some 17), (.ext (.t 13) 1), none⟩, ⟨0, (some 7), (.mv (.t 16)), none⟩, ⟨0, (some 8), (.mv (.t 17)), none⟩]) (.seq (.block 0
  (.seq (.reg [] false [⟨0, (some 19), (.mv (.t 8)), none⟩, ⟨0, (some 20), (.bin .neq (.t 19) (.c (.int .i64 0))), none⟩, ⟨0, (some 18), (.mv (.t 20)),
  none⟩]) (.cond (.t 18) (.seq (.reg [] false [⟨0, (some 21), (.mv (.t 8)), none⟩, ⟨0, (some 6), (.mv (.t 21)), none⟩]) .ret) (.seq (.reg [] false [⟨0, (some
  23), (.mv (.t 1)), none⟩, ⟨0, (some 24), (.callf false (.c (.fn (.func 58) [] [])) [(.c (.int .i64 1)), (.t 23), (.c (.int .i64 1000000))] []), none⟩, ⟨0,
  (some 25), (.not (.t 24)), none⟩, ⟨0, (some 22), (.mv (.t 25)), none⟩]) (.cond (.t 22) (.seq (.reg [] false [⟨0, (some 6), (.mv (.c (.int .i64 2))), none⟩])
  .ret) (.seq (.reg [] false [⟨0, (some 27), (.mv (.t 2)), none⟩, ⟨0, (some 28), (.len false (.t 27)), none⟩, ⟨0, (some 29), (.bin .eql (.t 28) (.c (.int .i64
  0))), none⟩, ⟨0, (some 26), (.mv (.t 29)), none⟩]) (.cond (.t 26) (.seq (.reg [] false [⟨0, (some 6), (.mv (.c (.int .i64 4))), none⟩]) .ret) .skip)))))))
  (.seq (.reg [] false [⟨0, (some 9), (.mv (.c (.int .u64 0))), none⟩]) (.seq (.reg [] false [⟨0, (some 10), (.mv (.c (.int .i64 (-1)))), none⟩]) (.seq (.seq
  (.reg [] false [⟨0, (some 30), (.mv (.t 2)), none⟩, ⟨0, (some 31), (.len false (.t 30)), none⟩, ⟨0, (some 32), (.mv (.c (.int .i64 0))), none⟩]) (.block 1
  x36l0)) (.seq (.seq (.reg [(7, false)] false [⟨0, (some 54), (.mv (.t 7)), none⟩, ⟨0, (some 55), (.mv (.t 9)), none⟩, ⟨0, (some 56), (.callf false (.c (.fn
  (.func 80) [] [])) [(.t 54), (.t 55)] []), none⟩, ⟨0, (some 57), (.mv (.t 1)), none⟩, ⟨0, (some 58), (.bin .lss (.t 56) (.t 57)), none⟩]) (.cond (.t 58)
  (.seq (.reg [] false [⟨0, (some 6), (.mv (.c (.int .i64 11))), none⟩]) .ret) .skip)) (.seq (.reg [] false [⟨0, (some 6), (.mv (.c (.int .i64 0))), none⟩])
  .ret))))))))⟩
theorem is36 : FnIs prog 36 x36.fn := ⟨fun vs w => call36 vs w, _, _, func36, rfl, rfl, by kernel_rfl, by kernel_rfl⟩
theorem ok36 : okX x36.body = true := by kernel_rfl
theorem st36 : sitesP x36 x36.body := (sitesP_of rfl)

def x37l0 : XCode :=
  (.loop [3, 5, 8, 11, 36, 37, 38] (.seq (.reg [] false [⟨0, (some 39), (.bin .lss (.t 38) (.t 37)), none⟩]) (.seq (.cond (.t 39) .skip (.exit 1)) (.seq (.block
  2 (.seq (.reg [] false [⟨0, (some 40), (.mv (.t 38)), none⟩, ⟨0, (some 41), (.idx 5 (.t 36) (.t 38)), none⟩, ⟨0, (some 42), (.load true 5 (.t 41)), none⟩,
  ⟨0, (some 13), (.alloc [(.int .i64 0), (.int .i64 0), (.int .i64 0), (.int .i64 0), (.int .i64 0)]), none⟩, ⟨0, (some 12), (.mv (.t 40)), none⟩, ⟨0, none,
  (.store 5 (.t 13) (.t 42) []), none⟩]) (.seq (.reg [] false [⟨0, (some 43), (.fld 0 (.t 3)), none⟩, ⟨0, (some 44), (.load false 1 (.t 43)), none⟩, ⟨0, (some
  45), (.fld 0 (.t 13)), none⟩, ⟨0, (some 46), (.load false 1 (.t 45)), none⟩, ⟨0, (some 47), (.idx 1 (.t 44) (.t 46)), none⟩, ⟨0, (some 48), (.load false 1
  (.t 47)), none⟩, ⟨0, (some 14), (.mv (.t 48)), none⟩]) (.seq (.reg [(14, false)] false [⟨0, (some 49), (.mv (.t 14)), none⟩, ⟨0, (some 50), (.mkf (.func 91)
  [] [(.t 5)]), none⟩, ⟨0, (some 51), (.callf false (.c (.fn (.func 90) [] [])) [(.t 49), (.t 50)] []), none⟩, ⟨0, (some 15), (.mv (.t 51)), none⟩]) (.seq
  (.reg [] false [⟨0, (some 52), (.mv (.t 15)), none⟩, ⟨0, (some 53), (.bin .geq (.t 52) (.c (.int .i64 0))), none⟩]) (.cond (.t 53) (.reg [] true [⟨0, (some
  54), (.mv (.t 11)), none⟩, ⟨1, (some 55), (.mv (.t 14)), none⟩, ⟨2, (some 56), (.mv (.t 15)), none⟩, ⟨3, (some 57), (.idx 2 (.t 55) (.t 56)), none⟩, ⟨4,
  (some 58), (.fld 0 (.t 57)), none⟩, ⟨5, (some 59), (.load false 1 (.t 58)), none⟩, ⟨6, (some 60), (.bin .sub (.t 59) (.c (.int .i64 1))), none⟩, ⟨7, (some
  61), (.fld 1 (.t 13)), none⟩, ⟨8, (some 62), (.fld 1 (.t 61)), none⟩, ⟨9, (some 63), (.load false 1 (.t 62)), none⟩, ⟨10, (some 64), (.bin .sub (.t 60) (.t
  63)), none⟩, ⟨11, (some 65), (.mv (.t 8)), none⟩, ⟨12, (some 66), (.mv (.t 12)), none⟩, ⟨13, (some 67), (.idx 2 (.t 65) (.t 66)), none⟩, ⟨14, (some 68),
  (.fld 1 (.t 67)), none⟩, ⟨15, (some 69), (.load false 1 (.t 68)), none⟩, ⟨16, (some 70), (.bin .sub (.t 64) (.t 69)), none⟩, ⟨17, (some 71), (.mm false (.t
  54) (.t 70)), none⟩, ⟨18, (some 11), (.mv (.t 71)), none⟩]) .skip)))))) (.reg [] false [⟨0, (some 72), (.bin .add (.t 38) (.c (.int .i64 1))), none⟩, ⟨0,
  (some 38), (.mv (.t 72)), none⟩])))))
/-- zafra/sour.Delay -/
def x37 : XFn := ⟨74, [(6, none), (7, none)], false, false,
  (.seq (.reg [] false [⟨0, (some 3), (.box (.t 0)), none⟩, ⟨0, (some 5), (.box (.t 2)), none⟩, ⟨0, (some 6), (.mv (.c (.int .i64 0))), none⟩, ⟨0, (some 7),
  (.mv (.c (.int .i64 0))), none⟩]) (.seq (.reg [(3, true), (1, false)] false [⟨0, (some 17), (.load true 5 (.t 3)), none⟩, ⟨0, (some 18), (.mv (.t 1)),
  none⟩, ⟨0, (some 19), (.callf false (.c (.fn (.func 17) [] [])) [(.t 17), (.t 18)] []), none⟩, ⟨0, (some 16), (.mv (.t 19)), none⟩, ⟨0, (some 20), (.ext (.t
  16) 0), none⟩, ⟨0, (some 21), (.ext (.t 16) 1), none⟩, ⟨0, (some 22), (.ext (.t 16) 2), none⟩, ⟨0, (some 8), (.mv (.t 20)), none⟩, ⟨0, (some 9), (.mv (.t
  21)), none⟩, ⟨0, (some 10), (.mv (.t 22)), none⟩]) (.seq (.block 0 (.seq (.reg [] false [⟨0, (some 24), (.mv (.t 10)), none⟩, ⟨0, (some 25), (.bin .neq (.t
  24) (.c (.int .i64 0))), none⟩, ⟨0, (some 23), (.mv (.t 25)), none⟩]) (.cond (.t 23) (.seq (.reg [] false [⟨0, (some 26), (.mv (.t 10)), none⟩, ⟨0, (some
  6), (.mv (.c (.int .i64 0))), none⟩, ⟨0, (some 7), (.mv (.t 26)), none⟩]) .ret) (.seq (.reg [(5, true)] false [⟨0, (some 28), (.load false 1 (.t 5)), none⟩,
  ⟨0, (some 29), (.callf false (.c (.fn (.func 58) [] [])) [(.c (.int .i64 0)), (.t 28), (.c (.int .i64 1000000))] []), none⟩, ⟨0, (some 30), (.not (.t 29)),
  none⟩, ⟨0, (some 27), (.mv (.t 30)), none⟩]) (.cond (.t 27) (.seq (.reg [] false [⟨0, (some 6), (.mv (.c (.int .i64 0))), none⟩, ⟨0, (some 7), (.mv (.c
  (.int .i64 2))), none⟩]) .ret) (.seq (.reg [(9, false)] false [⟨0, (some 32), (.mv (.t 9)), none⟩, ⟨0, (some 33), (.mkf (.func 89) [] [(.t 5)]), none⟩, ⟨0,
  (some 34), (.callf false (.c (.fn (.func 88) [] [])) [(.t 32), (.t 33)] []), none⟩, ⟨0, (some 31), (.mv (.t 34)), none⟩]) (.cond (.t 31) (.seq (.reg []
  false [⟨0, (some 6), (.mv (.c (.int .i64 0))), none⟩, ⟨0, (some 7), (.mv (.c (.int .i64 10))), none⟩]) .ret) .skip))))))) (.seq (.reg [] false [⟨0, (some
  11), (.mv (.c (.int .i64 1125899906842624))), none⟩]) (.seq (.seq (.reg [] false [⟨0, (some 35), (.fld 1 (.t 3)), none⟩, ⟨0, (some 36), (.load false 1 (.t
  35)), none⟩, ⟨0, (some 37), (.len false (.t 36)), none⟩, ⟨0, (some 38), (.mv (.c (.int .i64 0))), none⟩]) (.block 1 x37l0)) (.seq (.reg [] false [⟨0, (some
  73), (.mv (.t 11)), none⟩, ⟨0, (some 6), (.mv (.t 73)), none⟩, ⟨0, (some 7), (.mv (.c (.int .i64 0))), none⟩]) .ret))))))⟩
theorem is37 : FnIs prog 37 x37.fn := ⟨fun vs w => call37 vs w, _, _, func37, rfl, rfl, by kernel_rfl, by kernel_rfl⟩
theorem ok37 : okX x37.body = true := by kernel_rfl
theorem st37 : sitesP x37 x37.body := (sitesP_of rfl)

def x38l0 : XCode :=
  (.loop [2, 3, 10, 13, 14, 15, 16] (.seq (.seq (.reg [] false [⟨0, (some 56), (.mv (.t 16)), none⟩, ⟨0, (some 57), (.mv (.t 15)), none⟩, ⟨0, (some 58), (.len
  false (.t 57)), none⟩, ⟨0, (some 59), (.bin .lss (.t 56) (.t 58)), none⟩]) (.cond (.t 59) .skip (.exit 2))) (.seq (.block 3 (.seq (.reg [] false [⟨0, (some
  62), (.mv (.t 15)), none⟩, ⟨0, (some 63), (.mv (.t 16)), none⟩, ⟨0, (some 64), (.idx 2 (.t 62) (.t 63)), none⟩, ⟨0, (some 65), (.fld 1 (.t 64)), none⟩, ⟨0,
  (some 66), (.load false 1 (.t 65)), none⟩, ⟨0, (some 67), (.mv (.t 2)), none⟩, ⟨0, (some 68), (.bin .gtr (.t 66) (.t 67)), none⟩]) (.cond (.t 68) (.reg []
  true [⟨0, (some 69), (.mv (.t 13)), none⟩, ⟨1, (some 70), (.mv (.t 15)), none⟩, ⟨2, (some 71), (.mv (.t 16)), none⟩, ⟨3, (some 72), (.idx 2 (.t 70) (.t
  71)), none⟩, ⟨4, (some 73), (.fld 0 (.t 72)), none⟩, ⟨5, (some 74), (.load false 1 (.t 73)), none⟩, ⟨6, (some 75), (.bin .sub (.t 74) (.c (.int .i64 1))),
  none⟩, ⟨7, (some 76), (.fld 1 (.t 3)), none⟩, ⟨8, (some 77), (.load false 1 (.t 76)), none⟩, ⟨9, (some 78), (.mv (.t 14)), none⟩, ⟨10, (some 79), (.idx 5
  (.t 77) (.t 78)), none⟩, ⟨11, (some 80), (.fld 1 (.t 79)), none⟩, ⟨12, (some 81), (.fld 1 (.t 80)), none⟩, ⟨13, (some 82), (.load false 1 (.t 81)), none⟩,
  ⟨14, (some 83), (.bin .sub (.t 75) (.t 82)), none⟩, ⟨15, (some 84), (.mv (.t 10)), none⟩, ⟨16, (some 85), (.mv (.t 14)), none⟩, ⟨17, (some 86), (.idx 2 (.t
  84) (.t 85)), none⟩, ⟨18, (some 87), (.fld 1 (.t 86)), none⟩, ⟨19, (some 88), (.load false 1 (.t 87)), none⟩, ⟨20, (some 89), (.bin .sub (.t 83) (.t 88)),
  none⟩, ⟨21, (some 90), (.mm false (.t 69) (.t 89)), none⟩, ⟨22, (some 13), (.mv (.t 90)), none⟩]) .skip))) (.reg [] false [⟨0, (some 60), (.mv (.t 16)),
  none⟩, ⟨0, (some 61), (.bin .add (.t 60) (.c (.int .i64 1))), none⟩, ⟨0, (some 16), (.mv (.t 61)), none⟩]))))
def x38l1 : XCode :=
  (.loop [2, 3, 10, 13, 14] (.seq (.seq (.reg [] false [⟨0, (some 39), (.mv (.t 14)), none⟩, ⟨0, (some 40), (.fld 1 (.t 3)), none⟩, ⟨0, (some 41), (.load false
  1 (.t 40)), none⟩, ⟨0, (some 42), (.len false (.t 41)), none⟩, ⟨0, (some 43), (.bin .lss (.t 39) (.t 42)), none⟩]) (.cond (.t 43) .skip (.exit 0))) (.seq
  (.block 1 (.seq (.reg [] true [⟨0, (some 46), (.fld 0 (.t 3)), none⟩, ⟨1, (some 47), (.load false 1 (.t 46)), none⟩, ⟨2, (some 48), (.fld 1 (.t 3)), none⟩,
  ⟨3, (some 49), (.load false 1 (.t 48)), none⟩, ⟨4, (some 50), (.mv (.t 14)), none⟩, ⟨5, (some 51), (.idx 5 (.t 49) (.t 50)), none⟩, ⟨6, (some 52), (.fld 0
  (.t 51)), none⟩, ⟨7, (some 53), (.load false 1 (.t 52)), none⟩, ⟨8, (some 54), (.idx 1 (.t 47) (.t 53)), none⟩, ⟨9, (some 55), (.load false 1 (.t 54)),
  none⟩, ⟨10, (some 15), (.mv (.t 55)), none⟩]) (.seq (.reg [] false [⟨0, (some 16), (.mv (.c (.int .i64 0))), none⟩]) (.block 2 x38l0)))) (.reg [] false [⟨0,
  (some 44), (.mv (.t 14)), none⟩, ⟨0, (some 45), (.bin .add (.t 44) (.c (.int .i64 1))), none⟩, ⟨0, (some 14), (.mv (.t 45)), none⟩]))))
/-- zafra/zafraref04.Delay -/
def x38 : XFn := ⟨92, [(6, none), (7, none)], false, false,
  (.seq (.reg [] false [⟨0, (some 3), (.box (.t 0)), none⟩, ⟨0, (some 6), (.mv (.c (.int .i64 0))), none⟩, ⟨0, (some 7), (.mv (.c (.int .i64 0))), none⟩]) (.seq
  (.reg [(3, true), (1, false)] false [⟨0, (some 18), (.load true 5 (.t 3)), none⟩, ⟨0, (some 19), (.mv (.t 1)), none⟩, ⟨0, (some 20), (.callf false (.c (.fn
  (.func 20) [] [])) [(.t 18), (.t 19)] []), none⟩, ⟨0, (some 17), (.mv (.t 20)), none⟩, ⟨0, (some 21), (.ext (.t 17) 0), none⟩, ⟨0, (some 22), (.ext (.t 17)
  1), none⟩, ⟨0, (some 8), (.mv (.t 21)), none⟩, ⟨0, (some 9), (.mv (.t 22)), none⟩]) (.seq (.seq (.reg [] false [⟨0, (some 23), (.mv (.t 9)), none⟩, ⟨0,
  (some 24), (.bin .neq (.t 23) (.c (.int .i64 0))), none⟩]) (.cond (.t 24) (.seq (.reg [] false [⟨0, (some 25), (.mv (.t 9)), none⟩, ⟨0, (some 6), (.mv (.c
  (.int .i64 0))), none⟩, ⟨0, (some 7), (.mv (.t 25)), none⟩]) .ret) .skip)) (.seq (.seq (.reg [] false [⟨0, (some 26), (.mv (.t 2)), none⟩, ⟨0, (some 27),
  (.callf false (.c (.fn (.func 62) [] [])) [(.t 26), (.c (.int .i64 0)), (.c (.int .i64 1000000))] []), none⟩, ⟨0, (some 28), (.not (.t 27)), none⟩]) (.cond
  (.t 28) (.seq (.reg [] false [⟨0, (some 6), (.mv (.c (.int .i64 0))), none⟩, ⟨0, (some 7), (.mv (.c (.int .i64 2))), none⟩]) .ret) .skip)) (.seq (.seq (.reg
  [] false [⟨0, (some 29), (.mv (.t 8)), none⟩, ⟨0, (some 30), (.mv (.t 2)), none⟩, ⟨0, (some 31), (.bin .gtr (.t 29) (.t 30)), none⟩]) (.cond (.t 31) (.seq
  (.reg [] false [⟨0, (some 6), (.mv (.c (.int .i64 0))), none⟩, ⟨0, (some 7), (.mv (.c (.int .i64 10))), none⟩]) .ret) .skip)) (.seq (.reg [(3, true), (1,
  false)] false [⟨0, (some 33), (.load true 5 (.t 3)), none⟩, ⟨0, (some 34), (.mv (.t 1)), none⟩, ⟨0, (some 35), (.callf false (.c (.fn (.func 18) [] []))
  [(.t 33), (.t 34)] []), none⟩, ⟨0, (some 32), (.mv (.t 35)), none⟩, ⟨0, (some 36), (.ext (.t 32) 0), none⟩, ⟨0, (some 37), (.ext (.t 32) 1), none⟩, ⟨0,
  (some 38), (.ext (.t 32) 2), none⟩, ⟨0, (some 10), (.mv (.t 36)), none⟩, ⟨0, (some 11), (.mv (.t 37)), none⟩, ⟨0, (some 12), (.mv (.t 38)), none⟩]) (.seq
  (.reg [] false [⟨0, (some 13), (.mv (.c (.int .i64 1125899906842624))), none⟩]) (.seq (.seq (.reg [] false [⟨0, (some 14), (.mv (.c (.int .i64 0))), none⟩])
  (.block 0 x38l1)) (.seq (.reg [] false [⟨0, (some 91), (.mv (.t 13)), none⟩, ⟨0, (some 6), (.mv (.t 91)), none⟩, ⟨0, (some 7), (.mv (.c (.int .i64 0))),
  none⟩]) .ret)))))))))⟩
theorem is38 : FnIs prog 38 x38.fn := ⟨fun vs w => call38 vs w, _, _, func38, rfl, rfl, by kernel_rfl, by kernel_rfl⟩
theorem ok38 : okX x38.body = true := by kernel_rfl
theorem st38 : sitesP x38 x38.body := (sitesP_of rfl)

def x39l0 : XCode :=
  (.loop [1, 2, 3, 5, 6, 7, 8, 9, 34, 35] (.seq (.seq (.reg [] false [⟨0, (some 38), (.mv (.t 9)), none⟩, ⟨0, (some 39), (.mv (.t 5)), none⟩, ⟨0, (some 40),
  (.len false (.t 39)), none⟩, ⟨0, (some 41), (.bin .lss (.t 38) (.t 40)), none⟩, ⟨0, (some 42), (.mv (.t 41)), none⟩, ⟨0, (some 43), (.mv (.t 9)), (some (42,
  true))⟩, ⟨0, (some 44), (.bin .lss (.t 43) (.c (.int .i64 4))), (some (42, true))⟩, ⟨0, (some 45), (.pick (.t 42) (.t 44) (.c (.bool false))), none⟩])
  (.cond (.t 45) .skip (.exit 2))) (.seq (.block 3 (.seq (.reg [] true [⟨0, (some 48), (.mv (.t 7)), none⟩, ⟨1, (some 49), (.bin .add (.t 48) (.c (.int .i64
  1))), none⟩, ⟨2, (some 50), (.mv (.t 5)), none⟩, ⟨3, (some 51), (.mv (.t 9)), none⟩, ⟨4, (some 52), (.idx 2 (.t 50) (.t 51)), none⟩, ⟨5, (some 53), (.idxa 2
  1 (.t 52) (.c (.int .i64 0))), none⟩, ⟨6, (some 54), (.load false 1 (.t 53)), none⟩, ⟨7, (some 55), (.conv .i64 (.t 54)), none⟩, ⟨8, (some 56), (.bin .add
  (.t 49) (.t 55)), none⟩, ⟨9, (some 57), (.mv (.t 8)), none⟩, ⟨10, (some 58), (.bin .add (.t 57) (.c (.int .i64 1))), none⟩, ⟨11, (some 59), (.mv (.t 5)),
  none⟩, ⟨12, (some 60), (.mv (.t 9)), none⟩, ⟨13, (some 61), (.idx 2 (.t 59) (.t 60)), none⟩, ⟨14, (some 62), (.idxa 2 1 (.t 61) (.c (.int .i64 1))), none⟩,
  ⟨15, (some 63), (.load false 1 (.t 62)), none⟩, ⟨16, (some 64), (.conv .i64 (.t 63)), none⟩, ⟨17, (some 65), (.bin .rem (.t 64) (.c (.int .i64 9))), none⟩,
  ⟨18, (some 66), (.bin .add (.t 58) (.t 65)), none⟩, ⟨19, (some 7), (.mv (.t 56)), none⟩, ⟨20, (some 8), (.mv (.t 66)), none⟩]) (.reg [] false [⟨0, (some
  67), (.mv (.t 6)), none⟩, ⟨0, (some 68), (.mv (.t 7)), none⟩, ⟨0, (some 69), (.mv (.t 8)), none⟩, ⟨0, (some 70), (.build [(.int .i64 0), (.int .i64 0)] [(0,
  (1, (.t 68))), (1, (1, (.t 69)))]), none⟩, ⟨0, (some 71), (.bslice 2 1 [(.int .i64 0), (.int .i64 0)] [(0, (2, (.t 70)))]), none⟩, ⟨0, (some 72), (.app 2 16
  (.t 67) (.t 71)), none⟩, ⟨0, (some 6), (.mv (.t 72)), none⟩]))) (.reg [] false [⟨0, (some 46), (.mv (.t 9)), none⟩, ⟨0, (some 47), (.bin .add (.t 46) (.c
  (.int .i64 1))), none⟩, ⟨0, (some 9), (.mv (.t 47)), none⟩]))))
def x39l1 : XCode :=
  (.loop [1, 2, 3, 34, 35] (.seq (.reg [] false [⟨0, (some 36), (.bin .lss (.t 35) (.c (.int .i64 2))), none⟩]) (.seq (.cond (.t 36) .skip (.exit 0)) (.seq
  (.block 1 (.seq (.reg [] false [⟨0, (some 37), (.idxv false 2 1 (.t 34) (.t 35)), none⟩, ⟨0, (some 5), (.mv (.t 37)), none⟩]) (.seq (.reg [] false [⟨0,
  (some 6), (.mv (.c .nilsl)), none⟩]) (.seq (.reg [] false [⟨0, (some 7), (.mv (.c (.int .i64 0))), none⟩, ⟨0, (some 8), (.mv (.c (.int .i64 0))), none⟩])
  (.seq (.seq (.reg [] false [⟨0, (some 9), (.mv (.c (.int .i64 0))), none⟩]) (.block 2 x39l0)) (.reg [(6, false)] false [⟨0, (some 73), (.fld 0 (.t 3)),
  none⟩, ⟨0, (some 74), (.load false 1 (.t 73)), none⟩, ⟨0, (some 75), (.mv (.t 6)), none⟩, ⟨0, (some 76), (.bslice 1 1 [.nilsl] [(0, (1, (.t 75)))]), none⟩,
  ⟨0, (some 77), (.app 1 24 (.t 74) (.t 76)), none⟩, ⟨0, (some 78), (.fld 0 (.t 3)), none⟩, ⟨0, none, (.store 1 (.t 78) (.t 77) []), none⟩])))))) (.reg []
  false [⟨0, (some 79), (.bin .add (.t 35) (.c (.int .i64 1))), none⟩, ⟨0, (some 35), (.mv (.t 79)), none⟩])))))
def x39l2 : XCode :=
  (.loop [1, 2, 3, 10, 11] (.seq (.seq (.reg [] false [⟨0, (some 80), (.mv (.t 11)), none⟩, ⟨0, (some 81), (.fld 2 (.t 1)), none⟩, ⟨0, (some 82), (.load false 1
  (.t 81)), none⟩, ⟨0, (some 83), (.len false (.t 82)), none⟩, ⟨0, (some 84), (.bin .lss (.t 80) (.t 83)), none⟩, ⟨0, (some 85), (.mv (.t 84)), none⟩, ⟨0,
  (some 86), (.mv (.t 11)), (some (85, true))⟩, ⟨0, (some 87), (.bin .lss (.t 86) (.c (.int .i64 5))), (some (85, true))⟩, ⟨0, (some 88), (.pick (.t 85) (.t
  87) (.c (.bool false))), none⟩]) (.cond (.t 88) .skip (.exit 4))) (.seq (.block 5 (.seq (.reg [] false [⟨0, (some 91), (.fld 2 (.t 1)), none⟩, ⟨0, (some
  92), (.load false 1 (.t 91)), none⟩, ⟨0, (some 93), (.mv (.t 11)), none⟩, ⟨0, (some 94), (.idx 5 (.t 92) (.t 93)), none⟩, ⟨0, (some 95), (.load true 5 (.t
  94)), none⟩, ⟨0, (some 12), (.alloc [(.int .u8 0), (.int .u8 0), (.int .u8 0), (.int .u8 0), (.int .u8 0)]), none⟩, ⟨0, none, (.store 5 (.t 12) (.t 95) []),
  none⟩]) (.seq (.reg [] true [⟨0, (some 96), (.idxa 5 1 (.t 12) (.c (.int .i64 0))), none⟩, ⟨1, (some 97), (.load false 1 (.t 96)), none⟩, ⟨2, (some 98),
  (.conv .i64 (.t 97)), none⟩, ⟨3, (some 99), (.idxa 5 1 (.t 12) (.c (.int .i64 2))), none⟩, ⟨4, (some 100), (.load false 1 (.t 99)), none⟩, ⟨5, (some 101),
  (.conv .i64 (.t 100)), none⟩, ⟨6, (some 102), (.bin .rem (.t 101) (.c (.int .i64 60))), none⟩, ⟨7, (some 103), (.bin .add (.c (.int .i64 1)) (.t 102)),
  none⟩, ⟨8, (some 13), (.mv (.t 98)), none⟩, ⟨9, (some 14), (.mv (.t 103)), none⟩]) (.seq (.reg [] true [⟨0, (some 104), (.fld 1 (.t 3)), none⟩, ⟨1, (some
  105), (.load false 1 (.t 104)), none⟩, ⟨2, (some 106), (.idxa 5 1 (.t 12) (.c (.int .i64 4))), none⟩, ⟨3, (some 107), (.load false 1 (.t 106)), none⟩, ⟨4,
  (some 108), (.conv .i64 (.t 107)), none⟩, ⟨5, (some 109), (.bin .rem (.t 108) (.c (.int .i64 2))), none⟩, ⟨6, (some 110), (.mv (.t 13)), none⟩, ⟨7, (some
  111), (.mv (.t 13)), none⟩, ⟨8, (some 112), (.idxa 5 1 (.t 12) (.c (.int .i64 1))), none⟩, ⟨9, (some 113), (.load false 1 (.t 112)), none⟩, ⟨10, (some 114),
  (.conv .i64 (.t 113)), none⟩, ⟨11, (some 115), (.bin .rem (.t 114) (.c (.int .i64 50))), none⟩, ⟨12, (some 116), (.bin .add (.t 111) (.t 115)), none⟩, ⟨14,
  (some 118), (.mv (.t 14)), none⟩, ⟨15, (some 119), (.mv (.t 14)), none⟩, ⟨16, (some 120), (.idxa 5 1 (.t 12) (.c (.int .i64 3))), none⟩, ⟨17, (some 121),
  (.load false 1 (.t 120)), none⟩, ⟨18, (some 122), (.conv .i64 (.t 121)), none⟩, ⟨19, (some 123), (.bin .rem (.t 122) (.c (.int .i64 30))), none⟩, ⟨20, (some
  124), (.bin .add (.t 119) (.t 123)), none⟩, ⟨13, (some 117), (.callf false (.c (.fn (.func 44) [] [])) [(.t 110), (.t 116)] [1, 3, 17]), none⟩, ⟨21, (some
  125), (.callf false (.c (.fn (.func 44) [] [])) [(.t 118), (.t 124)] [1, 3]), none⟩, ⟨22, (some 126), (.build [(.int .i64 0), (.int .i64 0), (.int .i64 0),
  (.int .i64 0), (.int .i64 0)] [(0, (1, (.t 109))), (1, (2, (.t 117))), (3, (2, (.t 125)))]), none⟩, ⟨23, (some 127), (.bslice 5 1 [(.int .i64 0), (.int .i64
  0), (.int .i64 0), (.int .i64 0), (.int .i64 0)] [(0, (5, (.t 126)))]), none⟩, ⟨24, (some 128), (.app 5 40 (.t 105) (.t 127)), none⟩, ⟨25, (some 129), (.fld
  1 (.t 3)), none⟩, ⟨26, none, (.store 1 (.t 129) (.t 128) []), none⟩]) (.seq (.reg [] false [⟨0, (some 130), (.idxa 5 1 (.t 12) (.c (.int .i64 4))), none⟩,
  ⟨0, (some 131), (.load false 1 (.t 130)), none⟩, ⟨0, (some 132), (.conv .i64 (.t 131)), none⟩, ⟨0, (some 133), (.bin .quo (.t 132) (.c (.int .i64 2))),
  none⟩, ⟨0, (some 134), (.bin .rem (.t 133) (.c (.int .i64 3))), none⟩, ⟨0, (some 15), (.mv (.t 134)), none⟩]) (.seq (.reg [] false [⟨0, (some 135), (.idxa 5
  1 (.t 12) (.c (.int .i64 4))), none⟩, ⟨0, (some 136), (.load false 1 (.t 135)), none⟩, ⟨0, (some 137), (.bin .gtr (.t 136) (.c (.int .u8 128))), none⟩, ⟨0,
  (some 138), (.mv (.t 137)), none⟩, ⟨0, (some 139), (.mv (.t 15)), (some (138, true))⟩, ⟨0, (some 140), (.idxa 3 1 (.t 10) (.t 139)), (some (138, true))⟩,
  ⟨0, (some 141), (.load false 1 (.t 140)), (some (138, true))⟩, ⟨0, (some 142), (.len false (.t 141)), (some (138, true))⟩, ⟨0, (some 143), (.bin .gtr (.t
  142) (.c (.int .i64 0))), (some (138, true))⟩, ⟨0, (some 144), (.pick (.t 138) (.t 143) (.c (.bool false))), none⟩]) (.cond (.t 144) (.reg [] false [⟨0,
  (some 145), (.mv (.t 15)), none⟩, ⟨0, (some 146), (.mv (.t 11)), none⟩, ⟨0, (some 147), (.bslice 1 1 [(.int .i64 0)] [(0, (1, (.t 146)))]), none⟩, ⟨0, (some
  148), (.mv (.t 15)), none⟩, ⟨0, (some 149), (.idxa 3 1 (.t 10) (.t 148)), none⟩, ⟨0, (some 150), (.load false 1 (.t 149)), none⟩, ⟨0, (some 151), (.app 1 8
  (.t 147) (.t 150)), none⟩, ⟨0, (some 152), (.idxa 3 1 (.t 10) (.t 145)), none⟩, ⟨0, none, (.store 1 (.t 152) (.t 151) []), none⟩]) (.reg [] false [⟨0, (some
  153), (.mv (.t 15)), none⟩, ⟨0, (some 154), (.mv (.t 15)), none⟩, ⟨0, (some 155), (.idxa 3 1 (.t 10) (.t 154)), none⟩, ⟨0, (some 156), (.load false 1 (.t
  155)), none⟩, ⟨0, (some 157), (.mv (.t 11)), none⟩, ⟨0, (some 158), (.bslice 1 1 [(.int .i64 0)] [(0, (1, (.t 157)))]), none⟩, ⟨0, (some 159), (.app 1 8 (.t
  156) (.t 158)), none⟩, ⟨0, (some 160), (.idxa 3 1 (.t 10) (.t 153)), none⟩, ⟨0, none, (.store 1 (.t 160) (.t 159) []), none⟩])))))))) (.reg [] false [⟨0,
  (some 89), (.mv (.t 11)), none⟩, ⟨0, (some 90), (.bin .add (.t 89) (.c (.int .i64 1))), none⟩, ⟨0, (some 11), (.mv (.t 90)), none⟩]))))
def x39l3 : XCode :=
  (.loop [2, 3, 161, 162] (.seq (.reg [] false [⟨0, (some 163), (.bin .lss (.t 162) (.c (.int .i64 3))), none⟩]) (.seq (.cond (.t 163) .skip (.exit 6)) (.seq
  (.block 7 (.seq (.reg [] false [⟨0, (some 164), (.idxv false 3 1 (.t 161) (.t 162)), none⟩, ⟨0, (some 17), (.mv (.t 164)), none⟩]) (.seq (.reg [] false [⟨0,
  (some 165), (.mv (.t 17)), none⟩, ⟨0, (some 166), (.len false (.t 165)), none⟩, ⟨0, (some 167), (.bin .gtr (.t 166) (.c (.int .i64 0))), none⟩]) (.cond (.t
  167) (.reg [(17, false)] false [⟨0, (some 168), (.fld 2 (.t 3)), none⟩, ⟨0, (some 169), (.load false 1 (.t 168)), none⟩, ⟨0, (some 170), (.mv (.t 17)),
  none⟩, ⟨0, (some 171), (.bslice 1 1 [.nilsl] [(0, (1, (.t 170)))]), none⟩, ⟨0, (some 172), (.app 1 24 (.t 169) (.t 171)), none⟩, ⟨0, (some 173), (.fld 2 (.t
  3)), none⟩, ⟨0, none, (.store 1 (.t 173) (.t 172) []), none⟩]) .skip)))) (.reg [] false [⟨0, (some 174), (.bin .add (.t 162) (.c (.int .i64 1))), none⟩, ⟨0,
  (some 162), (.mv (.t 174)), none⟩])))))
/-- (zafra/zafralaw04.Queue).made -/
def x39 : XFn := ⟨176, [(2, (some (true, 5)))], false, false,
  (.seq (.reg [] false [⟨0, (some 1), (.box (.t 0)), none⟩, ⟨0, (some 2), (.alloc [.nilsl, .nilsl, .nilsl, (.int .i64 0), (.int .i64 0)]), none⟩]) (.seq (.reg
  [] false [⟨0, (some 18), (.fld 3 (.t 1)), none⟩, ⟨0, (some 19), (.idxa 2 1 (.t 18) (.c (.int .i64 0))), none⟩, ⟨0, (some 20), (.load false 1 (.t 19)),
  none⟩, ⟨0, (some 21), (.conv .i64 (.t 20)), none⟩, ⟨0, (some 22), (.fld 3 (.t 1)), none⟩, ⟨0, (some 23), (.idxa 2 1 (.t 22) (.c (.int .i64 0))), none⟩, ⟨0,
  (some 24), (.load false 1 (.t 23)), none⟩, ⟨0, (some 25), (.conv .i64 (.t 24)), none⟩, ⟨0, (some 26), (.fld 3 (.t 1)), none⟩, ⟨0, (some 27), (.idxa 2 1 (.t
  26) (.c (.int .i64 1))), none⟩, ⟨0, (some 28), (.load false 1 (.t 27)), none⟩, ⟨0, (some 29), (.conv .i64 (.t 28)), none⟩, ⟨0, (some 30), (.bin .add (.t 25)
  (.t 29)), none⟩, ⟨0, (some 31), (.callf false (.c (.fn (.func 44) [] [])) [(.t 21), (.t 30)] []), none⟩, ⟨0, (some 32), (.build [.nilsl, .nilsl, .nilsl,
  (.int .i64 0), (.int .i64 0)] [(3, (2, (.t 31)))]), none⟩, ⟨0, (some 3), (.alloc [.nilsl, .nilsl, .nilsl, (.int .i64 0), (.int .i64 0)]), none⟩, ⟨0, none,
  (.store 5 (.t 3) (.t 32) []), none⟩]) (.seq (.seq (.reg [] false [⟨0, (some 33), (.fld 0 (.t 1)), none⟩, ⟨0, (some 34), (.load true 2 (.t 33)), none⟩, ⟨0,
  (some 35), (.mv (.c (.int .i64 0))), none⟩]) (.block 0 x39l1)) (.seq (.reg [] false [⟨0, (some 10), (.alloc [.nilsl, .nilsl, .nilsl]), none⟩]) (.seq (.seq
  (.reg [] false [⟨0, (some 11), (.mv (.c (.int .i64 0))), none⟩]) (.block 4 x39l2)) (.seq (.seq (.reg [] false [⟨0, (some 161), (.load true 3 (.t 10)),
  none⟩, ⟨0, (some 162), (.mv (.c (.int .i64 0))), none⟩]) (.block 6 x39l3)) (.seq (.reg [] false [⟨0, (some 175), (.load true 5 (.t 3)), none⟩, ⟨0, none,
  (.store 5 (.t 2) (.t 175) []), none⟩]) .ret)))))))⟩
theorem is39 : FnIs prog 39 x39.fn := ⟨fun vs w => call39 vs w, _, _, func39, rfl, rfl, by kernel_rfl, by kernel_rfl⟩
theorem ok39 : okX x39.body = true := by kernel_rfl
theorem st39 : sitesP x39 x39.body := (sitesP_of rfl)

def x40l0 : XCode :=
  (.loop [1, 2, 5, 6, 7, 8, 9, 27, 28, 31, 32, 33] (.seq (.reg [] false [⟨0, (some 34), (.bin .lss (.t 33) (.t 32)), none⟩]) (.seq (.cond (.t 34) .skip (.exit
  4)) (.seq (.block 5 (.seq (.reg [] false [⟨0, (some 35), (.idx 1 (.t 31) (.t 33)), none⟩, ⟨0, (some 36), (.load false 1 (.t 35)), none⟩, ⟨0, (some 11), (.mv
  (.t 36)), none⟩]) (.reg [] false [⟨0, (some 37), (.mv (.t 9)), none⟩, ⟨0, (some 38), (.mv (.t 37)), none⟩, ⟨0, (some 39), (.mv (.t 11)), (some (38, true))⟩,
  ⟨0, (some 40), (.mv (.t 8)), (some (38, true))⟩, ⟨0, (some 41), (.bin .neq (.t 39) (.t 40)), (some (38, true))⟩, ⟨0, (some 42), (.pick (.t 38) (.t 41) (.c
  (.bool false))), none⟩, ⟨0, (some 9), (.mv (.t 42)), none⟩]))) (.reg [] false [⟨0, (some 43), (.bin .add (.t 33) (.c (.int .i64 1))), none⟩, ⟨0, (some 33),
  (.mv (.t 43)), none⟩])))))
def x40l1 : XCode :=
  (.loop [1, 2, 5, 6, 7, 8, 9, 12, 13, 27, 28, 46, 47, 50, 51, 52] (.seq (.reg [] false [⟨0, (some 53), (.bin .lss (.t 52) (.t 51)), none⟩]) (.seq (.cond (.t
  53) .skip (.exit 8)) (.seq (.block 9 (.seq (.reg [] false [⟨0, (some 54), (.idx 1 (.t 50) (.t 52)), none⟩, ⟨0, (some 55), (.load false 1 (.t 54)), none⟩,
  ⟨0, (some 15), (.mv (.t 55)), none⟩]) (.reg [] false [⟨0, (some 56), (.mv (.t 13)), none⟩, ⟨0, (some 57), (.mv (.t 56)), none⟩, ⟨0, (some 58), (.mv (.t
  15)), (some (57, false))⟩, ⟨0, (some 59), (.mv (.t 12)), (some (57, false))⟩, ⟨0, (some 60), (.bin .eql (.t 58) (.t 59)), (some (57, false))⟩, ⟨0, (some
  61), (.pick (.t 57) (.c (.bool true)) (.t 60)), none⟩, ⟨0, (some 13), (.mv (.t 61)), none⟩]))) (.reg [] false [⟨0, (some 62), (.bin .add (.t 52) (.c (.int
  .i64 1))), none⟩, ⟨0, (some 52), (.mv (.t 62)), none⟩])))))
def x40l2 : XCode :=
  (.loop [1, 2, 5, 6, 7, 8, 9, 27, 28, 46, 47] (.seq (.reg [] false [⟨0, (some 48), (.bin .lss (.t 47) (.t 46)), none⟩]) (.seq (.cond (.t 48) .skip (.exit 6))
  (.seq (.block 7 (.seq (.reg [] false [⟨0, (some 49), (.mv (.t 47)), none⟩, ⟨0, (some 12), (.mv (.t 49)), none⟩]) (.seq (.reg [] false [⟨0, (some 13), (.mv
  (.c (.bool false))), none⟩]) (.seq (.seq (.reg [] false [⟨0, (some 50), (.mv (.t 5)), none⟩, ⟨0, (some 51), (.len false (.t 50)), none⟩, ⟨0, (some 52), (.mv
  (.c (.int .i64 0))), none⟩]) (.block 8 x40l1)) (.reg [(2, true)] false [⟨0, (some 63), (.mv (.t 9)), none⟩, ⟨0, (some 64), (.mv (.t 63)), none⟩, ⟨0, (some
  65), (.mv (.t 13)), (some (64, true))⟩, ⟨0, (some 66), (.mv (.t 65)), (some (64, true))⟩, ⟨0, (some 67), (.load true 5 (.t 2)), (some (66, false))⟩, ⟨0,
  (some 68), (.mv (.t 8)), (some (66, false))⟩, ⟨0, (some 69), (.mv (.t 12)), (some (66, false))⟩, ⟨0, (some 70), (.callf false (.c (.fn (.func 92) [] []))
  [(.t 67), (.t 68), (.t 69)] []), (some (66, false))⟩, ⟨0, (some 71), (.not (.t 70)), (some (66, false))⟩, ⟨0, (some 72), (.pick (.t 66) (.c (.bool true))
  (.t 71)), (some (64, true))⟩, ⟨0, (some 73), (.pick (.t 64) (.t 72) (.c (.bool false))), none⟩, ⟨0, (some 9), (.mv (.t 73)), none⟩]))))) (.reg [] false [⟨0,
  (some 74), (.bin .add (.t 47) (.c (.int .i64 1))), none⟩, ⟨0, (some 47), (.mv (.t 74)), none⟩])))))
def x40l3 : XCode :=
  (.loop [1, 2, 5, 6, 7, 27, 28] (.seq (.reg [] false [⟨0, (some 29), (.bin .lss (.t 28) (.t 27)), none⟩]) (.seq (.cond (.t 29) .skip (.exit 2)) (.seq (.block 3
  (.seq (.reg [] false [⟨0, (some 30), (.mv (.t 28)), none⟩, ⟨0, (some 8), (.mv (.t 30)), none⟩]) (.seq (.reg [] false [⟨0, (some 9), (.mv (.c (.bool true))),
  none⟩]) (.seq (.seq (.reg [] false [⟨0, (some 31), (.mv (.t 5)), none⟩, ⟨0, (some 32), (.len false (.t 31)), none⟩, ⟨0, (some 33), (.mv (.c (.int .i64 0))),
  none⟩]) (.block 4 x40l0)) (.seq (.seq (.reg [] false [⟨0, (some 44), (.fld 1 (.t 2)), none⟩, ⟨0, (some 45), (.load false 1 (.t 44)), none⟩, ⟨0, (some 46),
  (.len false (.t 45)), none⟩, ⟨0, (some 47), (.mv (.c (.int .i64 0))), none⟩]) (.block 6 x40l2)) (.seq (.reg [] false [⟨0, (some 75), (.mv (.t 9)), none⟩])
  (.cond (.t 75) (.reg [] false [⟨0, (some 76), (.mv (.t 7)), none⟩, ⟨0, (some 77), (.mv (.t 8)), none⟩, ⟨0, (some 78), (.bslice 1 1 [(.int .i64 0)] [(0, (1,
  (.t 77)))]), none⟩, ⟨0, (some 79), (.app 1 8 (.t 76) (.t 78)), none⟩, ⟨0, (some 7), (.mv (.t 79)), none⟩]) .skip))))))) (.reg [] false [⟨0, (some 80), (.bin
  .add (.t 28) (.c (.int .i64 1))), none⟩, ⟨0, (some 28), (.mv (.t 80)), none⟩])))))
def x40l4 : XCode :=
  (.loop [1, 2, 5, 6] (.seq (.seq (.reg [] false [⟨0, (some 17), (.mv (.t 5)), none⟩, ⟨0, (some 18), (.len false (.t 17)), none⟩, ⟨0, (some 19), (.fld 1 (.t
  2)), none⟩, ⟨0, (some 20), (.load false 1 (.t 19)), none⟩, ⟨0, (some 21), (.len false (.t 20)), none⟩, ⟨0, (some 22), (.bin .lss (.t 18) (.t 21)), none⟩])
  (.cond (.t 22) .skip (.exit 0))) (.seq (.block 1 (.seq (.reg [] false [⟨0, (some 7), (.mv (.c .nilsl)), none⟩]) (.seq (.seq (.reg [] false [⟨0, (some 25),
  (.fld 1 (.t 2)), none⟩, ⟨0, (some 26), (.load false 1 (.t 25)), none⟩, ⟨0, (some 27), (.len false (.t 26)), none⟩, ⟨0, (some 28), (.mv (.c (.int .i64 0))),
  none⟩]) (.block 2 x40l3)) (.seq (.seq (.reg [] false [⟨0, (some 81), (.mv (.t 7)), none⟩, ⟨0, (some 82), (.len false (.t 81)), none⟩, ⟨0, (some 83), (.bin
  .eql (.t 82) (.c (.int .i64 0))), none⟩]) (.cond (.t 83) (.seq (.reg [] false [⟨0, (some 4), (.mv (.c .nilsl)), none⟩]) .ret) .skip)) (.seq (.reg [] false
  [⟨0, (some 16), (.mv (.c (.int .i64 0))), none⟩]) (.seq (.seq (.reg [] false [⟨0, (some 84), (.mv (.t 6)), none⟩, ⟨0, (some 85), (.mv (.t 1)), none⟩, ⟨0,
  (some 86), (.len false (.t 85)), none⟩, ⟨0, (some 87), (.bin .lss (.t 84) (.t 86)), none⟩]) (.cond (.t 87) (.reg [] false [⟨0, (some 88), (.mv (.t 1)),
  none⟩, ⟨0, (some 89), (.mv (.t 6)), none⟩, ⟨0, (some 90), (.idx 1 (.t 88) (.t 89)), none⟩, ⟨0, (some 91), (.load false 1 (.t 90)), none⟩, ⟨0, (some 92),
  (.conv .i64 (.t 91)), none⟩, ⟨0, (some 93), (.mv (.t 7)), none⟩, ⟨0, (some 94), (.len false (.t 93)), none⟩, ⟨0, (some 95), (.bin .rem (.t 92) (.t 94)),
  none⟩, ⟨0, (some 16), (.mv (.t 95)), none⟩]) .skip)) (.reg [] false [⟨0, (some 96), (.mv (.t 5)), none⟩, ⟨0, (some 97), (.mv (.t 7)), none⟩, ⟨0, (some 98),
  (.mv (.t 16)), none⟩, ⟨0, (some 99), (.idx 1 (.t 97) (.t 98)), none⟩, ⟨0, (some 100), (.load false 1 (.t 99)), none⟩, ⟨0, (some 101), (.bslice 1 1 [(.int
  .i64 0)] [(0, (1, (.t 100)))]), none⟩, ⟨0, (some 102), (.app 1 8 (.t 96) (.t 101)), none⟩, ⟨0, (some 5), (.mv (.t 102)), none⟩]))))))) (.reg [] false [⟨0,
  (some 23), (.mv (.t 6)), none⟩, ⟨0, (some 24), (.bin .add (.t 23) (.c (.int .i64 1))), none⟩, ⟨0, (some 6), (.mv (.t 24)), none⟩]))))
/-- zafra/zafralaw04.order -/
def x40 : XFn := ⟨104, [(4, none)], false, false,
  (.seq (.reg [] false [⟨0, (some 2), (.box (.t 0)), none⟩, ⟨0, (some 4), (.mv (.c .nilsl)), none⟩]) (.seq (.reg [] false [⟨0, (some 5), (.mv (.c .nilsl)),
  none⟩]) (.seq (.seq (.reg [] false [⟨0, (some 6), (.mv (.c (.int .i64 0))), none⟩]) (.block 0 x40l4)) (.seq (.reg [] false [⟨0, (some 103), (.mv (.t 5)),
  none⟩, ⟨0, (some 4), (.mv (.t 103)), none⟩]) .ret))))⟩
theorem is40 : FnIs prog 40 x40.fn := ⟨fun vs w => call40 vs w, _, _, func40, rfl, rfl, by kernel_rfl, by kernel_rfl⟩
theorem ok40 : okX x40.body = true := by kernel_rfl
theorem st40 : sitesP x40 x40.body := (sitesP_of rfl)

def x41l0 : XCode :=
  (.loop [2, 5, 6, 13, 14, 15] (.seq (.reg [] false [⟨0, (some 16), (.bin .lss (.t 15) (.t 14)), none⟩]) (.seq (.cond (.t 16) .skip (.exit 0)) (.seq (.block 1
  (.seq (.reg [] false [⟨0, (some 17), (.idx 1 (.t 13) (.t 15)), none⟩, ⟨0, (some 18), (.load false 1 (.t 17)), none⟩, ⟨0, (some 8), (.mv (.t 18)), none⟩])
  (.seq (.reg [] false [⟨0, (some 19), (.fld 1 (.t 2)), none⟩, ⟨0, (some 20), (.load false 1 (.t 19)), none⟩, ⟨0, (some 21), (.mv (.t 8)), none⟩, ⟨0, (some
  22), (.idx 5 (.t 20) (.t 21)), none⟩, ⟨0, (some 23), (.load true 5 (.t 22)), none⟩, ⟨0, (some 9), (.alloc [(.int .i64 0), (.int .i64 0), (.int .i64 0),
  (.int .i64 0), (.int .i64 0)]), none⟩, ⟨0, none, (.store 5 (.t 9) (.t 23) []), none⟩]) (.seq (.reg [] false [⟨0, (some 24), (.mv (.t 6)), none⟩, ⟨0, (some
  25), (.fld 3 (.t 9)), none⟩, ⟨0, (some 26), (.fld 1 (.t 25)), none⟩, ⟨0, (some 27), (.load false 1 (.t 26)), none⟩, ⟨0, (some 28), (.bin .add (.t 24) (.t
  27)), none⟩, ⟨0, (some 6), (.mv (.t 28)), none⟩]) (.reg [] true [⟨0, (some 29), (.mv (.t 5)), none⟩, ⟨1, (some 30), (.fld 0 (.t 2)), none⟩, ⟨2, (some 31),
  (.load false 1 (.t 30)), none⟩, ⟨3, (some 32), (.fld 0 (.t 9)), none⟩, ⟨4, (some 33), (.load false 1 (.t 32)), none⟩, ⟨5, (some 34), (.idx 1 (.t 31) (.t
  33)), none⟩, ⟨6, (some 35), (.load false 1 (.t 34)), none⟩, ⟨7, (some 36), (.fld 1 (.t 9)), none⟩, ⟨8, (some 37), (.fld 1 (.t 36)), none⟩, ⟨9, (some 38),
  (.load false 1 (.t 37)), none⟩, ⟨10, (some 39), (.mv (.t 6)), none⟩, ⟨11, (some 40), (.bin .add (.t 38) (.t 39)), none⟩, ⟨12, (some 41), (.callf false (.c
  (.fn (.func 43) [] [])) [(.t 35), (.t 40)] []), none⟩, ⟨13, (some 42), (.mm true (.t 29) (.t 41)), none⟩, ⟨14, (some 5), (.mv (.t 42)), none⟩]))))) (.reg []
  false [⟨0, (some 43), (.bin .add (.t 15) (.c (.int .i64 1))), none⟩, ⟨0, (some 15), (.mv (.t 43)), none⟩])))))
/-- zafra/zafralaw04.sourest -/
def x41 : XFn := ⟨45, [(4, none)], false, false,
  (.seq (.reg [] false [⟨0, (some 2), (.box (.t 0)), none⟩, ⟨0, (some 4), (.mv (.c (.int .i64 0))), none⟩]) (.seq (.reg [] true [⟨0, (some 10), (.fld 3 (.t 2)),
  none⟩, ⟨1, (some 11), (.fld 1 (.t 10)), none⟩, ⟨2, (some 12), (.load false 1 (.t 11)), none⟩, ⟨3, (some 5), (.mv (.c (.int .i64 0))), none⟩, ⟨4, (some 6),
  (.mv (.t 12)), none⟩]) (.seq (.seq (.reg [] false [⟨0, (some 13), (.mv (.t 1)), none⟩, ⟨0, (some 14), (.len false (.t 13)), none⟩, ⟨0, (some 15), (.mv (.c
  (.int .i64 0))), none⟩]) (.block 0 x41l0)) (.seq (.reg [] false [⟨0, (some 44), (.mv (.t 5)), none⟩, ⟨0, (some 4), (.mv (.t 44)), none⟩]) .ret))))⟩
theorem is41 : FnIs prog 41 x41.fn := ⟨fun vs w => call41 vs w, _, _, func41, rfl, rfl, by kernel_rfl, by kernel_rfl⟩
theorem ok41 : okX x41.body = true := by kernel_rfl
theorem st41 : sitesP x41 x41.body := (sitesP_of rfl)

/-- zafra/zafralaw04.SourTruth$1 -/
def x42 : XFn := ⟨29, [(5, none)], false, false,
  (.seq (.reg [] false [⟨0, (some 4), (.box (.t 1)), none⟩, ⟨0, (some 5), (.mv (.c (.int .i64 0))), none⟩]) (.seq (.seq (.reg [] false [⟨0, (some 6), (.load
  false 1 (.t 2)), none⟩, ⟨0, (some 7), (.len false (.t 6)), none⟩, ⟨0, (some 8), (.bin .eql (.t 7) (.c (.int .i64 0))), none⟩]) (.cond (.t 8) (.seq (.reg []
  false [⟨0, (some 9), (.fld 0 (.t 4)), none⟩, ⟨0, (some 10), (.load false 1 (.t 9)), none⟩, ⟨0, (some 5), (.mv (.t 10)), none⟩]) .ret) .skip)) (.seq (.reg []
  true [⟨0, (some 11), (.fld 0 (.t 4)), none⟩, ⟨1, (some 12), (.load false 1 (.t 11)), none⟩, ⟨2, (some 13), (.load false 1 (.t 2)), none⟩, ⟨3, (some 14),
  (.mv (.t 0)), none⟩, ⟨4, (some 15), (.load false 1 (.t 2)), none⟩, ⟨5, (some 16), (.len false (.t 15)), none⟩, ⟨6, (some 17), (.bin .rem (.t 14) (.t 16)),
  none⟩, ⟨7, (some 18), (.idx 1 (.t 13) (.t 17)), none⟩, ⟨8, (some 19), (.load false 1 (.t 18)), none⟩, ⟨9, (some 20), (.conv .i64 (.t 19)), none⟩, ⟨10, (some
  21), (.fld 1 (.t 4)), none⟩, ⟨11, (some 22), (.load false 1 (.t 21)), none⟩, ⟨12, (some 23), (.fld 0 (.t 4)), none⟩, ⟨13, (some 24), (.load false 1 (.t
  23)), none⟩, ⟨14, (some 25), (.bin .sub (.t 22) (.t 24)), none⟩, ⟨15, (some 26), (.bin .add (.t 25) (.c (.int .i64 1))), none⟩, ⟨16, (some 27), (.bin .rem
  (.t 20) (.t 26)), none⟩, ⟨17, (some 28), (.bin .add (.t 12) (.t 27)), none⟩, ⟨18, (some 5), (.mv (.t 28)), none⟩]) .ret)))⟩
theorem is42 : FnIs prog 42 x42.fn := ⟨fun vs w => call42 vs w, _, _, func42, rfl, rfl, by kernel_rfl, by kernel_rfl⟩
theorem ok42 : okX x42.body = true := by kernel_rfl
theorem st42 : sitesP x42 x42.body := (sitesP_of rfl)

def x43l0 : XCode :=
  (.loop [1, 5, 8, 9, 10] (.seq (.reg [] false [⟨0, (some 11), (.bin .lss (.t 10) (.t 9)), none⟩]) (.seq (.cond (.t 11) .skip (.exit 0)) (.seq (.block 1 (.seq
  (.reg [] false [⟨0, (some 12), (.idx 2 (.t 8) (.t 10)), none⟩, ⟨0, (some 13), (.load true 2 (.t 12)), none⟩, ⟨0, (some 7), (.alloc [(.int .i64 0), (.int
  .i64 0)]), none⟩, ⟨0, none, (.store 2 (.t 7) (.t 13) []), none⟩]) (.seq (.reg [] false [⟨0, (some 14), (.mv (.t 1)), none⟩, ⟨0, (some 15), (.fld 0 (.t 7)),
  none⟩, ⟨0, (some 16), (.load false 1 (.t 15)), none⟩, ⟨0, (some 17), (.bin .geq (.t 14) (.t 16)), none⟩]) (.cond (.t 17) (.reg [] false [⟨0, (some 18),
  (.fld 1 (.t 7)), none⟩, ⟨0, (some 19), (.load false 1 (.t 18)), none⟩, ⟨0, (some 5), (.mv (.t 19)), none⟩]) .skip)))) (.reg [] false [⟨0, (some 20), (.bin
  .add (.t 10) (.c (.int .i64 1))), none⟩, ⟨0, (some 10), (.mv (.t 20)), none⟩])))))
/-- zafra/zafralaw04.at -/
def x43 : XFn := ⟨22, [(4, none)], false, false,
  (.seq (.reg [] false [⟨0, (some 4), (.mv (.c (.int .i64 0))), none⟩]) (.seq (.reg [] false [⟨0, (some 5), (.mv (.c (.int .i64 0))), none⟩]) (.seq (.seq (.reg
  [] false [⟨0, (some 8), (.mv (.t 0)), none⟩, ⟨0, (some 9), (.len false (.t 8)), none⟩, ⟨0, (some 10), (.mv (.c (.int .i64 0))), none⟩]) (.block 0 x43l0))
  (.seq (.reg [] false [⟨0, (some 21), (.mv (.t 5)), none⟩, ⟨0, (some 4), (.mv (.t 21)), none⟩]) .ret))))⟩
theorem is43 : FnIs prog 43 x43.fn := ⟨fun vs w => call43 vs w, _, _, func43, rfl, rfl, by kernel_rfl, by kernel_rfl⟩
theorem ok43 : okX x43.body = true := by kernel_rfl
theorem st43 : sitesP x43 x43.body := (sitesP_of rfl)

/-- zafra/zafralaw04.span -/
def x44 : XFn := ⟨8, [(4, (some (true, 2)))], false, false,
  (.seq (.reg [] false [⟨0, (some 4), (.alloc [(.int .i64 0), (.int .i64 0)]), none⟩]) (.seq (.reg [] false [⟨0, (some 5), (.mv (.t 0)), none⟩, ⟨0, (some 6),
  (.mv (.t 1)), none⟩, ⟨0, (some 7), (.build [(.int .i64 0), (.int .i64 0)] [(0, (1, (.t 5))), (1, (1, (.t 6)))]), none⟩, ⟨0, none, (.store 2 (.t 4) (.t 7)
  []), none⟩]) .ret))⟩
theorem is44 : FnIs prog 44 x44.fn := ⟨fun vs w => call44 vs w, _, _, func44, rfl, rfl, by kernel_rfl, by kernel_rfl⟩
theorem ok44 : okX x44.body = true := by kernel_rfl
theorem st44 : sitesP x44 x44.body := (sitesP_of rfl)

def x45l0 : XCode :=
  (.loop [1, 2, 5, 24, 25, 26] (.seq (.reg [] false [⟨0, (some 27), (.bin .lss (.t 26) (.t 25)), none⟩]) (.seq (.cond (.t 27) .skip (.exit 0)) (.seq (.block 1
  (.seq (.reg [] false [⟨0, (some 28), (.idx 1 (.t 24) (.t 26)), none⟩, ⟨0, (some 29), (.load false 1 (.t 28)), none⟩, ⟨0, (some 7), (.mv (.t 29)), none⟩])
  (.reg [] false [⟨0, (some 30), (.mv (.t 5)), none⟩, ⟨0, (some 31), (.mv (.t 7)), none⟩, ⟨0, (some 32), (.idx 1 (.t 30) (.t 31)), none⟩, ⟨0, none, (.store 1
  (.t 32) (.c (.bool true)) []), none⟩]))) (.reg [] false [⟨0, (some 33), (.bin .add (.t 26) (.c (.int .i64 1))), none⟩, ⟨0, (some 26), (.mv (.t 33)),
  none⟩])))))
def x45l1 : XCode :=
  (.loop [1, 2, 5, 8, 9, 10, 36, 37, 47, 48] (.seq (.reg [] false [⟨0, (some 49), (.bin .lss (.t 48) (.t 47)), none⟩]) (.seq (.cond (.t 49) .skip (.exit 4))
  (.seq (.block 5 (.seq (.reg [] false [⟨0, (some 50), (.mv (.t 48)), none⟩, ⟨0, (some 11), (.mv (.t 50)), none⟩]) (.reg [(2, true)] false [⟨0, (some 51),
  (.mv (.t 10)), none⟩, ⟨0, (some 52), (.mv (.t 51)), none⟩, ⟨0, (some 53), (.mv (.t 5)), (some (52, true))⟩, ⟨0, (some 54), (.mv (.t 11)), (some (52,
  true))⟩, ⟨0, (some 55), (.idx 1 (.t 53) (.t 54)), (some (52, true))⟩, ⟨0, (some 56), (.load false 1 (.t 55)), (some (52, true))⟩, ⟨0, (some 57), (.mv (.t
  56)), (some (52, true))⟩, ⟨0, (some 58), (.load true 5 (.t 2)), (some (57, false))⟩, ⟨0, (some 59), (.mv (.t 9)), (some (57, false))⟩, ⟨0, (some 60), (.mv
  (.t 11)), (some (57, false))⟩, ⟨0, (some 61), (.callf false (.c (.fn (.func 92) [] [])) [(.t 58), (.t 59), (.t 60)] []), (some (57, false))⟩, ⟨0, (some 62),
  (.not (.t 61)), (some (57, false))⟩, ⟨0, (some 63), (.pick (.t 57) (.c (.bool true)) (.t 62)), (some (52, true))⟩, ⟨0, (some 64), (.pick (.t 52) (.t 63) (.c
  (.bool false))), none⟩, ⟨0, (some 10), (.mv (.t 64)), none⟩]))) (.reg [] false [⟨0, (some 65), (.bin .add (.t 48) (.c (.int .i64 1))), none⟩, ⟨0, (some 48),
  (.mv (.t 65)), none⟩])))))
def x45l2 : XCode :=
  (.loop [1, 2, 5, 8, 36, 37] (.seq (.reg [] false [⟨0, (some 38), (.bin .lss (.t 37) (.t 36)), none⟩]) (.seq (.cond (.t 38) .skip (.exit 2)) (.seq (.block 3
  (.seq (.reg [] false [⟨0, (some 39), (.mv (.t 37)), none⟩, ⟨0, (some 9), (.mv (.t 39)), none⟩]) (.seq (.reg [] false [⟨0, (some 40), (.mv (.t 5)), none⟩,
  ⟨0, (some 41), (.mv (.t 9)), none⟩, ⟨0, (some 42), (.idx 1 (.t 40) (.t 41)), none⟩, ⟨0, (some 43), (.load false 1 (.t 42)), none⟩, ⟨0, (some 44), (.not (.t
  43)), none⟩, ⟨0, (some 10), (.mv (.t 44)), none⟩]) (.seq (.seq (.reg [] false [⟨0, (some 45), (.fld 1 (.t 2)), none⟩, ⟨0, (some 46), (.load false 1 (.t
  45)), none⟩, ⟨0, (some 47), (.len false (.t 46)), none⟩, ⟨0, (some 48), (.mv (.c (.int .i64 0))), none⟩]) (.block 4 x45l1)) (.seq (.reg [] false [⟨0, (some
  66), (.mv (.t 10)), none⟩]) (.cond (.t 66) (.reg [(2, true)] true [⟨0, (some 67), (.mv (.t 8)), none⟩, ⟨1, (some 68), (.load true 5 (.t 2)), none⟩, ⟨2,
  (some 69), (.bslice 1 0 [(.int .i64 0)] []), none⟩, ⟨3, (some 70), (.mv (.t 1)), none⟩, ⟨4, (some 71), (.app 1 8 (.t 69) (.t 70)), none⟩, ⟨5, (some 72),
  (.mv (.t 9)), none⟩, ⟨6, (some 73), (.bslice 1 1 [(.int .i64 0)] [(0, (1, (.t 72)))]), none⟩, ⟨7, (some 74), (.app 1 8 (.t 71) (.t 73)), none⟩, ⟨8, (some
  75), (.callf false (.c (.fn (.func 45) [] [])) [(.t 68), (.t 74)] []), none⟩, ⟨9, (some 76), (.app 1 24 (.t 67) (.t 75)), none⟩, ⟨10, (some 8), (.mv (.t
  76)), none⟩]) .skip)))))) (.reg [] false [⟨0, (some 77), (.bin .add (.t 37) (.c (.int .i64 1))), none⟩, ⟨0, (some 37), (.mv (.t 77)), none⟩])))))
/-- zafra/zafralaw04.orders -/
def x45 : XFn := ⟨79, [(4, none)], false, false,
  (.seq (.reg [] false [⟨0, (some 2), (.box (.t 0)), none⟩, ⟨0, (some 4), (.mv (.c .nilsl)), none⟩]) (.seq (.seq (.reg [] false [⟨0, (some 12), (.mv (.t 1)),
  none⟩, ⟨0, (some 13), (.len false (.t 12)), none⟩, ⟨0, (some 14), (.fld 1 (.t 2)), none⟩, ⟨0, (some 15), (.load false 1 (.t 14)), none⟩, ⟨0, (some 16),
  (.len false (.t 15)), none⟩, ⟨0, (some 17), (.bin .eql (.t 13) (.t 16)), none⟩]) (.cond (.t 17) (.seq (.reg [(1, false)] false [⟨0, (some 18), (.mv (.t 1)),
  none⟩, ⟨0, (some 19), (.bslice 1 1 [.nilsl] [(0, (1, (.t 18)))]), none⟩, ⟨0, (some 4), (.mv (.t 19)), none⟩]) .ret) .skip)) (.seq (.reg [] false [⟨0, (some
  20), (.fld 1 (.t 2)), none⟩, ⟨0, (some 21), (.load false 1 (.t 20)), none⟩, ⟨0, (some 22), (.len false (.t 21)), none⟩, ⟨0, (some 23), (.mksl 1 1 [(.bool
  false)] (.t 22) (.t 22)), none⟩, ⟨0, (some 5), (.mv (.t 23)), none⟩]) (.seq (.seq (.reg [] false [⟨0, (some 24), (.mv (.t 1)), none⟩, ⟨0, (some 25), (.len
  false (.t 24)), none⟩, ⟨0, (some 26), (.mv (.c (.int .i64 0))), none⟩]) (.block 0 x45l0)) (.seq (.reg [] false [⟨0, (some 8), (.mv (.c .nilsl)), none⟩])
  (.seq (.seq (.reg [] false [⟨0, (some 34), (.fld 1 (.t 2)), none⟩, ⟨0, (some 35), (.load false 1 (.t 34)), none⟩, ⟨0, (some 36), (.len false (.t 35)),
  none⟩, ⟨0, (some 37), (.mv (.c (.int .i64 0))), none⟩]) (.block 2 x45l2)) (.seq (.reg [] false [⟨0, (some 78), (.mv (.t 8)), none⟩, ⟨0, (some 4), (.mv (.t
  78)), none⟩]) .ret)))))))⟩
theorem is45 : FnIs prog 45 x45.fn := ⟨fun vs w => call45 vs w, _, _, func45, rfl, rfl, by kernel_rfl, by kernel_rfl⟩
theorem ok45 : okX x45.body = true := by kernel_rfl
theorem st45 : sitesP x45 x45.body := (sitesP_of rfl)

/-- zafra/zafralaw04.SourDelay$1 -/
def x46 : XFn := ⟨22, [(4, none)], false, false,
  (.seq (.reg [] false [⟨0, (some 4), (.mv (.c (.int .i64 0))), none⟩]) (.seq (.reg [] false [⟨0, (some 6), (.load true 5 (.t 1)), none⟩, ⟨0, (some 5), (.alloc
  [.nilsl, .nilsl, .nilsl, (.int .i64 0), (.int .i64 0)]), none⟩, ⟨0, none, (.store 5 (.t 5) (.t 6) []), none⟩]) (.seq (.reg [] false [⟨0, (some 7), (.fld 3
  (.t 1)), none⟩, ⟨0, (some 8), (.fld 0 (.t 7)), none⟩, ⟨0, (some 9), (.load false 1 (.t 8)), none⟩, ⟨0, (some 10), (.mv (.t 0)), none⟩, ⟨0, (some 11), (.bin
  .add (.t 9) (.t 10)), none⟩, ⟨0, (some 12), (.fld 3 (.t 1)), none⟩, ⟨0, (some 13), (.fld 1 (.t 12)), none⟩, ⟨0, (some 14), (.load false 1 (.t 13)), none⟩,
  ⟨0, (some 15), (.mv (.t 0)), none⟩, ⟨0, (some 16), (.bin .add (.t 14) (.t 15)), none⟩, ⟨0, (some 17), (.callf false (.c (.fn (.func 44) [] [])) [(.t 11),
  (.t 16)] []), none⟩, ⟨0, (some 18), (.fld 3 (.t 5)), none⟩, ⟨0, none, (.store 2 (.t 18) (.t 17) []), none⟩]) (.seq (.reg [(5, true), (2, true)] false [⟨0,
  (some 19), (.load true 5 (.t 5)), none⟩, ⟨0, (some 20), (.load false 1 (.t 2)), none⟩, ⟨0, (some 21), (.callf false (.c (.fn (.func 41) [] [])) [(.t 19),
  (.t 20)] []), none⟩, ⟨0, (some 4), (.mv (.t 21)), none⟩]) .ret))))⟩
theorem is46 : FnIs prog 46 x46.fn := ⟨fun vs w => call46 vs w, _, _, func46, rfl, rfl, by kernel_rfl, by kernel_rfl⟩
theorem ok46 : okX x46.body = true := by kernel_rfl
theorem st46 : sitesP x46 x46.body := (sitesP_of rfl)

/-- zafra/zafralaw04.SourNumbers$1 -/
def x47 : XFn := ⟨11, [(4, none)], false, false,
  (.seq (.reg [] false [⟨0, (some 4), (.mv (.c (.int .i64 0))), none⟩]) (.seq (.reg [] false [⟨0, (some 5), (.mv (.t 0)), none⟩, ⟨0, (some 6), (.load false 1
  (.t 1)), none⟩, ⟨0, (some 7), (.conv .i64 (.t 6)), none⟩, ⟨0, (some 8), (.bin .add (.t 5) (.t 7)), none⟩, ⟨0, (some 9), (.load false 1 (.t 2)), none⟩, ⟨0,
  (some 10), (.bin .rem (.t 8) (.t 9)), none⟩, ⟨0, (some 4), (.mv (.t 10)), none⟩]) .ret))⟩
theorem is47 : FnIs prog 47 x47.fn := ⟨fun vs w => call47 vs w, _, _, func47, rfl, rfl, by kernel_rfl, by kernel_rfl⟩
theorem ok47 : okX x47.body = true := by kernel_rfl
theorem st47 : sitesP x47 x47.body := (sitesP_of rfl)

/-- zafra/zafralaw04.L -/
def x48 : XFn := ⟨25, [(2, (some (true, 5)))], false, false,
  (.seq (.reg [] false [⟨0, (some 2), (.alloc [.nilsl, .nilsl, .nilsl, (.int .i64 0), (.int .i64 0)]), none⟩]) (.seq (.reg [] false [⟨0, (some 3), (.build
  [(.int .i64 0), (.int .i64 0)] [(0, (1, (.c (.int .i64 0)))), (1, (1, (.c (.int .i64 10))))]), none⟩, ⟨0, (some 4), (.build [(.int .i64 0), (.int .i64 0)]
  [(0, (1, (.c (.int .i64 600)))), (1, (1, (.c (.int .i64 20))))]), none⟩, ⟨0, (some 5), (.build [(.int .i64 0), (.int .i64 0)] [(0, (1, (.c (.int .i64
  900)))), (1, (1, (.c (.int .i64 50))))]), none⟩, ⟨0, (some 6), (.build [(.int .i64 0), (.int .i64 0)] [(0, (1, (.c (.int .i64 1000)))), (1, (1, (.c (.int
  .i64 90))))]), none⟩, ⟨0, (some 7), (.bslice 2 4 [(.int .i64 0), (.int .i64 0)] [(0, (2, (.t 3))), (2, (2, (.t 4))), (4, (2, (.t 5))), (6, (2, (.t 6)))]),
  none⟩, ⟨0, (some 8), (.build [(.int .i64 0), (.int .i64 0)] [(0, (1, (.c (.int .i64 900)))), (1, (1, (.c (.int .i64 10))))]), none⟩, ⟨0, (some 9), (.build
  [(.int .i64 0), (.int .i64 0)] [(0, (1, (.c (.int .i64 1800)))), (1, (1, (.c (.int .i64 30))))]), none⟩, ⟨0, (some 10), (.bslice 2 2 [(.int .i64 0), (.int
  .i64 0)] [(0, (2, (.t 8))), (2, (2, (.t 9)))]), none⟩, ⟨0, (some 11), (.bslice 1 2 [.nilsl] [(0, (1, (.t 7))), (1, (1, (.t 10)))]), none⟩, ⟨0, (some 12),
  (.callf false (.c (.fn (.func 50) [] [])) [(.c (.int .i64 300))] []), none⟩, ⟨0, (some 13), (.callf false (.c (.fn (.func 44) [] [])) [(.c (.int .i64 100)),
  (.c (.int .i64 200))] []), none⟩, ⟨0, (some 14), (.build [(.int .i64 0), (.int .i64 0), (.int .i64 0), (.int .i64 0), (.int .i64 0)] [(0, (1, (.c (.int .i64
  0)))), (1, (2, (.t 12))), (3, (2, (.t 13)))]), none⟩, ⟨0, (some 15), (.callf false (.c (.fn (.func 44) [] [])) [(.c (.int .i64 700)), (.c (.int .i64 800))]
  []), none⟩, ⟨0, (some 16), (.callf false (.c (.fn (.func 50) [] [])) [(.c (.int .i64 200))] []), none⟩, ⟨0, (some 17), (.build [(.int .i64 0), (.int .i64
  0), (.int .i64 0), (.int .i64 0), (.int .i64 0)] [(0, (1, (.c (.int .i64 1)))), (1, (2, (.t 15))), (3, (2, (.t 16)))]), none⟩, ⟨0, (some 18), (.callf false
  (.c (.fn (.func 44) [] [])) [(.c (.int .i64 500)), (.c (.int .i64 600))] []), none⟩, ⟨0, (some 19), (.callf false (.c (.fn (.func 50) [] [])) [(.c (.int
  .i64 100))] []), none⟩, ⟨0, (some 20), (.build [(.int .i64 0), (.int .i64 0), (.int .i64 0), (.int .i64 0), (.int .i64 0)] [(0, (1, (.c (.int .i64 0)))),
  (1, (2, (.t 18))), (3, (2, (.t 19)))]), none⟩, ⟨0, (some 21), (.bslice 5 3 [(.int .i64 0), (.int .i64 0), (.int .i64 0), (.int .i64 0), (.int .i64 0)] [(0,
  (5, (.t 14))), (5, (5, (.t 17))), (10, (5, (.t 20)))]), none⟩, ⟨0, (some 22), (.mv (.t 0)), none⟩, ⟨0, (some 23), (.callf false (.c (.fn (.func 44) [] []))
  [(.c (.int .i64 0)), (.c (.int .i64 30))] []), none⟩, ⟨0, (some 24), (.build [.nilsl, .nilsl, .nilsl, (.int .i64 0), (.int .i64 0)] [(0, (1, (.t 11))), (1,
  (1, (.t 21))), (2, (1, (.t 22))), (3, (2, (.t 23)))]), none⟩, ⟨0, none, (.store 5 (.t 2) (.t 24) []), none⟩]) .ret))⟩
theorem is48 : FnIs prog 48 x48.fn := ⟨fun vs w => call48 vs w, _, _, func48, rfl, rfl, by kernel_rfl, by kernel_rfl⟩
theorem ok48 : okX x48.body = true := by kernel_rfl
theorem st48 : sitesP x48 x48.body := (sitesP_of rfl)

/-- zafra/zafralaw04.two -/
def x49 : XFn := ⟨4, [(0, none)], false, false,
  (.seq (.reg [] false [⟨0, (some 0), (.mv (.c .nilsl)), none⟩]) (.seq (.reg [] false [⟨0, (some 1), (.bslice 1 2 [(.int .i64 0)] [(0, (1, (.c (.int .i64 0)))),
  (1, (1, (.c (.int .i64 2))))]), none⟩, ⟨0, (some 2), (.bslice 1 1 [(.int .i64 0)] [(0, (1, (.c (.int .i64 1))))]), none⟩, ⟨0, (some 3), (.bslice 1 2
  [.nilsl] [(0, (1, (.t 1))), (1, (1, (.t 2)))]), none⟩, ⟨0, (some 0), (.mv (.t 3)), none⟩]) .ret))⟩
theorem is49 : FnIs prog 49 x49.fn := ⟨fun vs w => call49 vs w, _, _, func49, rfl, rfl, by kernel_rfl, by kernel_rfl⟩
theorem ok49 : okX x49.body = true := by kernel_rfl
theorem st49 : sitesP x49 x49.body := (sitesP_of rfl)

/-- zafra/zafralaw04.point -/
def x50 : XFn := ⟨6, [(2, (some (true, 2)))], false, false,
  (.seq (.reg [] false [⟨0, (some 2), (.alloc [(.int .i64 0), (.int .i64 0)]), none⟩]) (.seq (.reg [(0, false)] false [⟨0, (some 3), (.mv (.t 0)), none⟩, ⟨0,
  (some 4), (.mv (.t 0)), none⟩, ⟨0, (some 5), (.callf false (.c (.fn (.func 44) [] [])) [(.t 3), (.t 4)] []), none⟩, ⟨0, none, (.store 2 (.t 2) (.t 5) []),
  none⟩]) .ret))⟩
theorem is50 : FnIs prog 50 x50.fn := ⟨fun vs w => call50 vs w, _, _, func50, rfl, rfl, by kernel_rfl, by kernel_rfl⟩
theorem ok50 : okX x50.body = true := by kernel_rfl
theorem st50 : sitesP x50 x50.body := (sitesP_of rfl)

/-- zafra/zafralaw04.single -/
def x51 : XFn := ⟨5, [(0, none)], false, false,
  (.seq (.reg [] false [⟨0, (some 0), (.mv (.c .nilsl)), none⟩]) (.seq (.reg [] false [⟨0, (some 1), (.bslice 1 1 [(.int .i64 0)] [(0, (1, (.c (.int .i64
  0))))]), none⟩, ⟨0, (some 2), (.bslice 1 1 [(.int .i64 0)] [(0, (1, (.c (.int .i64 1))))]), none⟩, ⟨0, (some 3), (.bslice 1 1 [(.int .i64 0)] [(0, (1, (.c
  (.int .i64 2))))]), none⟩, ⟨0, (some 4), (.bslice 1 3 [.nilsl] [(0, (1, (.t 1))), (1, (1, (.t 2))), (2, (1, (.t 3)))]), none⟩, ⟨0, (some 0), (.mv (.t 4)),
  none⟩]) .ret))⟩
theorem is51 : FnIs prog 51 x51.fn := ⟨fun vs w => call51 vs w, _, _, func51, rfl, rfl, by kernel_rfl, by kernel_rfl⟩
theorem ok51 : okX x51.body = true := by kernel_rfl
theorem st51 : sitesP x51 x51.body := (sitesP_of rfl)

def x52l0 : XCode :=
  (.loop [5, 8, 21, 22, 23, 27, 28, 29] (.seq (.reg [] false [⟨0, (some 30), (.bin .lss (.t 29) (.t 28)), none⟩]) (.seq (.cond (.t 30) .skip (.exit 2)) (.seq
  (.block 3 (.seq (.reg [] false [⟨0, (some 31), (.idx 1 (.t 27) (.t 29)), none⟩, ⟨0, (some 32), (.load false 1 (.t 31)), none⟩, ⟨0, (some 10), (.mv (.t 32)),
  none⟩]) (.seq (.reg [] false [⟨0, (some 33), (.mv (.t 5)), none⟩, ⟨0, (some 34), (.mv (.t 10)), none⟩, ⟨0, (some 35), (.mv (.t 8)), none⟩, ⟨0, (some 36),
  (.nilck (.t 33)), none⟩, ⟨0, (some 37), (.fld 5 (.t 36)), none⟩, ⟨0, (some 38), (.idxa 10 1 (.t 37) (.t 34)), none⟩, ⟨0, none, (.store 1 (.t 38) (.t 35)
  []), none⟩]) (.reg [] false [⟨0, (some 39), (.mv (.t 8)), none⟩, ⟨0, (some 40), (.mv (.t 10)), none⟩, ⟨0, (some 41), (.bin .shl (.c (.int .u64 1)) (.t 40)),
  none⟩, ⟨0, (some 42), (.bin .or (.t 39) (.t 41)), none⟩, ⟨0, (some 8), (.mv (.t 42)), none⟩])))) (.reg [] false [⟨0, (some 43), (.bin .add (.t 29) (.c (.int
  .i64 1))), none⟩, ⟨0, (some 29), (.mv (.t 43)), none⟩])))))
def x52l1 : XCode :=
  (.loop [5, 21, 22, 23] (.seq (.reg [] false [⟨0, (some 24), (.bin .lss (.t 23) (.t 22)), none⟩]) (.seq (.cond (.t 24) .skip (.exit 0)) (.seq (.block 1 (.seq
  (.reg [] false [⟨0, (some 25), (.idx 1 (.t 21) (.t 23)), none⟩, ⟨0, (some 26), (.load false 1 (.t 25)), none⟩, ⟨0, (some 7), (.mv (.t 26)), none⟩]) (.seq
  (.reg [] false [⟨0, (some 8), (.mv (.c (.int .u64 0))), none⟩]) (.seq (.reg [] false [⟨0, (some 27), (.mv (.t 7)), none⟩, ⟨0, (some 28), (.len false (.t
  27)), none⟩, ⟨0, (some 29), (.mv (.c (.int .i64 0))), none⟩]) (.block 2 x52l0))))) (.reg [] false [⟨0, (some 44), (.bin .add (.t 23) (.c (.int .i64 1))),
  none⟩, ⟨0, (some 23), (.mv (.t 44)), none⟩])))))
/-- (zafra/sour.Line).yard -/
def x52 : XFn := ⟨46, [(2, none), (3, none)], false, false,
  (.seq (.reg [] false [⟨0, (some 1), (.box (.t 0)), none⟩, ⟨0, (some 2), (.mv (.c .nilpt)), none⟩, ⟨0, (some 3), (.mv (.c (.int .i64 0))), none⟩]) (.seq (.seq
  (.reg [(1, true)] false [⟨0, (some 11), (.load true 5 (.t 1)), none⟩, ⟨0, (some 12), (.callf false (.c (.fn (.func 22) [] [])) [(.t 11)] []), none⟩, ⟨0,
  (some 4), (.mv (.t 12)), none⟩]) (.seq (.reg [] false [⟨0, (some 13), (.mv (.t 4)), none⟩, ⟨0, (some 14), (.bin .neq (.t 13) (.c (.int .i64 0))), none⟩])
  (.cond (.t 14) (.seq (.reg [] false [⟨0, (some 15), (.mv (.t 4)), none⟩, ⟨0, (some 2), (.mv (.c .nilpt)), none⟩, ⟨0, (some 3), (.mv (.t 15)), none⟩]) .ret)
  .skip))) (.seq (.reg [] false [⟨0, (some 16), (.load true 5 (.t 1)), none⟩, ⟨0, (some 17), .mkmap, none⟩, ⟨0, (some 18), (.build [.nilsl, .nilsl, .nilsl,
  (.int .i64 0), (.int .i64 0), (.int .u64 0), (.int .u64 0), (.int .u64 0), (.int .u64 0), (.int .u64 0), (.int .u64 0), (.int .u64 0), (.int .u64 0), (.int
  .u64 0), (.int .u64 0), .nilmap] [(0, (5, (.t 16))), (15, (1, (.t 17)))]), none⟩, ⟨0, (some 19), (.box (.t 18)), none⟩, ⟨0, (some 5), (.mv (.t 19)), none⟩])
  (.seq (.seq (.reg [] false [⟨0, (some 20), (.fld 2 (.t 1)), none⟩, ⟨0, (some 21), (.load false 1 (.t 20)), none⟩, ⟨0, (some 22), (.len false (.t 21)),
  none⟩, ⟨0, (some 23), (.mv (.c (.int .i64 0))), none⟩]) (.block 0 x52l1)) (.seq (.reg [] false [⟨0, (some 45), (.mv (.t 5)), none⟩, ⟨0, (some 2), (.mv (.t
  45)), none⟩, ⟨0, (some 3), (.mv (.c (.int .i64 0))), none⟩]) .ret)))))⟩
theorem is52 : FnIs prog 52 x52.fn := ⟨fun vs w => call52 vs w, _, _, func52, rfl, rfl, by kernel_rfl, by kernel_rfl⟩
theorem ok52 : okX x52.body = true := by kernel_rfl
theorem st52 : sitesP x52 x52.body := (sitesP_of rfl)

end Go.Proofs.YtpbeclkpohehgaaDoor
end
