/- Parts of a proof, joined: G0 G1 G2 G3. No statement of the seed is proved here. -/
import Derived.KernelRfl
import Derived.Test.YtdbikamciedfdaaProg
import Derived.Test.YtdbikamciedfdaaS3
set_option linter.unusedSimpArgs false
set_option linter.unusedVariables false
set_option linter.unusedSectionVars false
section
set_option maxRecDepth 100000
namespace Go.Proofs.Ytdbikamciedfdaa
open Go Go.DL Go.Proofs.Try

/-- zafra/zafralaw01.BulkPlants -/
def x3 : XFn := ⟨90, [(6, none)], false, false,
  (.seq (.reg [] false [⟨0, (some 4), (.box (.t 1)), none⟩, ⟨0, (some 6), (.mv (.c (.bool false))), none⟩]) (.seq (.seq (.reg [] false [⟨0, (some 15), (.mv (.t
  0)), none⟩, ⟨0, (some 16), (.len true (.t 15)), none⟩, ⟨0, (some 17), (.bin .gtr (.t 16) (.c (.int .i64 100))), none⟩, ⟨0, (some 18), (.mv (.t 17)), none⟩,
  ⟨0, (some 19), (.fld 1 (.t 4)), (some (18, false))⟩, ⟨0, (some 20), (.load false 1 (.t 19)), (some (18, false))⟩, ⟨0, (some 21), (.len false (.t 20)), (some
  (18, false))⟩, ⟨0, (some 22), (.bin .gtr (.t 21) (.c (.int .i64 40))), (some (18, false))⟩, ⟨0, (some 23), (.pick (.t 18) (.c (.bool true)) (.t 22)), none⟩,
  ⟨0, (some 24), (.mv (.t 23)), none⟩, ⟨0, (some 25), (.mv (.t 2)), (some (24, false))⟩, ⟨0, (some 26), (.len false (.t 25)), (some (24, false))⟩, ⟨0, (some
  27), (.bin .gtr (.t 26) (.c (.int .i64 40))), (some (24, false))⟩, ⟨0, (some 28), (.pick (.t 24) (.c (.bool true)) (.t 27)), none⟩]) (.cond (.t 28) (.seq
  (.reg [] false [⟨0, (some 29), (.callf false (.c (.fn (.func 12) [] [])) [] []), none⟩, ⟨0, (some 6), (.mv (.t 29)), none⟩]) .ret) .skip)) (.seq (.reg [(4,
  true)] false [⟨0, (some 31), (.load true 2 (.t 4)), none⟩, ⟨0, (some 32), (.callf false (.c (.fn (.func 13) [] [])) [(.t 31)] []), none⟩, ⟨0, (some 30),
  (.mv (.t 32)), none⟩, ⟨0, (some 33), (.ext (.t 30) 0), none⟩, ⟨0, (some 34), (.ext (.t 30) 1), none⟩, ⟨0, (some 7), (.mv (.t 33)), none⟩, ⟨0, (some 8), (.mv
  (.t 34)), none⟩]) (.seq (.reg [(4, true)] false [⟨0, (some 36), (.load true 2 (.t 4)), none⟩, ⟨0, (some 37), (.callf false (.c (.fn (.func 15) [] [])) [(.t
  36)] []), none⟩, ⟨0, (some 38), (.callf false (.c (.fn (.func 14) [] [])) [(.t 37)] []), none⟩, ⟨0, (some 35), (.mv (.t 38)), none⟩, ⟨0, (some 39), (.ext
  (.t 35) 0), none⟩, ⟨0, (some 40), (.ext (.t 35) 1), none⟩, ⟨0, (some 9), (.mv (.t 39)), none⟩, ⟨0, (some 10), (.mv (.t 40)), none⟩]) (.seq (.reg [(4, true),
  (2, false)] false [⟨0, (some 42), (.load true 2 (.t 4)), none⟩, ⟨0, (some 43), (.mv (.t 2)), none⟩, ⟨0, (some 44), (.callf false (.c (.fn (.func 16) [] []))
  [(.t 42), (.t 43)] []), none⟩, ⟨0, (some 41), (.mv (.t 44)), none⟩, ⟨0, (some 45), (.ext (.t 41) 0), none⟩, ⟨0, (some 46), (.ext (.t 41) 1), none⟩, ⟨0,
  (some 11), (.alloc [(.int .i64 0), (.int .i64 0), (.int .i64 0), (.int .i64 0)]), none⟩, ⟨0, none, (.store 4 (.t 11) (.t 45) []), none⟩, ⟨0, (some 12), (.mv
  (.t 46)), none⟩]) (.seq (.reg [(4, true), (2, false)] false [⟨0, (some 48), (.load true 2 (.t 4)), none⟩, ⟨0, (some 49), (.callf false (.c (.fn (.func 15)
  [] [])) [(.t 48)] []), none⟩, ⟨0, (some 50), (.mv (.t 2)), none⟩, ⟨0, (some 51), (.callf false (.c (.fn (.func 17) [] [])) [(.t 49), (.t 50)] []), none⟩,
  ⟨0, (some 47), (.mv (.t 51)), none⟩, ⟨0, (some 52), (.ext (.t 47) 0), none⟩, ⟨0, (some 53), (.ext (.t 47) 1), none⟩, ⟨0, (some 13), (.alloc [(.int .i64 0),
  (.int .i64 0), (.int .i64 0), (.int .i64 0)]), none⟩, ⟨0, none, (.store 4 (.t 13) (.t 52) []), none⟩, ⟨0, (some 14), (.mv (.t 53)), none⟩]) (.seq (.reg [(0,
  false), (4, true), (7, false), (9, false)] true [⟨0, (some 54), (.mv (.t 0)), none⟩, ⟨2, (some 56), (.mv (.t 0)), none⟩, ⟨1, (some 55), (.callf false (.c
  (.fn (.func 18) [] [])) [(.t 54)] []), none⟩, ⟨3, (some 57), (.callf false (.c (.fn (.func 19) [] [])) [(.t 56)] []), none⟩, ⟨4, (some 58), (.binb false (.t
  55) (.t 57)), none⟩, ⟨5, (some 59), (.mv (.t 58)), none⟩, ⟨6, (some 60), (.load true 2 (.t 4)), (some (59, true))⟩, ⟨8, (some 62), (.load true 2 (.t 4)),
  (some (59, true))⟩, ⟨7, (some 61), (.callf false (.c (.fn (.func 20) [] [])) [(.t 60)] [8]), (some (59, true))⟩, ⟨9, (some 63), (.callf false (.c (.fn
  (.func 15) [] [])) [(.t 62)] []), (some (59, true))⟩, ⟨10, (some 64), (.callf false (.c (.fn (.func 21) [] [])) [(.t 63)] []), (some (59, true))⟩, ⟨11,
  (some 65), (.bin .eql (.t 61) (.t 64)), (some (59, true))⟩, ⟨12, (some 66), (.pick (.t 59) (.t 65) (.c (.bool false))), none⟩, ⟨13, (some 67), (.mv (.t
  66)), none⟩, ⟨14, (some 68), (.mv (.t 7)), (some (67, true))⟩, ⟨15, (some 69), (.mv (.t 9)), (some (67, true))⟩, ⟨16, (some 70), (.callf false (.c (.fn
  (.func 22) [] [])) [(.t 68), (.t 69)] []), (some (67, true))⟩, ⟨17, (some 71), (.pick (.t 67) (.t 70) (.c (.bool false))), none⟩, ⟨18, (some 72), (.mv (.t
  71)), none⟩, ⟨19, (some 73), (.mv (.t 8)), (some (72, true))⟩, ⟨20, (some 74), (.mv (.t 10)), (some (72, true))⟩, ⟨21, (some 75), (.bin .eql (.t 73) (.t
  74)), (some (72, true))⟩, ⟨22, (some 76), (.pick (.t 72) (.t 75) (.c (.bool false))), none⟩, ⟨23, (some 77), (.mv (.t 76)), none⟩, ⟨24, (some 78), (.load
  true 4 (.t 11)), (some (77, true))⟩, ⟨25, (some 79), (.load true 4 (.t 13)), (some (77, true))⟩, ⟨26, (some 80), (.eqag false [0, 0, 0, 0] (.t 78) (.t 79)),
  (some (77, true))⟩, ⟨27, (some 81), (.pick (.t 77) (.t 80) (.c (.bool false))), none⟩, ⟨28, (some 82), (.mv (.t 81)), none⟩, ⟨29, (some 83), (.mv (.t 12)),
  (some (82, true))⟩, ⟨30, (some 84), (.mv (.t 14)), (some (82, true))⟩, ⟨31, (some 85), (.bin .eql (.t 83) (.t 84)), (some (82, true))⟩, ⟨32, (some 86),
  (.pick (.t 82) (.t 85) (.c (.bool false))), none⟩, ⟨33, (some 87), (.mv (.t 86)), none⟩, ⟨34, (some 88), (.callf false (.c (.fn (.func 12) [] [])) [] []),
  (some (87, true))⟩, ⟨35, (some 89), (.pick (.t 87) (.t 88) (.c (.bool false))), none⟩, ⟨36, (some 6), (.mv (.t 89)), none⟩]) .ret)))))))⟩
theorem is3 : FnIs prog 3 x3.fn := ⟨fun vs w => call3 vs w, _, _, func3, rfl, rfl, by kernel_rfl, by kernel_rfl⟩
theorem ok3 : okX x3.body = true := by kernel_rfl
theorem st3 : sitesP x3 x3.body := (sitesP_of rfl)

def x4l0 : XCode :=
  (.loop [3, 5, 7] (.seq (.seq (.reg [] false [⟨0, (some 34), (.mv (.t 7)), none⟩, ⟨0, (some 35), (.mv (.t 3)), none⟩, ⟨0, (some 36), (.len false (.t 35)),
  none⟩, ⟨0, (some 37), (.bin .lss (.t 34) (.t 36)), none⟩]) (.cond (.t 37) .skip (.exit 0))) (.seq (.block 1 (.seq (.reg [] true [⟨0, (some 40), (.mv (.t
  3)), none⟩, ⟨1, (some 41), (.mv (.t 7)), none⟩, ⟨2, (some 42), (.idx 5 (.t 40) (.t 41)), none⟩, ⟨3, (some 43), (.fld 0 (.t 42)), none⟩, ⟨4, (some 44),
  (.load false 1 (.t 43)), none⟩, ⟨5, (some 45), (.mv (.t 5)), none⟩, ⟨6, (some 46), (.mv (.t 7)), none⟩, ⟨7, (some 47), (.idx 5 (.t 45) (.t 46)), none⟩, ⟨8,
  (some 48), (.fld 0 (.t 47)), none⟩, ⟨9, (some 49), (.load false 1 (.t 48)), none⟩, ⟨10, (some 50), (.bin .neq (.t 44) (.t 49)), none⟩, ⟨11, (some 51), (.mv
  (.t 50)), none⟩, ⟨12, (some 52), (.mv (.t 3)), (some (51, false))⟩, ⟨13, (some 53), (.mv (.t 7)), (some (51, false))⟩, ⟨14, (some 54), (.idx 5 (.t 52) (.t
  53)), (some (51, false))⟩, ⟨15, (some 55), (.fld 1 (.t 54)), (some (51, false))⟩, ⟨16, (some 56), (.load true 4 (.t 55)), (some (51, false))⟩, ⟨17, (some
  57), (.mv (.t 5)), (some (51, false))⟩, ⟨18, (some 58), (.mv (.t 7)), (some (51, false))⟩, ⟨19, (some 59), (.idx 5 (.t 57) (.t 58)), (some (51, false))⟩,
  ⟨20, (some 60), (.fld 1 (.t 59)), (some (51, false))⟩, ⟨21, (some 61), (.load true 4 (.t 60)), (some (51, false))⟩, ⟨22, (some 62), (.eqag true [0, 0, 0, 0]
  (.t 56) (.t 61)), (some (51, false))⟩, ⟨23, (some 63), (.pick (.t 51) (.c (.bool true)) (.t 62)), none⟩]) (.cond (.t 63) (.seq (.reg [] false [⟨0, (some 2),
  (.mv (.c (.bool false))), none⟩]) .ret) .skip))) (.reg [] false [⟨0, (some 38), (.mv (.t 7)), none⟩, ⟨0, (some 39), (.bin .add (.t 38) (.c (.int .i64 1))),
  none⟩, ⟨0, (some 7), (.mv (.t 39)), none⟩]))))
/-- zafra/zafralaw01.BulkCloses -/
def x4 : XFn := ⟨65, [(2, none)], false, false,
  (.seq (.reg [] false [⟨0, (some 1), (.box (.t 0)), none⟩, ⟨0, (some 2), (.mv (.c (.bool false))), none⟩]) (.seq (.seq (.reg [] false [⟨0, (some 8), (.fld 1
  (.t 1)), none⟩, ⟨0, (some 9), (.load false 1 (.t 8)), none⟩, ⟨0, (some 10), (.len false (.t 9)), none⟩, ⟨0, (some 11), (.bin .gtr (.t 10) (.c (.int .i64
  40))), none⟩]) (.cond (.t 11) (.seq (.reg [] false [⟨0, (some 12), (.callf false (.c (.fn (.func 12) [] [])) [] []), none⟩, ⟨0, (some 2), (.mv (.t 12)),
  none⟩]) .ret) .skip)) (.seq (.reg [(1, true)] false [⟨0, (some 14), (.load true 2 (.t 1)), none⟩, ⟨0, (some 15), (.callf false (.c (.fn (.func 23) [] []))
  [(.t 14)] []), none⟩, ⟨0, (some 13), (.mv (.t 15)), none⟩, ⟨0, (some 16), (.ext (.t 13) 0), none⟩, ⟨0, (some 17), (.ext (.t 13) 1), none⟩, ⟨0, (some 3),
  (.mv (.t 16)), none⟩, ⟨0, (some 4), (.mv (.t 17)), none⟩]) (.seq (.reg [(1, true)] false [⟨0, (some 19), (.load true 2 (.t 1)), none⟩, ⟨0, (some 20),
  (.callf false (.c (.fn (.func 15) [] [])) [(.t 19)] []), none⟩, ⟨0, (some 21), (.callf false (.c (.fn (.func 24) [] [])) [(.t 20)] []), none⟩, ⟨0, (some
  18), (.mv (.t 21)), none⟩, ⟨0, (some 22), (.ext (.t 18) 0), none⟩, ⟨0, (some 23), (.ext (.t 18) 1), none⟩, ⟨0, (some 5), (.mv (.t 22)), none⟩, ⟨0, (some 6),
  (.mv (.t 23)), none⟩]) (.seq (.seq (.reg [] false [⟨0, (some 24), (.mv (.t 3)), none⟩, ⟨0, (some 25), (.len false (.t 24)), none⟩, ⟨0, (some 26), (.mv (.t
  5)), none⟩, ⟨0, (some 27), (.len false (.t 26)), none⟩, ⟨0, (some 28), (.bin .neq (.t 25) (.t 27)), none⟩, ⟨0, (some 29), (.mv (.t 28)), none⟩, ⟨0, (some
  30), (.mv (.t 4)), (some (29, false))⟩, ⟨0, (some 31), (.mv (.t 6)), (some (29, false))⟩, ⟨0, (some 32), (.bin .neq (.t 30) (.t 31)), (some (29, false))⟩,
  ⟨0, (some 33), (.pick (.t 29) (.c (.bool true)) (.t 32)), none⟩]) (.cond (.t 33) (.seq (.reg [] false [⟨0, (some 2), (.mv (.c (.bool false))), none⟩]) .ret)
  .skip)) (.seq (.seq (.reg [] false [⟨0, (some 7), (.mv (.c (.int .i64 0))), none⟩]) (.block 0 x4l0)) (.seq (.reg [] false [⟨0, (some 64), (.callf false (.c
  (.fn (.func 12) [] [])) [] []), none⟩, ⟨0, (some 2), (.mv (.t 64)), none⟩]) .ret)))))))⟩
theorem is4 : FnIs prog 4 x4.fn := ⟨fun vs w => call4 vs w, _, _, func4, rfl, rfl, by kernel_rfl, by kernel_rfl⟩
theorem ok4 : okX x4.body = true := by kernel_rfl
theorem st4 : sitesP x4 x4.body := (sitesP_of rfl)

/-- zafra/zafralaw01.BulkProves -/
def x5 : XFn := ⟨77, [(6, none)], false, false,
  (.seq (.reg [] false [⟨0, (some 3), (.box (.t 0)), none⟩, ⟨0, (some 6), (.mv (.c (.bool false))), none⟩]) (.seq (.seq (.reg [] false [⟨0, (some 14), (.fld 1
  (.t 3)), none⟩, ⟨0, (some 15), (.load false 1 (.t 14)), none⟩, ⟨0, (some 16), (.len false (.t 15)), none⟩, ⟨0, (some 17), (.bin .gtr (.t 16) (.c (.int .i64
  40))), none⟩, ⟨0, (some 18), (.mv (.t 17)), none⟩, ⟨0, (some 19), (.mv (.t 1)), (some (18, false))⟩, ⟨0, (some 20), (.len false (.t 19)), (some (18,
  false))⟩, ⟨0, (some 21), (.bin .gtr (.t 20) (.c (.int .i64 40))), (some (18, false))⟩, ⟨0, (some 22), (.pick (.t 18) (.c (.bool true)) (.t 21)), none⟩])
  (.cond (.t 22) (.seq (.reg [] false [⟨0, (some 23), (.callf false (.c (.fn (.func 12) [] [])) [] []), none⟩, ⟨0, (some 6), (.mv (.t 23)), none⟩]) .ret)
  .skip)) (.seq (.reg [(3, true)] false [⟨0, (some 24), (.load true 2 (.t 3)), none⟩, ⟨0, (some 25), (.callf false (.c (.fn (.func 15) [] [])) [(.t 24)] []),
  none⟩, ⟨0, (some 7), (.alloc [(.int .i64 0), .nilsl]), none⟩, ⟨0, none, (.store 2 (.t 7) (.t 25) []), none⟩]) (.seq (.reg [(3, true)] false [⟨0, (some 27),
  (.load true 2 (.t 3)), none⟩, ⟨0, (some 28), (.callf false (.c (.fn (.func 25) [] [])) [(.t 27)] []), none⟩, ⟨0, (some 26), (.mv (.t 28)), none⟩, ⟨0, (some
  29), (.ext (.t 26) 0), none⟩, ⟨0, (some 30), (.ext (.t 26) 1), none⟩, ⟨0, (some 31), (.ext (.t 26) 2), none⟩, ⟨0, (some 8), (.mv (.t 29)), none⟩, ⟨0, (some
  9), (.mv (.t 30)), none⟩, ⟨0, (some 10), (.mv (.t 31)), none⟩]) (.seq (.reg [(7, true)] false [⟨0, (some 33), (.load true 2 (.t 7)), none⟩, ⟨0, (some 34),
  (.callf false (.c (.fn (.func 26) [] [])) [(.t 33)] []), none⟩, ⟨0, (some 32), (.mv (.t 34)), none⟩, ⟨0, (some 35), (.ext (.t 32) 0), none⟩, ⟨0, (some 36),
  (.ext (.t 32) 1), none⟩, ⟨0, (some 37), (.ext (.t 32) 2), none⟩, ⟨0, (some 11), (.mv (.t 35)), none⟩, ⟨0, (some 12), (.mv (.t 36)), none⟩, ⟨0, (some 13),
  (.mv (.t 37)), none⟩]) (.seq (.seq (.reg [(7, true), (8, false)] false [⟨0, (some 38), (.mv (.t 10)), none⟩, ⟨0, (some 39), (.mv (.t 13)), none⟩, ⟨0, (some
  40), (.bin .neq (.t 38) (.t 39)), none⟩, ⟨0, (some 41), (.mv (.t 40)), none⟩, ⟨0, (some 42), (.mv (.t 10)), (some (41, false))⟩, ⟨0, (some 43), (.bin .neq
  (.t 42) (.c (.int .i64 0))), (some (41, false))⟩, ⟨0, (some 44), (.mv (.t 43)), (some (41, false))⟩, ⟨0, (some 45), (.mv (.t 8)), (some (44, true))⟩, ⟨0,
  (some 46), (.len false (.t 45)), (some (44, true))⟩, ⟨0, (some 47), (.bin .gtr (.t 46) (.c (.int .i64 0))), (some (44, true))⟩, ⟨0, (some 48), (.mv (.t
  47)), (some (44, true))⟩, ⟨0, (some 49), (.mv (.t 9)), (some (48, false))⟩, ⟨0, (some 50), (.bin .neq (.t 49) (.c (.int .i64 0))), (some (48, false))⟩, ⟨0,
  (some 51), (.pick (.t 48) (.c (.bool true)) (.t 50)), (some (44, true))⟩, ⟨0, (some 52), (.pick (.t 44) (.t 51) (.c (.bool false))), (some (41, false))⟩,
  ⟨0, (some 53), (.pick (.t 41) (.c (.bool true)) (.t 52)), none⟩, ⟨0, (some 54), (.mv (.t 53)), none⟩, ⟨0, (some 55), (.mv (.t 10)), (some (54, false))⟩, ⟨0,
  (some 56), (.bin .eql (.t 55) (.c (.int .i64 0))), (some (54, false))⟩, ⟨0, (some 57), (.mv (.t 56)), (some (54, false))⟩, ⟨0, (some 58), (.load true 2 (.t
  7)), (some (57, true))⟩, ⟨0, (some 59), (.mv (.t 8)), (some (57, true))⟩, ⟨0, (some 60), (.mv (.t 9)), (some (57, true))⟩, ⟨0, (some 61), (.callf false (.c
  (.fn (.func 27) [] [])) [(.t 58), (.t 59), (.t 60)] []), (some (57, true))⟩, ⟨0, (some 62), (.bin .neq (.t 61) (.c (.int .i64 0))), (some (57, true))⟩, ⟨0,
  (some 63), (.pick (.t 57) (.t 62) (.c (.bool false))), (some (54, false))⟩, ⟨0, (some 64), (.pick (.t 54) (.c (.bool true)) (.t 63)), none⟩]) (.cond (.t 64)
  (.seq (.reg [] false [⟨0, (some 6), (.mv (.c (.bool false))), none⟩]) .ret) .skip)) (.seq (.reg [(3, true), (1, false), (2, false), (7, true)] true [⟨0,
  (some 65), (.load true 2 (.t 3)), none⟩, ⟨1, (some 66), (.mv (.t 1)), none⟩, ⟨2, (some 67), (.mv (.t 2)), none⟩, ⟨4, (some 69), (.load true 2 (.t 7)),
  none⟩, ⟨5, (some 70), (.mv (.t 1)), none⟩, ⟨6, (some 71), (.mv (.t 2)), none⟩, ⟨3, (some 68), (.callf false (.c (.fn (.func 28) [] [])) [(.t 65), (.t 66),
  (.t 67)] [4]), none⟩, ⟨7, (some 72), (.callf false (.c (.fn (.func 27) [] [])) [(.t 69), (.t 70), (.t 71)] []), none⟩, ⟨8, (some 73), (.bin .eql (.t 68) (.t
  72)), none⟩, ⟨9, (some 74), (.mv (.t 73)), none⟩, ⟨10, (some 75), (.callf false (.c (.fn (.func 12) [] [])) [] []), (some (74, true))⟩, ⟨11, (some 76),
  (.pick (.t 74) (.t 75) (.c (.bool false))), none⟩, ⟨12, (some 6), (.mv (.t 76)), none⟩]) .ret)))))))⟩
theorem is5 : FnIs prog 5 x5.fn := ⟨fun vs w => call5 vs w, _, _, func5, rfl, rfl, by kernel_rfl, by kernel_rfl⟩
theorem ok5 : okX x5.body = true := by kernel_rfl
theorem st5 : sitesP x5 x5.body := (sitesP_of rfl)

def x6l0 : XCode :=
  (.loop [7, 10, 12, 13, 14, 15, 16] (.seq (.seq (.reg [] false [⟨0, (some 84), (.mv (.t 16)), none⟩, ⟨0, (some 85), (.bin .geq (.t 84) (.c (.int .i64 0))),
  none⟩]) (.cond (.t 85) .skip (.exit 2))) (.seq (.block 3 (.seq (.reg [(7, true)] false [⟨0, (some 88), (.load true 2 (.t 7)), none⟩, ⟨0, (some 89), (.mv (.t
  14)), none⟩, ⟨0, (some 90), (.mv (.t 16)), none⟩, ⟨0, (some 91), (.callf false (.c (.fn (.func 30) [] [])) [(.t 88), (.t 89), (.t 90), (.c (.int .i64
  (-1)))] []), none⟩]) (.cond (.t 91) (.reg [] false [⟨0, (some 92), (.mv (.t 16)), none⟩, ⟨0, (some 15), (.mv (.t 92)), none⟩]) .skip))) (.reg [] false [⟨0,
  (some 86), (.mv (.t 16)), none⟩, ⟨0, (some 87), (.bin .sub (.t 86) (.c (.int .i64 1))), none⟩, ⟨0, (some 16), (.mv (.t 87)), none⟩]))))
def x6l1 : XCode :=
  (.loop [7, 10, 12, 13, 14, 17, 18] (.seq (.seq (.reg [] false [⟨0, (some 125), (.mv (.t 18)), none⟩, ⟨0, (some 126), (.fld 0 (.t 7)), none⟩, ⟨0, (some 127),
  (.load false 1 (.t 126)), none⟩, ⟨0, (some 128), (.bin .lss (.t 125) (.t 127)), none⟩]) (.cond (.t 128) .skip (.exit 5))) (.seq (.block 6 (.seq (.reg [(7,
  true)] false [⟨0, (some 131), (.load true 2 (.t 7)), none⟩, ⟨0, (some 132), (.mv (.t 14)), none⟩, ⟨0, (some 133), (.mv (.t 18)), none⟩, ⟨0, (some 134),
  (.callf false (.c (.fn (.func 30) [] [])) [(.t 131), (.t 132), (.t 133), (.c (.int .i64 (-1)))] []), none⟩]) (.cond (.t 134) (.reg [] false [⟨0, (some 135),
  (.mv (.t 17)), none⟩, ⟨0, (some 136), (.mv (.t 18)), none⟩, ⟨0, (some 137), (.bslice 1 1 [(.int .i64 0)] [(0, (1, (.t 136)))]), none⟩, ⟨0, (some 138), (.app
  1 8 (.t 135) (.t 137)), none⟩, ⟨0, (some 17), (.mv (.t 138)), none⟩]) .skip))) (.reg [] false [⟨0, (some 129), (.mv (.t 18)), none⟩, ⟨0, (some 130), (.bin
  .add (.t 129) (.c (.int .i64 1))), none⟩, ⟨0, (some 18), (.mv (.t 130)), none⟩]))))
def x6l2 : XCode :=
  (.loop [7, 10, 12, 13, 14, 17, 19, 147, 148] (.seq (.reg [] false [⟨0, (some 149), (.bin .lss (.t 148) (.c (.int .i64 4))), none⟩]) (.seq (.cond (.t 149)
  .skip (.exit 7)) (.seq (.block 8 (.seq (.reg [] false [⟨0, (some 150), (.mv (.t 148)), none⟩, ⟨0, (some 151), (.idxv false 4 1 (.t 147) (.t 148)), none⟩,
  ⟨0, (some 21), (.mv (.t 150)), none⟩, ⟨0, (some 22), (.mv (.t 151)), none⟩]) (.seq (.reg [(7, true), (17, false)] false [⟨0, (some 152), (.load true 2 (.t
  7)), none⟩, ⟨0, (some 153), (.mv (.t 17)), none⟩, ⟨0, (some 154), (.mv (.t 21)), none⟩, ⟨0, (some 155), (.callf false (.c (.fn (.func 28) [] [])) [(.t 152),
  (.t 153), (.t 154)] []), none⟩, ⟨0, (some 156), (.bin .eql (.t 155) (.c (.int .i64 0))), none⟩, ⟨0, (some 157), (.mv (.t 22)), none⟩, ⟨0, (some 158), (.bin
  .neq (.t 157) (.c (.int .i64 0))), none⟩, ⟨0, (some 159), (.binb true (.t 156) (.t 158)), none⟩]) (.cond (.t 159) (.seq (.reg [] false [⟨0, (some 6), (.mv
  (.c (.bool false))), none⟩]) .ret) .skip)))) (.reg [] false [⟨0, (some 160), (.bin .add (.t 148) (.c (.int .i64 1))), none⟩, ⟨0, (some 148), (.mv (.t 160)),
  none⟩])))))
def x6l3 : XCode :=
  (.loop [7, 10, 12, 13, 14] (.seq (.seq (.reg [] false [⟨0, (some 76), (.mv (.t 14)), none⟩, ⟨0, (some 77), (.fld 0 (.t 7)), none⟩, ⟨0, (some 78), (.load false
  1 (.t 77)), none⟩, ⟨0, (some 79), (.bin .lss (.t 76) (.t 78)), none⟩]) (.cond (.t 79) .skip (.exit 0))) (.seq (.block 1 (.seq (.reg [] false [⟨0, (some 82),
  (.mv (.t 14)), none⟩, ⟨0, (some 15), (.mv (.t 82)), none⟩]) (.seq (.seq (.reg [] false [⟨0, (some 83), (.mv (.t 14)), none⟩, ⟨0, (some 16), (.mv (.t 83)),
  none⟩]) (.block 2 x6l0)) (.seq (.block 4 (.seq (.reg [(7, true)] false [⟨0, (some 94), (.load true 2 (.t 7)), none⟩, ⟨0, (some 95), (.mv (.t 14)), none⟩,
  ⟨0, (some 96), (.callf false (.c (.fn (.func 30) [] [])) [(.t 94), (.t 95), (.c (.int .i64 (-1))), (.c (.int .i64 (-1)))] []), none⟩, ⟨0, (some 93), (.mv
  (.t 96)), none⟩]) (.cond (.t 93) (.seq (.seq (.reg [] false [⟨0, (some 97), (.mv (.t 10)), none⟩, ⟨0, (some 98), (.mv (.t 14)), none⟩, ⟨0, (some 99), (.idx
  1 (.t 97) (.t 98)), none⟩, ⟨0, (some 100), (.load false 1 (.t 99)), none⟩, ⟨0, (some 101), (.bin .neq (.t 100) (.c (.int .i64 (-1)))), none⟩]) (.cond (.t
  101) (.seq (.reg [] false [⟨0, (some 6), (.mv (.c (.bool false))), none⟩]) .ret) .skip)) (.exit 1)) (.seq (.reg [] false [⟨0, (some 103), (.mv (.t 15)),
  none⟩, ⟨0, (some 104), (.mv (.t 14)), none⟩, ⟨0, (some 105), (.bin .lss (.t 103) (.t 104)), none⟩, ⟨0, (some 102), (.mv (.t 105)), none⟩]) (.cond (.t 102)
  (.seq (.seq (.reg [] true [⟨0, (some 106), (.mv (.t 10)), none⟩, ⟨1, (some 107), (.mv (.t 14)), none⟩, ⟨2, (some 108), (.idx 1 (.t 106) (.t 107)), none⟩,
  ⟨3, (some 109), (.load false 1 (.t 108)), none⟩, ⟨4, (some 110), (.mv (.t 10)), none⟩, ⟨5, (some 111), (.mv (.t 15)), none⟩, ⟨6, (some 112), (.idx 1 (.t
  110) (.t 111)), none⟩, ⟨7, (some 113), (.load false 1 (.t 112)), none⟩, ⟨8, (some 114), (.bin .neq (.t 109) (.t 113)), none⟩]) (.cond (.t 114) (.seq (.reg
  [] false [⟨0, (some 6), (.mv (.c (.bool false))), none⟩]) .ret) .skip)) (.exit 1)) (.seq (.reg [] false [⟨0, (some 116), (.mv (.t 10)), none⟩, ⟨0, (some
  117), (.mv (.t 14)), none⟩, ⟨0, (some 118), (.idx 1 (.t 116) (.t 117)), none⟩, ⟨0, (some 119), (.load false 1 (.t 118)), none⟩, ⟨0, (some 120), (.mv (.t
  13)), none⟩, ⟨0, (some 121), (.bin .neq (.t 119) (.t 120)), none⟩, ⟨0, (some 115), (.mv (.t 121)), none⟩]) (.cond (.t 115) (.seq (.reg [] false [⟨0, (some
  6), (.mv (.c (.bool false))), none⟩]) .ret) .skip))))))) (.seq (.reg [] false [⟨0, (some 122), (.mv (.t 13)), none⟩, ⟨0, (some 123), (.bin .add (.t 122) (.c
  (.int .i64 1))), none⟩, ⟨0, (some 13), (.mv (.t 123)), none⟩]) (.seq (.reg [] false [⟨0, (some 17), (.mv (.c .nilsl)), none⟩]) (.seq (.seq (.reg [] false
  [⟨0, (some 124), (.mv (.t 14)), none⟩, ⟨0, (some 18), (.mv (.t 124)), none⟩]) (.block 5 x6l1)) (.seq (.reg [(7, true), (17, false)] false [⟨0, (some 140),
  (.load true 2 (.t 7)), none⟩, ⟨0, (some 141), (.mv (.t 17)), none⟩, ⟨0, (some 142), (.callf false (.c (.fn (.func 16) [] [])) [(.t 140), (.t 141)] []),
  none⟩, ⟨0, (some 139), (.mv (.t 142)), none⟩, ⟨0, (some 143), (.ext (.t 139) 0), none⟩, ⟨0, (some 144), (.ext (.t 139) 1), none⟩, ⟨0, (some 19), (.alloc
  [(.int .i64 0), (.int .i64 0), (.int .i64 0), (.int .i64 0)]), none⟩, ⟨0, none, (.store 4 (.t 19) (.t 143) []), none⟩, ⟨0, (some 20), (.mv (.t 144)),
  none⟩]) (.seq (.seq (.reg [] false [⟨0, (some 145), (.mv (.t 20)), none⟩, ⟨0, (some 146), (.bin .neq (.t 145) (.c (.int .i64 0))), none⟩]) (.cond (.t 146)
  (.seq (.reg [] false [⟨0, (some 6), (.mv (.c (.bool false))), none⟩]) .ret) .skip)) (.seq (.seq (.reg [] false [⟨0, (some 147), (.load true 4 (.t 19)),
  none⟩, ⟨0, (some 148), (.mv (.c (.int .i64 0))), none⟩]) (.block 7 x6l2)) (.reg [] false [⟨0, (some 161), (.mv (.t 12)), none⟩, ⟨0, (some 162), (.mv (.t
  161)), none⟩, ⟨0, (some 163), (.load true 4 (.t 19)), (some (162, false))⟩, ⟨0, (some 164), (.build [(.int .i64 0), (.int .i64 0), (.int .i64 0), (.int .i64
  0)] []), (some (162, false))⟩, ⟨0, (some 165), (.eqag true [0, 0, 0, 0] (.t 163) (.t 164)), (some (162, false))⟩, ⟨0, (some 166), (.pick (.t 162) (.c (.bool
  true)) (.t 165)), none⟩, ⟨0, (some 12), (.mv (.t 166)), none⟩]))))))))))) (.reg [] false [⟨0, (some 80), (.mv (.t 14)), none⟩, ⟨0, (some 81), (.bin .add (.t
  80) (.c (.int .i64 1))), none⟩, ⟨0, (some 14), (.mv (.t 81)), none⟩]))))
/-- zafra/zafralaw01.BulkClash -/
def x6 : XFn := ⟨215, [(6, none)], false, false,
  (.seq (.reg [] false [⟨0, (some 3), (.box (.t 0)), none⟩, ⟨0, (some 6), (.mv (.c (.bool false))), none⟩]) (.seq (.reg [(3, true)] false [⟨0, (some 28), (.load
  true 4 (.t 3)), none⟩, ⟨0, (some 29), (.callf false (.c (.fn (.func 29) [] [])) [(.t 28)] []), none⟩, ⟨0, (some 27), (.mv (.t 29)), none⟩, ⟨0, (some 30),
  (.ext (.t 27) 0), none⟩, ⟨0, (some 31), (.ext (.t 27) 1), none⟩, ⟨0, (some 7), (.alloc [(.int .i64 0), .nilsl]), none⟩, ⟨0, none, (.store 2 (.t 7) (.t 30)
  []), none⟩, ⟨0, (some 8), (.mv (.t 31)), none⟩]) (.seq (.reg [] false [⟨0, (some 32), (.mv (.t 1)), none⟩, ⟨0, (some 33), (.conv .i64 (.t 32)), none⟩, ⟨0,
  (some 34), (.fld 1 (.t 7)), none⟩, ⟨0, (some 35), (.load false 1 (.t 34)), none⟩, ⟨0, (some 36), (.len false (.t 35)), none⟩, ⟨0, (some 37), (.bin .rem (.t
  33) (.t 36)), none⟩, ⟨0, (some 9), (.mv (.t 37)), none⟩]) (.seq (.seq (.reg [] false [⟨0, (some 38), (.fld 1 (.t 7)), none⟩, ⟨0, (some 39), (.load false 1
  (.t 38)), none⟩, ⟨0, (some 40), (.mv (.t 9)), none⟩, ⟨0, (some 41), (.idx 7 (.t 39) (.t 40)), none⟩, ⟨0, (some 42), (.fld 2 (.t 41)), none⟩, ⟨0, (some 43),
  (.load false 1 (.t 42)), none⟩]) (.cond (.t 43) (.reg [] true [⟨0, (some 44), (.fld 1 (.t 7)), none⟩, ⟨1, (some 45), (.load false 1 (.t 44)), none⟩, ⟨2,
  (some 46), (.mv (.t 9)), none⟩, ⟨3, (some 47), (.mv (.t 2)), none⟩, ⟨4, (some 48), (.conv .i64 (.t 47)), none⟩, ⟨5, (some 49), (.bin .rem (.t 48) (.c (.int
  .i64 4))), none⟩, ⟨6, (some 50), (.idx 7 (.t 45) (.t 46)), none⟩, ⟨7, (some 51), (.fld 3 (.t 50)), none⟩, ⟨8, (some 52), (.idxa 4 1 (.t 51) (.t 49)), none⟩,
  ⟨9, (some 53), (.load false 1 (.t 52)), none⟩, ⟨10, (some 54), (.mv (.t 2)), none⟩, ⟨11, (some 55), (.conv .i64 (.t 54)), none⟩, ⟨12, (some 56), (.bin .quo
  (.t 55) (.c (.int .i64 4))), none⟩, ⟨13, (some 57), (.bin .add (.c (.int .i64 1)) (.t 56)), none⟩, ⟨14, (some 58), (.bin .add (.t 53) (.t 57)), none⟩, ⟨15,
  (some 59), (.idx 7 (.t 45) (.t 46)), none⟩, ⟨16, (some 60), (.fld 3 (.t 59)), none⟩, ⟨17, (some 61), (.idxa 4 1 (.t 60) (.t 49)), none⟩, ⟨18, none, (.store
  1 (.t 61) (.t 58) []), none⟩]) .skip)) (.seq (.reg [(7, true)] false [⟨0, (some 63), (.load true 2 (.t 7)), none⟩, ⟨0, (some 64), (.callf false (.c (.fn
  (.func 13) [] [])) [(.t 63)] []), none⟩, ⟨0, (some 62), (.mv (.t 64)), none⟩, ⟨0, (some 65), (.ext (.t 62) 0), none⟩, ⟨0, (some 66), (.ext (.t 62) 1),
  none⟩, ⟨0, (some 10), (.mv (.t 65)), none⟩, ⟨0, (some 11), (.mv (.t 66)), none⟩]) (.seq (.seq (.reg [] false [⟨0, (some 67), (.mv (.t 11)), none⟩, ⟨0, (some
  68), (.bin .neq (.t 67) (.c (.int .i64 0))), none⟩, ⟨0, (some 69), (.mv (.t 68)), none⟩, ⟨0, (some 70), (.mv (.t 10)), (some (69, false))⟩, ⟨0, (some 71),
  (.len false (.t 70)), (some (69, false))⟩, ⟨0, (some 72), (.fld 0 (.t 7)), (some (69, false))⟩, ⟨0, (some 73), (.load false 1 (.t 72)), (some (69, false))⟩,
  ⟨0, (some 74), (.bin .neq (.t 71) (.t 73)), (some (69, false))⟩, ⟨0, (some 75), (.pick (.t 69) (.c (.bool true)) (.t 74)), none⟩]) (.cond (.t 75) (.seq
  (.reg [] false [⟨0, (some 6), (.mv (.c (.bool false))), none⟩]) .ret) .skip)) (.seq (.reg [] false [⟨0, (some 12), (.mv (.c (.bool false))), none⟩]) (.seq
  (.reg [] false [⟨0, (some 13), (.mv (.c (.int .i64 0))), none⟩]) (.seq (.seq (.reg [] false [⟨0, (some 14), (.mv (.c (.int .i64 0))), none⟩]) (.block 0
  x6l3)) (.seq (.reg [(7, true)] false [⟨0, (some 168), (.load true 2 (.t 7)), none⟩, ⟨0, (some 169), (.callf false (.c (.fn (.func 23) [] [])) [(.t 168)]
  []), none⟩, ⟨0, (some 167), (.mv (.t 169)), none⟩, ⟨0, (some 170), (.ext (.t 167) 0), none⟩, ⟨0, (some 171), (.ext (.t 167) 1), none⟩, ⟨0, (some 23), (.mv
  (.t 170)), none⟩, ⟨0, (some 11), (.mv (.t 171)), none⟩]) (.seq (.reg [(7, true)] false [⟨0, (some 173), (.load true 2 (.t 7)), none⟩, ⟨0, (some 174),
  (.callf false (.c (.fn (.func 25) [] [])) [(.t 173)] []), none⟩, ⟨0, (some 172), (.mv (.t 174)), none⟩, ⟨0, (some 175), (.ext (.t 172) 0), none⟩, ⟨0, (some
  176), (.ext (.t 172) 1), none⟩, ⟨0, (some 177), (.ext (.t 172) 2), none⟩, ⟨0, (some 24), (.mv (.t 175)), none⟩, ⟨0, (some 25), (.mv (.t 176)), none⟩, ⟨0,
  (some 26), (.mv (.t 177)), none⟩]) (.seq (.seq (.reg [] false [⟨0, (some 178), (.mv (.t 12)), none⟩, ⟨0, (some 179), (.not (.t 178)), none⟩]) (.cond (.t
  179) (.seq (.reg [] false [⟨0, (some 180), (.mv (.t 11)), none⟩, ⟨0, (some 181), (.bin .eql (.t 180) (.c (.int .i64 0))), none⟩, ⟨0, (some 182), (.mv (.t
  181)), none⟩, ⟨0, (some 183), (.mv (.t 26)), (some (182, true))⟩, ⟨0, (some 184), (.bin .eql (.t 183) (.c (.int .i64 5))), (some (182, true))⟩, ⟨0, (some
  185), (.pick (.t 182) (.t 184) (.c (.bool false))), none⟩, ⟨0, (some 186), (.mv (.t 185)), none⟩, ⟨0, (some 187), (.mv (.t 24)), (some (186, true))⟩, ⟨0,
  (some 188), (.len false (.t 187)), (some (186, true))⟩, ⟨0, (some 189), (.bin .eql (.t 188) (.c (.int .i64 0))), (some (186, true))⟩, ⟨0, (some 190), (.pick
  (.t 186) (.t 189) (.c (.bool false))), none⟩, ⟨0, (some 191), (.mv (.t 190)), none⟩, ⟨0, (some 192), (.callf false (.c (.fn (.func 12) [] [])) [] []), (some
  (191, true))⟩, ⟨0, (some 193), (.pick (.t 191) (.t 192) (.c (.bool false))), none⟩, ⟨0, (some 6), (.mv (.t 193)), none⟩]) .ret) .skip)) (.seq (.reg [(7,
  true), (24, false), (25, false)] false [⟨0, (some 194), (.mv (.t 11)), none⟩, ⟨0, (some 195), (.bin .eql (.t 194) (.c (.int .i64 12))), none⟩, ⟨0, (some
  196), (.mv (.t 195)), none⟩, ⟨0, (some 197), (.mv (.t 23)), (some (196, true))⟩, ⟨0, (some 198), (.len false (.t 197)), (some (196, true))⟩, ⟨0, (some 199),
  (.bin .eql (.t 198) (.c (.int .i64 0))), (some (196, true))⟩, ⟨0, (some 200), (.pick (.t 196) (.t 199) (.c (.bool false))), none⟩, ⟨0, (some 201), (.mv (.t
  200)), none⟩, ⟨0, (some 202), (.mv (.t 26)), (some (201, true))⟩, ⟨0, (some 203), (.bin .eql (.t 202) (.c (.int .i64 0))), (some (201, true))⟩, ⟨0, (some
  204), (.pick (.t 201) (.t 203) (.c (.bool false))), none⟩, ⟨0, (some 205), (.mv (.t 204)), none⟩, ⟨0, (some 206), (.load true 2 (.t 7)), (some (205,
  true))⟩, ⟨0, (some 207), (.mv (.t 24)), (some (205, true))⟩, ⟨0, (some 208), (.mv (.t 25)), (some (205, true))⟩, ⟨0, (some 209), (.callf false (.c (.fn
  (.func 28) [] [])) [(.t 206), (.t 207), (.t 208)] []), (some (205, true))⟩, ⟨0, (some 210), (.bin .eql (.t 209) (.c (.int .i64 0))), (some (205, true))⟩,
  ⟨0, (some 211), (.pick (.t 205) (.t 210) (.c (.bool false))), none⟩, ⟨0, (some 212), (.mv (.t 211)), none⟩, ⟨0, (some 213), (.callf false (.c (.fn (.func
  12) [] [])) [] []), (some (212, true))⟩, ⟨0, (some 214), (.pick (.t 212) (.t 213) (.c (.bool false))), none⟩, ⟨0, (some 6), (.mv (.t 214)), none⟩])
  .ret)))))))))))))⟩
theorem is6 : FnIs prog 6 x6.fn := ⟨fun vs w => call6 vs w, _, _, func6, rfl, rfl, by kernel_rfl, by kernel_rfl⟩
theorem ok6 : okX x6.body = true := by kernel_rfl
theorem st6 : sitesP x6 x6.body := (sitesP_of rfl)

def x7l0 : XCode :=
  (.loop [2, 3, 9, 25, 26, 27] (.seq (.reg [] false [⟨0, (some 28), (.bin .lss (.t 27) (.t 26)), none⟩]) (.seq (.cond (.t 28) .skip (.exit 0)) (.seq (.block 1
  (.seq (.reg [] false [⟨0, (some 29), (.mv (.t 27)), none⟩, ⟨0, (some 30), (.idx 1 (.t 25) (.t 27)), none⟩, ⟨0, (some 31), (.load false 1 (.t 30)), none⟩,
  ⟨0, (some 11), (.mv (.t 29)), none⟩, ⟨0, (some 12), (.mv (.t 31)), none⟩]) (.seq (.reg [] false [⟨0, (some 32), (.mv (.t 11)), none⟩, ⟨0, (some 33), (.fld 1
  (.t 9)), none⟩, ⟨0, (some 34), (.load false 1 (.t 33)), none⟩, ⟨0, (some 35), (.len false (.t 34)), none⟩, ⟨0, (some 36), (.bin .lss (.t 32) (.t 35)),
  none⟩, ⟨0, (some 37), (.mv (.t 36)), none⟩, ⟨0, (some 38), (.fld 1 (.t 9)), (some (37, true))⟩, ⟨0, (some 39), (.load false 1 (.t 38)), (some (37, true))⟩,
  ⟨0, (some 40), (.mv (.t 11)), (some (37, true))⟩, ⟨0, (some 41), (.idx 7 (.t 39) (.t 40)), (some (37, true))⟩, ⟨0, (some 42), (.fld 2 (.t 41)), (some (37,
  true))⟩, ⟨0, (some 43), (.load false 1 (.t 42)), (some (37, true))⟩, ⟨0, (some 44), (.pick (.t 37) (.t 43) (.c (.bool false))), none⟩]) (.cond (.t 44) (.reg
  [] false [⟨0, (some 45), (.fld 1 (.t 9)), none⟩, ⟨0, (some 46), (.load false 1 (.t 45)), none⟩, ⟨0, (some 47), (.mv (.t 11)), none⟩, ⟨0, (some 48), (.mv (.t
  11)), none⟩, ⟨0, (some 49), (.bin .rem (.t 48) (.c (.int .i64 4))), none⟩, ⟨0, (some 50), (.mv (.t 12)), none⟩, ⟨0, (some 51), (.conv .i64 (.t 50)), none⟩,
  ⟨0, (some 52), (.idx 7 (.t 46) (.t 47)), none⟩, ⟨0, (some 53), (.fld 3 (.t 52)), none⟩, ⟨0, (some 54), (.idxa 4 1 (.t 53) (.t 49)), none⟩, ⟨0, none, (.store
  1 (.t 54) (.t 51) []), none⟩]) .skip)))) (.reg [] false [⟨0, (some 55), (.bin .add (.t 27) (.c (.int .i64 1))), none⟩, ⟨0, (some 27), (.mv (.t 55)),
  none⟩])))))
def x7l1 : XCode :=
  (.loop [2, 3, 9, 13, 14] (.seq (.seq (.reg [] false [⟨0, (some 56), (.mv (.t 14)), none⟩, ⟨0, (some 57), (.fld 0 (.t 9)), none⟩, ⟨0, (some 58), (.load false 1
  (.t 57)), none⟩, ⟨0, (some 59), (.bin .lss (.t 56) (.t 58)), none⟩]) (.cond (.t 59) .skip (.exit 2))) (.seq (.block 3 (.seq (.reg [] false [⟨0, (some 62),
  (.mv (.t 2)), none⟩, ⟨0, (some 63), (.mv (.t 14)), none⟩, ⟨0, (some 64), (.bin .shr (.t 62) (.t 63)), none⟩, ⟨0, (some 65), (.bin .and (.t 64) (.c (.int .u8
  1))), none⟩, ⟨0, (some 66), (.bin .eql (.t 65) (.c (.int .u8 1))), none⟩]) (.cond (.t 66) (.reg [] false [⟨0, (some 67), (.mv (.t 13)), none⟩, ⟨0, (some
  68), (.mv (.t 14)), none⟩, ⟨0, (some 69), (.bslice 1 1 [(.int .i64 0)] [(0, (1, (.t 68)))]), none⟩, ⟨0, (some 70), (.app 1 8 (.t 67) (.t 69)), none⟩, ⟨0,
  (some 13), (.mv (.t 70)), none⟩]) .skip))) (.reg [] false [⟨0, (some 60), (.mv (.t 14)), none⟩, ⟨0, (some 61), (.bin .add (.t 60) (.c (.int .i64 1))),
  none⟩, ⟨0, (some 14), (.mv (.t 61)), none⟩]))))
/-- zafra/zafralaw01.BulkProof -/
def x7 : XFn := ⟨135, [(8, none)], false, false,
  (.seq (.reg [] false [⟨0, (some 4), (.box (.t 0)), none⟩, ⟨0, (some 8), (.mv (.c (.bool false))), none⟩]) (.seq (.reg [(4, true)] false [⟨0, (some 21), (.load
  true 4 (.t 4)), none⟩, ⟨0, (some 22), (.callf false (.c (.fn (.func 29) [] [])) [(.t 21)] []), none⟩, ⟨0, (some 20), (.mv (.t 22)), none⟩, ⟨0, (some 23),
  (.ext (.t 20) 0), none⟩, ⟨0, (some 24), (.ext (.t 20) 1), none⟩, ⟨0, (some 9), (.alloc [(.int .i64 0), .nilsl]), none⟩, ⟨0, none, (.store 2 (.t 9) (.t 23)
  []), none⟩, ⟨0, (some 10), (.mv (.t 24)), none⟩]) (.seq (.seq (.reg [] false [⟨0, (some 25), (.mv (.t 1)), none⟩, ⟨0, (some 26), (.len false (.t 25)),
  none⟩, ⟨0, (some 27), (.mv (.c (.int .i64 0))), none⟩]) (.block 0 x7l0)) (.seq (.reg [] false [⟨0, (some 13), (.mv (.c .nilsl)), none⟩]) (.seq (.seq (.reg
  [] false [⟨0, (some 14), (.mv (.c (.int .i64 0))), none⟩]) (.block 2 x7l1)) (.seq (.seq (.reg [] false [⟨0, (some 71), (.mv (.t 13)), none⟩, ⟨0, (some 72),
  (.len false (.t 71)), none⟩, ⟨0, (some 73), (.bin .eql (.t 72) (.c (.int .i64 0))), none⟩]) (.cond (.t 73) (.seq (.reg [(9, true), (13, false)] false [⟨0,
  (some 74), (.load true 2 (.t 9)), none⟩, ⟨0, (some 75), (.mv (.t 13)), none⟩, ⟨0, (some 76), (.mv (.t 3)), none⟩, ⟨0, (some 77), (.conv .i64 (.t 76)),
  none⟩, ⟨0, (some 78), (.bin .rem (.t 77) (.c (.int .i64 4))), none⟩, ⟨0, (some 79), (.callf false (.c (.fn (.func 28) [] [])) [(.t 74), (.t 75), (.t 78)]
  []), none⟩, ⟨0, (some 80), (.bin .eql (.t 79) (.c (.int .i64 4))), none⟩, ⟨0, (some 81), (.mv (.t 80)), none⟩, ⟨0, (some 82), (.callf false (.c (.fn (.func
  12) [] [])) [] []), (some (81, true))⟩, ⟨0, (some 83), (.pick (.t 81) (.t 82) (.c (.bool false))), none⟩, ⟨0, (some 8), (.mv (.t 83)), none⟩]) .ret) .skip))
  (.seq (.reg [(9, true), (13, false)] false [⟨0, (some 84), (.load true 2 (.t 9)), none⟩, ⟨0, (some 85), (.mv (.t 13)), none⟩, ⟨0, (some 86), (.mv (.t 3)),
  none⟩, ⟨0, (some 87), (.conv .i64 (.t 86)), none⟩, ⟨0, (some 88), (.bin .rem (.t 87) (.c (.int .i64 4))), none⟩, ⟨0, (some 89), (.callf false (.c (.fn
  (.func 28) [] [])) [(.t 84), (.t 85), (.t 88)] []), none⟩, ⟨0, (some 15), (.mv (.t 89)), none⟩]) (.seq (.reg [(9, true)] false [⟨0, (some 91), (.load true 2
  (.t 9)), none⟩, ⟨0, (some 92), (.callf false (.c (.fn (.func 23) [] [])) [(.t 91)] []), none⟩, ⟨0, (some 90), (.mv (.t 92)), none⟩, ⟨0, (some 93), (.ext (.t
  90) 0), none⟩, ⟨0, (some 94), (.ext (.t 90) 1), none⟩, ⟨0, (some 16), (.mv (.t 93)), none⟩, ⟨0, (some 17), (.mv (.t 94)), none⟩]) (.seq (.reg [(9, true),
  (13, false)] false [⟨0, (some 96), (.load true 2 (.t 9)), none⟩, ⟨0, (some 97), (.mv (.t 13)), none⟩, ⟨0, (some 98), (.callf false (.c (.fn (.func 16) []
  [])) [(.t 96), (.t 97)] []), none⟩, ⟨0, (some 95), (.mv (.t 98)), none⟩, ⟨0, (some 99), (.ext (.t 95) 0), none⟩, ⟨0, (some 100), (.ext (.t 95) 1), none⟩,
  ⟨0, (some 18), (.alloc [(.int .i64 0), (.int .i64 0), (.int .i64 0), (.int .i64 0)]), none⟩, ⟨0, none, (.store 4 (.t 18) (.t 99) []), none⟩, ⟨0, (some 19),
  (.mv (.t 100)), none⟩]) (.seq (.seq (.reg [] false [⟨0, (some 101), (.mv (.t 19)), none⟩, ⟨0, (some 102), (.bin .neq (.t 101) (.c (.int .i64 0))), none⟩,
  ⟨0, (some 103), (.mv (.t 102)), none⟩, ⟨0, (some 104), (.mv (.t 15)), (some (103, false))⟩, ⟨0, (some 105), (.bin .neq (.t 104) (.c (.int .i64 0))), (some
  (103, false))⟩, ⟨0, (some 106), (.mv (.t 105)), (some (103, false))⟩, ⟨0, (some 107), (.mv (.t 15)), (some (106, true))⟩, ⟨0, (some 108), (.bin .neq (.t
  107) (.c (.int .i64 11))), (some (106, true))⟩, ⟨0, (some 109), (.pick (.t 106) (.t 108) (.c (.bool false))), (some (103, false))⟩, ⟨0, (some 110), (.pick
  (.t 103) (.c (.bool true)) (.t 109)), none⟩]) (.cond (.t 110) (.seq (.reg [] false [⟨0, (some 8), (.mv (.c (.bool false))), none⟩]) .ret) .skip)) (.seq
  (.seq (.reg [] false [⟨0, (some 111), (.mv (.t 15)), none⟩, ⟨0, (some 112), (.bin .eql (.t 111) (.c (.int .i64 0))), none⟩]) (.cond (.t 112) (.seq (.reg []
  false [⟨0, (some 113), (.mv (.t 17)), none⟩, ⟨0, (some 114), (.bin .eql (.t 113) (.c (.int .i64 12))), none⟩, ⟨0, (some 115), (.mv (.t 114)), none⟩, ⟨0,
  (some 116), (.mv (.t 3)), (some (115, true))⟩, ⟨0, (some 117), (.conv .i64 (.t 116)), (some (115, true))⟩, ⟨0, (some 118), (.bin .rem (.t 117) (.c (.int
  .i64 4))), (some (115, true))⟩, ⟨0, (some 119), (.idxa 4 1 (.t 18) (.t 118)), (some (115, true))⟩, ⟨0, (some 120), (.load false 1 (.t 119)), (some (115,
  true))⟩, ⟨0, (some 121), (.bin .neq (.t 120) (.c (.int .i64 0))), (some (115, true))⟩, ⟨0, (some 122), (.pick (.t 115) (.t 121) (.c (.bool false))), none⟩,
  ⟨0, (some 123), (.mv (.t 122)), none⟩, ⟨0, (some 124), (.callf false (.c (.fn (.func 12) [] [])) [] []), (some (123, true))⟩, ⟨0, (some 125), (.pick (.t
  123) (.t 124) (.c (.bool false))), none⟩, ⟨0, (some 8), (.mv (.t 125)), none⟩]) .ret) .skip)) (.seq (.reg [] false [⟨0, (some 126), (.mv (.t 17)), none⟩,
  ⟨0, (some 127), (.bin .eql (.t 126) (.c (.int .i64 0))), none⟩, ⟨0, (some 128), (.mv (.t 127)), none⟩, ⟨0, (some 129), (.mv (.t 17)), (some (128, false))⟩,
  ⟨0, (some 130), (.bin .eql (.t 129) (.c (.int .i64 12))), (some (128, false))⟩, ⟨0, (some 131), (.pick (.t 128) (.c (.bool true)) (.t 130)), none⟩, ⟨0,
  (some 132), (.mv (.t 131)), none⟩, ⟨0, (some 133), (.callf false (.c (.fn (.func 12) [] [])) [] []), (some (132, true))⟩, ⟨0, (some 134), (.pick (.t 132)
  (.t 133) (.c (.bool false))), none⟩, ⟨0, (some 8), (.mv (.t 134)), none⟩]) .ret))))))))))))⟩
theorem is7 : FnIs prog 7 x7.fn := ⟨fun vs w => call7 vs w, _, _, func7, rfl, rfl, by kernel_rfl, by kernel_rfl⟩
theorem ok7 : okX x7.body = true := by kernel_rfl
theorem st7 : sitesP x7 x7.body := (sitesP_of rfl)

def x8l0 : XCode :=
  (.loop [5, 9, 11, 12, 13, 68] (.seq (.reg [] false [⟨0, (some 69), (.bin .lss (.t 68) (.c (.int .i64 4))), none⟩]) (.seq (.cond (.t 69) .skip (.exit 0)) (.seq
  (.block 1 (.seq (.reg [] false [⟨0, (some 70), (.mv (.t 68)), none⟩, ⟨0, (some 14), (.mv (.t 70)), none⟩]) (.seq (.reg [] true [⟨0, (some 71), (.fld 1 (.t
  13)), none⟩, ⟨1, (some 72), (.load false 1 (.t 71)), none⟩, ⟨2, (some 73), (.mv (.t 11)), none⟩, ⟨3, (some 74), (.mv (.t 14)), none⟩, ⟨4, (some 75), (.mv
  (.t 14)), none⟩, ⟨5, (some 76), (.idxa 4 1 (.t 5) (.t 75)), none⟩, ⟨6, (some 77), (.load false 1 (.t 76)), none⟩, ⟨7, (some 78), (.conv .i64 (.t 77)),
  none⟩, ⟨8, (some 79), (.idx 7 (.t 72) (.t 73)), none⟩, ⟨9, (some 80), (.fld 3 (.t 79)), none⟩, ⟨10, (some 81), (.idxa 4 1 (.t 80) (.t 74)), none⟩, ⟨11,
  none, (.store 1 (.t 81) (.t 78) []), none⟩]) (.seq (.reg [] false [⟨0, (some 82), (.mv (.t 12)), none⟩]) (.cond (.t 82) (.seq (.reg [] true [⟨0, (some 83),
  (.fld 1 (.t 13)), none⟩, ⟨1, (some 84), (.load false 1 (.t 83)), none⟩, ⟨2, (some 85), (.mv (.t 11)), none⟩, ⟨3, (some 86), (.mv (.t 14)), none⟩, ⟨4, (some
  87), (.mv (.t 9)), none⟩, ⟨5, (some 88), (.mv (.t 11)), none⟩, ⟨6, (some 89), (.mv (.t 14)), none⟩, ⟨7, (some 90), (.idx 5 (.t 87) (.t 88)), none⟩, ⟨8,
  (some 91), (.fld 1 (.t 90)), none⟩, ⟨9, (some 92), (.idxa 4 1 (.t 91) (.t 89)), none⟩, ⟨10, (some 93), (.load false 1 (.t 92)), none⟩, ⟨11, (some 94), (.idx
  7 (.t 84) (.t 85)), none⟩, ⟨12, (some 95), (.fld 3 (.t 94)), none⟩, ⟨13, (some 96), (.idxa 4 1 (.t 95) (.t 86)), none⟩, ⟨14, none, (.store 1 (.t 96) (.t 93)
  []), none⟩]) (.seq (.reg [] false [⟨0, (some 97), (.mv (.t 9)), none⟩, ⟨0, (some 98), (.mv (.t 11)), none⟩, ⟨0, (some 99), (.mv (.t 14)), none⟩, ⟨0, (some
  100), (.idx 5 (.t 97) (.t 98)), none⟩, ⟨0, (some 101), (.fld 1 (.t 100)), none⟩, ⟨0, (some 102), (.idxa 4 1 (.t 101) (.t 99)), none⟩, ⟨0, (some 103), (.load
  false 1 (.t 102)), none⟩, ⟨0, (some 104), (.bin .lss (.t 103) (.c (.int .i64 0))), none⟩]) (.cond (.t 104) (.seq (.reg [(13, true)] false [⟨0, (some 105),
  (.load true 2 (.t 13)), none⟩, ⟨0, (some 106), (.callf false (.c (.fn (.func 20) [] [])) [(.t 105)] []), none⟩, ⟨0, (some 107), (.bin .eql (.t 106) (.c
  (.int .i64 2))), none⟩, ⟨0, (some 108), (.mv (.t 107)), none⟩, ⟨0, (some 109), (.callf false (.c (.fn (.func 12) [] [])) [] []), (some (108, true))⟩, ⟨0,
  (some 110), (.pick (.t 108) (.t 109) (.c (.bool false))), none⟩, ⟨0, (some 6), (.mv (.t 110)), none⟩]) .ret) .skip))) .skip))))) (.reg [] false [⟨0, (some
  111), (.bin .add (.t 68) (.c (.int .i64 1))), none⟩, ⟨0, (some 68), (.mv (.t 111)), none⟩])))))
def x8l1 : XCode :=
  (.loop [9, 11, 12, 13, 15, 127, 128] (.seq (.reg [] false [⟨0, (some 129), (.bin .lss (.t 128) (.t 127)), none⟩]) (.seq (.cond (.t 129) .skip (.exit 2)) (.seq
  (.block 3 (.seq (.reg [] false [⟨0, (some 130), (.mv (.t 128)), none⟩, ⟨0, (some 16), (.mv (.t 130)), none⟩]) (.seq (.seq (.reg [] false [⟨0, (some 131),
  (.mv (.t 16)), none⟩, ⟨0, (some 132), (.mv (.t 11)), none⟩, ⟨0, (some 133), (.bin .eql (.t 131) (.t 132)), none⟩]) (.cond (.t 133) (.seq (.seq (.reg [] true
  [⟨0, (some 134), (.mv (.t 15)), none⟩, ⟨1, (some 135), (.mv (.t 16)), none⟩, ⟨2, (some 136), (.idx 5 (.t 134) (.t 135)), none⟩, ⟨3, (some 137), (.load true
  5 (.t 136)), none⟩, ⟨4, (some 138), (.fld 1 (.t 13)), none⟩, ⟨5, (some 139), (.load false 1 (.t 138)), none⟩, ⟨6, (some 140), (.mv (.t 11)), none⟩, ⟨7,
  (some 141), (.idx 7 (.t 139) (.t 140)), none⟩, ⟨8, (some 142), (.fld 3 (.t 141)), none⟩, ⟨9, (some 143), (.load true 4 (.t 142)), none⟩, ⟨10, (some 144),
  (.build [(.int .i64 0), (.int .i64 0), (.int .i64 0), (.int .i64 0), (.int .i64 0)] [(0, (1, (.c (.int .i64 1)))), (1, (4, (.t 143)))]), none⟩, ⟨11, (some
  145), (.eqag true [0, 0, 0, 0, 0] (.t 137) (.t 144)), none⟩]) (.cond (.t 145) (.seq (.reg [] false [⟨0, (some 6), (.mv (.c (.bool false))), none⟩]) .ret)
  .skip)) (.exit 3)) .skip)) (.seq (.reg [] true [⟨0, (some 146), (.mv (.t 9)), none⟩, ⟨1, (some 147), (.mv (.t 16)), none⟩, ⟨2, (some 148), (.idx 5 (.t 146)
  (.t 147)), none⟩, ⟨3, (some 149), (.fld 0 (.t 148)), none⟩, ⟨4, (some 150), (.load false 1 (.t 149)), none⟩, ⟨5, (some 151), (.bin .neq (.t 150) (.c (.int
  .i64 3))), none⟩, ⟨6, (some 152), (.mv (.t 151)), none⟩, ⟨7, (some 153), (.mv (.t 15)), (some (152, true))⟩, ⟨8, (some 154), (.mv (.t 16)), (some (152,
  true))⟩, ⟨9, (some 155), (.idx 5 (.t 153) (.t 154)), (some (152, true))⟩, ⟨10, (some 156), (.load true 5 (.t 155)), (some (152, true))⟩, ⟨11, (some 157),
  (.mv (.t 9)), (some (152, true))⟩, ⟨12, (some 158), (.mv (.t 16)), (some (152, true))⟩, ⟨13, (some 159), (.idx 5 (.t 157) (.t 158)), (some (152, true))⟩,
  ⟨14, (some 160), (.load true 5 (.t 159)), (some (152, true))⟩, ⟨15, (some 161), (.eqag true [0, 0, 0, 0, 0] (.t 156) (.t 160)), (some (152, true))⟩, ⟨16,
  (some 162), (.pick (.t 152) (.t 161) (.c (.bool false))), none⟩, ⟨17, (some 163), (.mv (.t 162)), none⟩, ⟨18, (some 164), (.mv (.t 12)), (some (163,
  false))⟩, ⟨19, (some 165), (.mv (.t 164)), (some (163, false))⟩, ⟨20, (some 166), (.mv (.t 15)), (some (165, true))⟩, ⟨21, (some 167), (.mv (.t 16)), (some
  (165, true))⟩, ⟨22, (some 168), (.idx 5 (.t 166) (.t 167)), (some (165, true))⟩, ⟨23, (some 169), (.load true 5 (.t 168)), (some (165, true))⟩, ⟨24, (some
  170), (.mv (.t 9)), (some (165, true))⟩, ⟨25, (some 171), (.mv (.t 16)), (some (165, true))⟩, ⟨26, (some 172), (.idx 5 (.t 170) (.t 171)), (some (165,
  true))⟩, ⟨27, (some 173), (.load true 5 (.t 172)), (some (165, true))⟩, ⟨28, (some 174), (.eqag true [0, 0, 0, 0, 0] (.t 169) (.t 173)), (some (165,
  true))⟩, ⟨29, (some 175), (.pick (.t 165) (.t 174) (.c (.bool false))), (some (163, false))⟩, ⟨30, (some 176), (.pick (.t 163) (.c (.bool true)) (.t 175)),
  none⟩]) (.cond (.t 176) (.seq (.reg [] false [⟨0, (some 6), (.mv (.c (.bool false))), none⟩]) .ret) .skip))))) (.reg [] false [⟨0, (some 177), (.bin .add
  (.t 128) (.c (.int .i64 1))), none⟩, ⟨0, (some 128), (.mv (.t 177)), none⟩])))))
/-- zafra/zafralaw01.BulkMore -/
def x8 : XFn := ⟨179, [(6, none)], false, false,
  (.seq (.reg [] false [⟨0, (some 3), (.box (.t 0)), none⟩, ⟨0, (some 5), (.box (.t 2)), none⟩, ⟨0, (some 6), (.mv (.c (.bool false))), none⟩]) (.seq (.reg [(3,
  true)] false [⟨0, (some 18), (.load true 4 (.t 3)), none⟩, ⟨0, (some 19), (.callf false (.c (.fn (.func 29) [] [])) [(.t 18)] []), none⟩, ⟨0, (some 17),
  (.mv (.t 19)), none⟩, ⟨0, (some 20), (.ext (.t 17) 0), none⟩, ⟨0, (some 21), (.ext (.t 17) 1), none⟩, ⟨0, (some 7), (.alloc [(.int .i64 0), .nilsl]), none⟩,
  ⟨0, none, (.store 2 (.t 7) (.t 20) []), none⟩, ⟨0, (some 8), (.mv (.t 21)), none⟩]) (.seq (.reg [(7, true)] false [⟨0, (some 23), (.load true 2 (.t 7)),
  none⟩, ⟨0, (some 24), (.callf false (.c (.fn (.func 23) [] [])) [(.t 23)] []), none⟩, ⟨0, (some 22), (.mv (.t 24)), none⟩, ⟨0, (some 25), (.ext (.t 22) 0),
  none⟩, ⟨0, (some 26), (.ext (.t 22) 1), none⟩, ⟨0, (some 9), (.mv (.t 25)), none⟩, ⟨0, (some 10), (.mv (.t 26)), none⟩]) (.seq (.seq (.reg [] false [⟨0,
  (some 27), (.mv (.t 10)), none⟩, ⟨0, (some 28), (.bin .neq (.t 27) (.c (.int .i64 0))), none⟩, ⟨0, (some 29), (.mv (.t 28)), none⟩, ⟨0, (some 30), (.mv (.t
  9)), (some (29, false))⟩, ⟨0, (some 31), (.len false (.t 30)), (some (29, false))⟩, ⟨0, (some 32), (.fld 1 (.t 7)), (some (29, false))⟩, ⟨0, (some 33),
  (.load false 1 (.t 32)), (some (29, false))⟩, ⟨0, (some 34), (.len false (.t 33)), (some (29, false))⟩, ⟨0, (some 35), (.bin .neq (.t 31) (.t 34)), (some
  (29, false))⟩, ⟨0, (some 36), (.pick (.t 29) (.c (.bool true)) (.t 35)), none⟩]) (.cond (.t 36) (.seq (.reg [] false [⟨0, (some 6), (.mv (.c (.bool
  false))), none⟩]) .ret) .skip)) (.seq (.reg [] false [⟨0, (some 37), (.mv (.t 1)), none⟩, ⟨0, (some 38), (.conv .i64 (.t 37)), none⟩, ⟨0, (some 39), (.fld 1
  (.t 7)), none⟩, ⟨0, (some 40), (.load false 1 (.t 39)), none⟩, ⟨0, (some 41), (.len false (.t 40)), none⟩, ⟨0, (some 42), (.bin .rem (.t 38) (.t 41)),
  none⟩, ⟨0, (some 11), (.mv (.t 42)), none⟩]) (.seq (.reg [] false [⟨0, (some 43), (.mv (.t 9)), none⟩, ⟨0, (some 44), (.mv (.t 11)), none⟩, ⟨0, (some 45),
  (.idx 5 (.t 43) (.t 44)), none⟩, ⟨0, (some 46), (.fld 0 (.t 45)), none⟩, ⟨0, (some 47), (.load false 1 (.t 46)), none⟩, ⟨0, (some 48), (.bin .eql (.t 47)
  (.c (.int .i64 2))), none⟩, ⟨0, (some 12), (.mv (.t 48)), none⟩]) (.seq (.seq (.reg [] false [⟨0, (some 49), (.fld 1 (.t 7)), none⟩, ⟨0, (some 50), (.load
  false 1 (.t 49)), none⟩, ⟨0, (some 51), (.mv (.t 11)), none⟩, ⟨0, (some 52), (.idx 7 (.t 50) (.t 51)), none⟩, ⟨0, (some 53), (.fld 2 (.t 52)), none⟩, ⟨0,
  (some 54), (.load false 1 (.t 53)), none⟩]) (.cond (.t 54) (.seq (.reg [] false [⟨0, (some 55), (.callf false (.c (.fn (.func 12) [] [])) [] []), none⟩, ⟨0,
  (some 6), (.mv (.t 55)), none⟩]) .ret) .skip)) (.seq (.reg [] true [⟨0, (some 56), (.fld 0 (.t 7)), none⟩, ⟨1, (some 57), (.load false 1 (.t 56)), none⟩,
  ⟨2, (some 58), (.bslice 7 0 [(.int .i64 0), (.int .i64 0), (.bool false), (.int .i64 0), (.int .i64 0), (.int .i64 0), (.int .i64 0)] []), none⟩, ⟨3, (some
  59), (.fld 1 (.t 7)), none⟩, ⟨4, (some 60), (.load false 1 (.t 59)), none⟩, ⟨5, (some 61), (.app 7 56 (.t 58) (.t 60)), none⟩, ⟨6, (some 62), (.build [(.int
  .i64 0), .nilsl] [(0, (1, (.t 57))), (1, (1, (.t 61)))]), none⟩, ⟨7, (some 13), (.alloc [(.int .i64 0), .nilsl]), none⟩, ⟨8, none, (.store 2 (.t 13) (.t 62)
  []), none⟩]) (.seq (.reg [] false [⟨0, (some 63), (.fld 1 (.t 13)), none⟩, ⟨0, (some 64), (.load false 1 (.t 63)), none⟩, ⟨0, (some 65), (.mv (.t 11)),
  none⟩, ⟨0, (some 66), (.idx 7 (.t 64) (.t 65)), none⟩, ⟨0, (some 67), (.fld 2 (.t 66)), none⟩, ⟨0, none, (.store 1 (.t 67) (.c (.bool true)) []), none⟩])
  (.seq (.seq (.reg [] false [⟨0, (some 68), (.mv (.c (.int .i64 0))), none⟩]) (.block 0 x8l0)) (.seq (.reg [(13, true)] false [⟨0, (some 113), (.load true 2
  (.t 13)), none⟩, ⟨0, (some 114), (.callf false (.c (.fn (.func 23) [] [])) [(.t 113)] []), none⟩, ⟨0, (some 112), (.mv (.t 114)), none⟩, ⟨0, (some 115),
  (.ext (.t 112) 0), none⟩, ⟨0, (some 116), (.ext (.t 112) 1), none⟩, ⟨0, (some 15), (.mv (.t 115)), none⟩, ⟨0, (some 10), (.mv (.t 116)), none⟩]) (.seq (.seq
  (.reg [] false [⟨0, (some 117), (.mv (.t 10)), none⟩, ⟨0, (some 118), (.bin .neq (.t 117) (.c (.int .i64 0))), none⟩, ⟨0, (some 119), (.mv (.t 118)), none⟩,
  ⟨0, (some 120), (.mv (.t 15)), (some (119, false))⟩, ⟨0, (some 121), (.len false (.t 120)), (some (119, false))⟩, ⟨0, (some 122), (.mv (.t 9)), (some (119,
  false))⟩, ⟨0, (some 123), (.len false (.t 122)), (some (119, false))⟩, ⟨0, (some 124), (.bin .neq (.t 121) (.t 123)), (some (119, false))⟩, ⟨0, (some 125),
  (.pick (.t 119) (.c (.bool true)) (.t 124)), none⟩]) (.cond (.t 125) (.seq (.reg [] false [⟨0, (some 6), (.mv (.c (.bool false))), none⟩]) .ret) .skip))
  (.seq (.seq (.reg [] false [⟨0, (some 126), (.mv (.t 9)), none⟩, ⟨0, (some 127), (.len false (.t 126)), none⟩, ⟨0, (some 128), (.mv (.c (.int .i64 0))),
  none⟩]) (.block 2 x8l1)) (.seq (.reg [] false [⟨0, (some 178), (.callf false (.c (.fn (.func 12) [] [])) [] []), none⟩, ⟨0, (some 6), (.mv (.t 178)),
  none⟩]) .ret))))))))))))))⟩
theorem is8 : FnIs prog 8 x8.fn := ⟨fun vs w => call8 vs w, _, _, func8, rfl, rfl, by kernel_rfl, by kernel_rfl⟩
theorem ok8 : okX x8.body = true := by kernel_rfl
theorem st8 : sitesP x8 x8.body := (sitesP_of rfl)

def x9l0 : XCode :=
  (.loop [2, 3, 9, 11, 13, 14, 51, 52] (.seq (.reg [] false [⟨0, (some 53), (.bin .lss (.t 52) (.t 51)), none⟩]) (.seq (.cond (.t 53) .skip (.exit 0)) (.seq
  (.block 1 (.seq (.reg [] false [⟨0, (some 54), (.mv (.t 52)), none⟩, ⟨0, (some 15), (.mv (.t 54)), none⟩]) (.seq (.reg [] false [⟨0, (some 55), (.fld 1 (.t
  9)), none⟩, ⟨0, (some 56), (.load false 1 (.t 55)), none⟩, ⟨0, (some 57), (.fld 1 (.t 9)), none⟩, ⟨0, (some 58), (.load false 1 (.t 57)), none⟩, ⟨0, (some
  59), (.len false (.t 58)), none⟩, ⟨0, (some 60), (.bin .sub (.t 59) (.c (.int .i64 1))), none⟩, ⟨0, (some 61), (.mv (.t 15)), none⟩, ⟨0, (some 62), (.bin
  .sub (.t 60) (.t 61)), none⟩, ⟨0, (some 63), (.idx 7 (.t 56) (.t 62)), none⟩, ⟨0, (some 64), (.load true 7 (.t 63)), none⟩, ⟨0, (some 16), (.alloc [(.int
  .i64 0), (.int .i64 0), (.bool false), (.int .i64 0), (.int .i64 0), (.int .i64 0), (.int .i64 0)]), none⟩, ⟨0, none, (.store 7 (.t 16) (.t 64) []), none⟩])
  (.seq (.reg [(16, true)] true [⟨0, (some 65), (.mv (.t 13)), none⟩, ⟨1, (some 66), (.fld 0 (.t 16)), none⟩, ⟨2, (some 67), (.load false 1 (.t 66)), none⟩,
  ⟨4, (some 69), (.mv (.t 13)), none⟩, ⟨5, (some 70), (.fld 1 (.t 16)), none⟩, ⟨6, (some 71), (.load false 1 (.t 70)), none⟩, ⟨3, (some 68), (.callf false (.t
  65) [(.t 67)] [6]), none⟩, ⟨8, (some 73), (.fld 0 (.t 16)), none⟩, ⟨7, (some 72), (.callf false (.t 69) [(.t 71)] []), none⟩, ⟨9, none, (.store 1 (.t 73)
  (.t 68) []), none⟩, ⟨10, (some 74), (.fld 1 (.t 16)), none⟩, ⟨11, none, (.store 1 (.t 74) (.t 72) []), none⟩]) (.reg [(16, true)] false [⟨0, (some 75),
  (.fld 1 (.t 14)), none⟩, ⟨0, (some 76), (.load false 1 (.t 75)), none⟩, ⟨0, (some 77), (.load true 7 (.t 16)), none⟩, ⟨0, (some 78), (.bslice 7 1 [(.int
  .i64 0), (.int .i64 0), (.bool false), (.int .i64 0), (.int .i64 0), (.int .i64 0), (.int .i64 0)] [(0, (7, (.t 77)))]), none⟩, ⟨0, (some 79), (.app 7 56
  (.t 76) (.t 78)), none⟩, ⟨0, (some 80), (.fld 1 (.t 14)), none⟩, ⟨0, none, (.store 1 (.t 80) (.t 79) []), none⟩]))))) (.reg [] false [⟨0, (some 81), (.bin
  .add (.t 52) (.c (.int .i64 1))), none⟩, ⟨0, (some 52), (.mv (.t 81)), none⟩])))))
def x9l1 : XCode :=
  (.loop [3, 9, 11, 14, 17, 18, 19, 106] (.seq (.reg [] false [⟨0, (some 107), (.bin .lss (.t 106) (.c (.int .i64 4))), none⟩]) (.seq (.cond (.t 107) .skip
  (.exit 2)) (.seq (.block 3 (.seq (.reg [] false [⟨0, (some 108), (.mv (.t 106)), none⟩, ⟨0, (some 20), (.mv (.t 108)), none⟩]) (.seq (.reg [] false [⟨0,
  (some 109), (.mv (.t 20)), none⟩, ⟨0, (some 110), (.fld 1 (.t 9)), none⟩, ⟨0, (some 111), (.load false 1 (.t 110)), none⟩, ⟨0, (some 112), (.mv (.t 17)),
  none⟩, ⟨0, (some 113), (.mv (.t 20)), none⟩, ⟨0, (some 114), (.idx 7 (.t 111) (.t 112)), none⟩, ⟨0, (some 115), (.fld 3 (.t 114)), none⟩, ⟨0, (some 116),
  (.idxa 4 1 (.t 115) (.t 113)), none⟩, ⟨0, (some 117), (.load false 1 (.t 116)), none⟩, ⟨0, (some 118), (.mv (.t 3)), none⟩, ⟨0, (some 119), (.conv .i64 (.t
  118)), none⟩, ⟨0, (some 120), (.bin .rem (.t 119) (.c (.int .i64 5))), none⟩, ⟨0, (some 121), (.bin .mul (.t 117) (.t 120)), none⟩, ⟨0, (some 122), (.bin
  .quo (.t 121) (.c (.int .i64 5))), none⟩, ⟨0, (some 123), (.fld 3 (.t 19)), none⟩, ⟨0, (some 124), (.idxa 4 1 (.t 123) (.t 109)), none⟩, ⟨0, none, (.store 1
  (.t 124) (.t 122) []), none⟩]) (.reg [] true [⟨0, (some 125), (.fld 1 (.t 18)), none⟩, ⟨1, (some 126), (.load false 1 (.t 125)), none⟩, ⟨2, (some 127), (.mv
  (.t 17)), none⟩, ⟨3, (some 128), (.mv (.t 20)), none⟩, ⟨4, (some 129), (.idx 7 (.t 126) (.t 127)), none⟩, ⟨5, (some 130), (.fld 3 (.t 129)), none⟩, ⟨6,
  (some 131), (.idxa 4 1 (.t 130) (.t 128)), none⟩, ⟨7, (some 132), (.load false 1 (.t 131)), none⟩, ⟨8, (some 133), (.mv (.t 20)), none⟩, ⟨9, (some 134),
  (.fld 3 (.t 19)), none⟩, ⟨10, (some 135), (.idxa 4 1 (.t 134) (.t 133)), none⟩, ⟨11, (some 136), (.load false 1 (.t 135)), none⟩, ⟨12, (some 137), (.bin
  .sub (.t 132) (.t 136)), none⟩, ⟨13, (some 138), (.idx 7 (.t 126) (.t 127)), none⟩, ⟨14, (some 139), (.fld 3 (.t 138)), none⟩, ⟨15, (some 140), (.idxa 4 1
  (.t 139) (.t 128)), none⟩, ⟨16, none, (.store 1 (.t 140) (.t 137) []), none⟩])))) (.reg [] false [⟨0, (some 141), (.bin .add (.t 106) (.c (.int .i64 1))),
  none⟩, ⟨0, (some 106), (.mv (.t 141)), none⟩])))))
def x9l2 : XCode :=
  (.loop [11, 17, 21, 22, 180, 181] (.seq (.reg [] false [⟨0, (some 182), (.bin .lss (.t 181) (.t 180)), none⟩]) (.seq (.cond (.t 182) .skip (.exit 4)) (.seq
  (.block 5 (.seq (.reg [] false [⟨0, (some 183), (.mv (.t 181)), none⟩, ⟨0, (some 24), (.mv (.t 183)), none⟩]) (.seq (.reg [] true [⟨0, (some 184), (.mv (.t
  21)), none⟩, ⟨1, (some 185), (.mv (.t 11)), none⟩, ⟨2, (some 186), (.len false (.t 185)), none⟩, ⟨3, (some 187), (.bin .sub (.t 186) (.c (.int .i64 1))),
  none⟩, ⟨4, (some 188), (.mv (.t 24)), none⟩, ⟨5, (some 189), (.bin .sub (.t 187) (.t 188)), none⟩, ⟨6, (some 190), (.idx 5 (.t 184) (.t 189)), none⟩, ⟨7,
  (some 191), (.load true 5 (.t 190)), none⟩, ⟨8, (some 192), (.mv (.t 11)), none⟩, ⟨9, (some 193), (.mv (.t 24)), none⟩, ⟨10, (some 194), (.idx 5 (.t 192)
  (.t 193)), none⟩, ⟨11, (some 195), (.load true 5 (.t 194)), none⟩, ⟨12, (some 196), (.eqag true [0, 0, 0, 0, 0] (.t 191) (.t 195)), none⟩, ⟨13, (some 197),
  (.mv (.t 196)), none⟩, ⟨14, (some 198), (.mv (.t 24)), (some (197, false))⟩, ⟨15, (some 199), (.mv (.t 17)), (some (197, false))⟩, ⟨16, (some 200), (.bin
  .neq (.t 198) (.t 199)), (some (197, false))⟩, ⟨17, (some 201), (.mv (.t 200)), (some (197, false))⟩, ⟨18, (some 202), (.mv (.t 22)), (some (201, true))⟩,
  ⟨19, (some 203), (.mv (.t 24)), (some (201, true))⟩, ⟨20, (some 204), (.idx 5 (.t 202) (.t 203)), (some (201, true))⟩, ⟨21, (some 205), (.load true 5 (.t
  204)), (some (201, true))⟩, ⟨22, (some 206), (.mv (.t 11)), (some (201, true))⟩, ⟨23, (some 207), (.mv (.t 24)), (some (201, true))⟩, ⟨24, (some 208), (.idx
  5 (.t 206) (.t 207)), (some (201, true))⟩, ⟨25, (some 209), (.load true 5 (.t 208)), (some (201, true))⟩, ⟨26, (some 210), (.eqag true [0, 0, 0, 0, 0] (.t
  205) (.t 209)), (some (201, true))⟩, ⟨27, (some 211), (.pick (.t 201) (.t 210) (.c (.bool false))), (some (197, false))⟩, ⟨28, (some 212), (.pick (.t 197)
  (.c (.bool true)) (.t 211)), none⟩]) (.cond (.t 212) (.seq (.reg [] false [⟨0, (some 8), (.mv (.c (.bool false))), none⟩]) .ret) .skip)))) (.reg [] false
  [⟨0, (some 213), (.bin .add (.t 181) (.c (.int .i64 1))), none⟩, ⟨0, (some 181), (.mv (.t 213)), none⟩])))))
/-- zafra/zafralaw01.BulkOrder -/
def x9 : XFn := ⟨215, [(8, none)], false, false,
  (.seq (.reg [] false [⟨0, (some 4), (.box (.t 0)), none⟩, ⟨0, (some 5), (.box (.t 1)), none⟩, ⟨0, (some 8), (.mv (.c (.bool false))), none⟩]) (.seq (.reg [(4,
  true)] false [⟨0, (some 26), (.load true 4 (.t 4)), none⟩, ⟨0, (some 27), (.callf false (.c (.fn (.func 29) [] [])) [(.t 26)] []), none⟩, ⟨0, (some 25),
  (.mv (.t 27)), none⟩, ⟨0, (some 28), (.ext (.t 25) 0), none⟩, ⟨0, (some 29), (.ext (.t 25) 1), none⟩, ⟨0, (some 9), (.alloc [(.int .i64 0), .nilsl]), none⟩,
  ⟨0, none, (.store 2 (.t 9) (.t 28) []), none⟩, ⟨0, (some 10), (.mv (.t 29)), none⟩]) (.seq (.reg [(9, true)] false [⟨0, (some 31), (.load true 2 (.t 9)),
  none⟩, ⟨0, (some 32), (.callf false (.c (.fn (.func 23) [] [])) [(.t 31)] []), none⟩, ⟨0, (some 30), (.mv (.t 32)), none⟩, ⟨0, (some 33), (.ext (.t 30) 0),
  none⟩, ⟨0, (some 34), (.ext (.t 30) 1), none⟩, ⟨0, (some 11), (.mv (.t 33)), none⟩, ⟨0, (some 12), (.mv (.t 34)), none⟩]) (.seq (.seq (.reg [] false [⟨0,
  (some 35), (.mv (.t 12)), none⟩, ⟨0, (some 36), (.bin .neq (.t 35) (.c (.int .i64 0))), none⟩, ⟨0, (some 37), (.mv (.t 36)), none⟩, ⟨0, (some 38), (.mv (.t
  11)), (some (37, false))⟩, ⟨0, (some 39), (.len false (.t 38)), (some (37, false))⟩, ⟨0, (some 40), (.fld 1 (.t 9)), (some (37, false))⟩, ⟨0, (some 41),
  (.load false 1 (.t 40)), (some (37, false))⟩, ⟨0, (some 42), (.len false (.t 41)), (some (37, false))⟩, ⟨0, (some 43), (.bin .neq (.t 39) (.t 42)), (some
  (37, false))⟩, ⟨0, (some 44), (.pick (.t 37) (.c (.bool true)) (.t 43)), none⟩]) (.cond (.t 44) (.seq (.reg [] false [⟨0, (some 8), (.mv (.c (.bool
  false))), none⟩]) .ret) .skip)) (.seq (.reg [] false [⟨0, (some 45), (.mkf (.func 31) [] [(.t 5), (.t 9)]), none⟩, ⟨0, (some 13), (.mv (.t 45)), none⟩])
  (.seq (.reg [] false [⟨0, (some 46), (.fld 0 (.t 9)), none⟩, ⟨0, (some 47), (.load false 1 (.t 46)), none⟩, ⟨0, (some 48), (.build [(.int .i64 0), .nilsl]
  [(0, (1, (.t 47)))]), none⟩, ⟨0, (some 14), (.alloc [(.int .i64 0), .nilsl]), none⟩, ⟨0, none, (.store 2 (.t 14) (.t 48) []), none⟩]) (.seq (.seq (.reg []
  false [⟨0, (some 49), (.fld 1 (.t 9)), none⟩, ⟨0, (some 50), (.load false 1 (.t 49)), none⟩, ⟨0, (some 51), (.len false (.t 50)), none⟩, ⟨0, (some 52), (.mv
  (.c (.int .i64 0))), none⟩]) (.block 0 x9l0)) (.seq (.reg [] false [⟨0, (some 82), (.mv (.t 2)), none⟩, ⟨0, (some 83), (.conv .i64 (.t 82)), none⟩, ⟨0,
  (some 84), (.fld 1 (.t 9)), none⟩, ⟨0, (some 85), (.load false 1 (.t 84)), none⟩, ⟨0, (some 86), (.len false (.t 85)), none⟩, ⟨0, (some 87), (.bin .rem (.t
  83) (.t 86)), none⟩, ⟨0, (some 17), (.mv (.t 87)), none⟩]) (.seq (.reg [] true [⟨0, (some 88), (.fld 0 (.t 9)), none⟩, ⟨1, (some 89), (.load false 1 (.t
  88)), none⟩, ⟨2, (some 90), (.bslice 7 0 [(.int .i64 0), (.int .i64 0), (.bool false), (.int .i64 0), (.int .i64 0), (.int .i64 0), (.int .i64 0)] []),
  none⟩, ⟨3, (some 91), (.fld 1 (.t 9)), none⟩, ⟨4, (some 92), (.load false 1 (.t 91)), none⟩, ⟨5, (some 93), (.app 7 56 (.t 90) (.t 92)), none⟩, ⟨6, (some
  94), (.build [(.int .i64 0), .nilsl] [(0, (1, (.t 89))), (1, (1, (.t 93)))]), none⟩, ⟨7, (some 18), (.alloc [(.int .i64 0), .nilsl]), none⟩, ⟨8, none,
  (.store 2 (.t 18) (.t 94) []), none⟩]) (.seq (.seq (.reg [] false [⟨0, (some 95), (.fld 1 (.t 9)), none⟩, ⟨0, (some 96), (.load false 1 (.t 95)), none⟩, ⟨0,
  (some 97), (.mv (.t 17)), none⟩, ⟨0, (some 98), (.idx 7 (.t 96) (.t 97)), none⟩, ⟨0, (some 99), (.fld 2 (.t 98)), none⟩, ⟨0, (some 100), (.load false 1 (.t
  99)), none⟩]) (.cond (.t 100) (.seq (.reg [] false [⟨0, (some 101), (.fld 1 (.t 9)), none⟩, ⟨0, (some 102), (.load false 1 (.t 101)), none⟩, ⟨0, (some 103),
  (.mv (.t 17)), none⟩, ⟨0, (some 104), (.idx 7 (.t 102) (.t 103)), none⟩, ⟨0, (some 105), (.load true 7 (.t 104)), none⟩, ⟨0, (some 19), (.alloc [(.int .i64
  0), (.int .i64 0), (.bool false), (.int .i64 0), (.int .i64 0), (.int .i64 0), (.int .i64 0)]), none⟩, ⟨0, none, (.store 7 (.t 19) (.t 105) []), none⟩])
  (.seq (.seq (.reg [] false [⟨0, (some 106), (.mv (.c (.int .i64 0))), none⟩]) (.block 2 x9l1)) (.reg [(19, true)] false [⟨0, (some 142), (.fld 1 (.t 18)),
  none⟩, ⟨0, (some 143), (.load false 1 (.t 142)), none⟩, ⟨0, (some 144), (.load true 7 (.t 19)), none⟩, ⟨0, (some 145), (.bslice 7 1 [(.int .i64 0), (.int
  .i64 0), (.bool false), (.int .i64 0), (.int .i64 0), (.int .i64 0), (.int .i64 0)] [(0, (7, (.t 144)))]), none⟩, ⟨0, (some 146), (.app 7 56 (.t 143) (.t
  145)), none⟩, ⟨0, (some 147), (.fld 1 (.t 18)), none⟩, ⟨0, none, (.store 1 (.t 147) (.t 146) []), none⟩]))) .skip)) (.seq (.reg [(14, true)] false [⟨0,
  (some 149), (.load true 2 (.t 14)), none⟩, ⟨0, (some 150), (.callf false (.c (.fn (.func 23) [] [])) [(.t 149)] []), none⟩, ⟨0, (some 148), (.mv (.t 150)),
  none⟩, ⟨0, (some 151), (.ext (.t 148) 0), none⟩, ⟨0, (some 152), (.ext (.t 148) 1), none⟩, ⟨0, (some 21), (.mv (.t 151)), none⟩, ⟨0, (some 12), (.mv (.t
  152)), none⟩]) (.seq (.reg [(18, true)] false [⟨0, (some 154), (.load true 2 (.t 18)), none⟩, ⟨0, (some 155), (.callf false (.c (.fn (.func 23) [] [])) [(.t
  154)] []), none⟩, ⟨0, (some 153), (.mv (.t 155)), none⟩, ⟨0, (some 156), (.ext (.t 153) 0), none⟩, ⟨0, (some 157), (.ext (.t 153) 1), none⟩, ⟨0, (some 22),
  (.mv (.t 156)), none⟩, ⟨0, (some 23), (.mv (.t 157)), none⟩]) (.seq (.seq (.reg [] false [⟨0, (some 158), (.mv (.t 12)), none⟩, ⟨0, (some 159), (.bin .neq
  (.t 158) (.c (.int .i64 0))), none⟩, ⟨0, (some 160), (.mv (.t 159)), none⟩, ⟨0, (some 161), (.mv (.t 23)), (some (160, false))⟩, ⟨0, (some 162), (.bin .neq
  (.t 161) (.c (.int .i64 0))), (some (160, false))⟩, ⟨0, (some 163), (.pick (.t 160) (.c (.bool true)) (.t 162)), none⟩, ⟨0, (some 164), (.mv (.t 163)),
  none⟩, ⟨0, (some 165), (.mv (.t 21)), (some (164, false))⟩, ⟨0, (some 166), (.len false (.t 165)), (some (164, false))⟩, ⟨0, (some 167), (.mv (.t 11)),
  (some (164, false))⟩, ⟨0, (some 168), (.len false (.t 167)), (some (164, false))⟩, ⟨0, (some 169), (.bin .neq (.t 166) (.t 168)), (some (164, false))⟩, ⟨0,
  (some 170), (.pick (.t 164) (.c (.bool true)) (.t 169)), none⟩, ⟨0, (some 171), (.mv (.t 170)), none⟩, ⟨0, (some 172), (.mv (.t 22)), (some (171, false))⟩,
  ⟨0, (some 173), (.len false (.t 172)), (some (171, false))⟩, ⟨0, (some 174), (.fld 1 (.t 18)), (some (171, false))⟩, ⟨0, (some 175), (.load false 1 (.t
  174)), (some (171, false))⟩, ⟨0, (some 176), (.len false (.t 175)), (some (171, false))⟩, ⟨0, (some 177), (.bin .neq (.t 173) (.t 176)), (some (171,
  false))⟩, ⟨0, (some 178), (.pick (.t 171) (.c (.bool true)) (.t 177)), none⟩]) (.cond (.t 178) (.seq (.reg [] false [⟨0, (some 8), (.mv (.c (.bool false))),
  none⟩]) .ret) .skip)) (.seq (.seq (.reg [] false [⟨0, (some 179), (.mv (.t 11)), none⟩, ⟨0, (some 180), (.len false (.t 179)), none⟩, ⟨0, (some 181), (.mv
  (.c (.int .i64 0))), none⟩]) (.block 4 x9l2)) (.seq (.reg [] false [⟨0, (some 214), (.callf false (.c (.fn (.func 12) [] [])) [] []), none⟩, ⟨0, (some 8),
  (.mv (.t 214)), none⟩]) .ret)))))))))))))))⟩
theorem is9 : FnIs prog 9 x9.fn := ⟨fun vs w => call9 vs w, _, _, func9, rfl, rfl, by kernel_rfl, by kernel_rfl⟩
theorem ok9 : okX x9.body = true := by kernel_rfl
theorem st9 : sitesP x9 x9.body := (sitesP_of rfl)

/-- zafra/zafralaw01.BulkKnown -/
def x10 : XFn := ⟨58, [(0, none)], false, false,
  (.seq (.reg [] false [⟨0, (some 0), (.mv (.c (.bool false))), none⟩]) (.seq (.reg [] false [⟨0, (some 8), (.callf false (.c (.fn (.func 32) [] [])) [] []),
  none⟩, ⟨0, (some 1), (.alloc [(.int .i64 0), .nilsl]), none⟩, ⟨0, none, (.store 2 (.t 1) (.t 8) []), none⟩]) (.seq (.reg [(1, true)] false [⟨0, (some 10),
  (.load true 2 (.t 1)), none⟩, ⟨0, (some 11), (.bslice 1 2 [(.int .i64 0)] [(0, (1, (.c (.int .i64 1)))), (1, (1, (.c (.int .i64 1))))]), none⟩, ⟨0, (some
  12), (.callf false (.c (.fn (.func 16) [] [])) [(.t 10), (.t 11)] []), none⟩, ⟨0, (some 9), (.mv (.t 12)), none⟩, ⟨0, (some 13), (.ext (.t 9) 0), none⟩, ⟨0,
  (some 14), (.ext (.t 9) 1), none⟩, ⟨0, (some 2), (.alloc [(.int .i64 0), (.int .i64 0), (.int .i64 0), (.int .i64 0)]), none⟩, ⟨0, none, (.store 4 (.t 2)
  (.t 13) []), none⟩, ⟨0, (some 3), (.mv (.t 14)), none⟩]) (.seq (.reg [(1, true)] false [⟨0, (some 16), (.load true 2 (.t 1)), none⟩, ⟨0, (some 17), (.build
  [(.int .i64 0), (.int .i64 0), (.int .i64 0), (.int .i64 0)] [(0, (1, (.c (.int .i64 95)))), (1, (1, (.c (.int .i64 450)))), (2, (1, (.c (.int .i64 5)))),
  (3, (1, (.c (.int .i64 11))))]), none⟩, ⟨0, (some 18), (.callf false (.c (.fn (.func 33) [] [])) [(.t 16), (.c (.int .i64 1)), (.t 17)] []), none⟩, ⟨0,
  (some 15), (.mv (.t 18)), none⟩, ⟨0, (some 19), (.ext (.t 15) 0), none⟩, ⟨0, (some 20), (.ext (.t 15) 1), none⟩, ⟨0, (some 4), (.mv (.t 19)), none⟩, ⟨0,
  (some 5), (.mv (.t 20)), none⟩]) (.seq (.reg [(1, true)] false [⟨0, (some 22), (.load true 2 (.t 1)), none⟩, ⟨0, (some 23), (.callf false (.c (.fn (.func
  23) [] [])) [(.t 22)] []), none⟩, ⟨0, (some 21), (.mv (.t 23)), none⟩, ⟨0, (some 24), (.ext (.t 21) 0), none⟩, ⟨0, (some 25), (.ext (.t 21) 1), none⟩, ⟨0,
  (some 6), (.mv (.t 24)), none⟩, ⟨0, (some 7), (.mv (.t 25)), none⟩]) (.seq (.reg [(1, true)] false [⟨0, (some 26), (.mv (.t 3)), none⟩, ⟨0, (some 27), (.bin
  .eql (.t 26) (.c (.int .i64 7))), none⟩, ⟨0, (some 28), (.mv (.t 27)), none⟩, ⟨0, (some 29), (.mv (.t 5)), (some (28, true))⟩, ⟨0, (some 30), (.bin .eql (.t
  29) (.c (.int .i64 22))), (some (28, true))⟩, ⟨0, (some 31), (.pick (.t 28) (.t 30) (.c (.bool false))), none⟩, ⟨0, (some 32), (.mv (.t 31)), none⟩, ⟨0,
  (some 33), (.mv (.t 7)), (some (32, true))⟩, ⟨0, (some 34), (.bin .eql (.t 33) (.c (.int .i64 0))), (some (32, true))⟩, ⟨0, (some 35), (.pick (.t 32) (.t
  34) (.c (.bool false))), none⟩, ⟨0, (some 36), (.mv (.t 35)), none⟩, ⟨0, (some 37), (.mv (.t 6)), (some (36, true))⟩, ⟨0, (some 38), (.len false (.t 37)),
  (some (36, true))⟩, ⟨0, (some 39), (.bin .eql (.t 38) (.c (.int .i64 7))), (some (36, true))⟩, ⟨0, (some 40), (.pick (.t 36) (.t 39) (.c (.bool false))),
  none⟩, ⟨0, (some 41), (.mv (.t 40)), none⟩, ⟨0, (some 42), (.mv (.t 6)), (some (41, true))⟩, ⟨0, (some 43), (.idx 5 (.t 42) (.c (.int .i64 4))), (some (41,
  true))⟩, ⟨0, (some 44), (.load true 5 (.t 43)), (some (41, true))⟩, ⟨0, (some 45), (.build [(.int .i64 0), (.int .i64 0), (.int .i64 0), (.int .i64 0)] [(0,
  (1, (.c (.int .i64 5)))), (1, (1, (.c (.int .i64 410)))), (2, (1, (.c (.int .i64 5)))), (3, (1, (.c (.int .i64 6))))]), (some (41, true))⟩, ⟨0, (some 46),
  (.build [(.int .i64 0), (.int .i64 0), (.int .i64 0), (.int .i64 0), (.int .i64 0)] [(0, (1, (.c (.int .i64 2)))), (1, (4, (.t 45)))]), (some (41, true))⟩,
  ⟨0, (some 47), (.eqag false [0, 0, 0, 0, 0] (.t 44) (.t 46)), (some (41, true))⟩, ⟨0, (some 48), (.pick (.t 41) (.t 47) (.c (.bool false))), none⟩, ⟨0,
  (some 49), (.mv (.t 48)), none⟩, ⟨0, (some 50), (.load true 2 (.t 1)), (some (49, true))⟩, ⟨0, (some 51), (.bslice 1 1 [(.int .i64 0)] [(0, (1, (.c (.int
  .i64 0))))]), (some (49, true))⟩, ⟨0, (some 52), (.callf false (.c (.fn (.func 28) [] [])) [(.t 50), (.t 51), (.c (.int .i64 0))] []), (some (49, true))⟩,
  ⟨0, (some 53), (.bin .eql (.t 52) (.c (.int .i64 11))), (some (49, true))⟩, ⟨0, (some 54), (.pick (.t 49) (.t 53) (.c (.bool false))), none⟩, ⟨0, (some 55),
  (.mv (.t 54)), none⟩, ⟨0, (some 56), (.callf false (.c (.fn (.func 12) [] [])) [] []), (some (55, true))⟩, ⟨0, (some 57), (.pick (.t 55) (.t 56) (.c (.bool
  false))), none⟩, ⟨0, (some 0), (.mv (.t 57)), none⟩]) .ret))))))⟩
theorem is10 : FnIs prog 10 x10.fn := ⟨fun vs w => call10 vs w, _, _, func10, rfl, rfl, by kernel_rfl, by kernel_rfl⟩
theorem ok10 : okX x10.body = true := by kernel_rfl
theorem st10 : sitesP x10 x10.body := (sitesP_of rfl)

def x11l0 : XCode :=
  (.loop [1, 2, 7, 8, 9, 51, 52, 53] (.seq (.reg [] false [⟨0, (some 54), (.bin .lss (.t 53) (.t 52)), none⟩]) (.seq (.cond (.t 54) .skip (.exit 0)) (.seq
  (.block 1 (.seq (.reg [] false [⟨0, (some 55), (.mv (.t 53)), none⟩, ⟨0, (some 56), (.idx 7 (.t 51) (.t 53)), none⟩, ⟨0, (some 57), (.load true 7 (.t 56)),
  none⟩, ⟨0, (some 15), (.alloc [(.int .i64 0), (.int .i64 0), (.bool false), (.int .i64 0), (.int .i64 0), (.int .i64 0), (.int .i64 0)]), none⟩, ⟨0, (some
  14), (.mv (.t 55)), none⟩, ⟨0, none, (.store 7 (.t 15) (.t 57) []), none⟩]) (.seq (.reg [] false [⟨0, (some 16), (.mv (.c (.int .i64 2))), none⟩]) (.seq
  (.seq (.reg [] false [⟨0, (some 58), (.fld 2 (.t 15)), none⟩, ⟨0, (some 59), (.load false 1 (.t 58)), none⟩]) (.cond (.t 59) (.reg [] false [⟨0, (some 16),
  (.mv (.c (.int .i64 1))), none⟩]) (.seq (.reg [(7, true), (15, true)] false [⟨0, (some 60), (.load true 2 (.t 7)), none⟩, ⟨0, (some 61), (.fld 0 (.t 15)),
  none⟩, ⟨0, (some 62), (.load false 1 (.t 61)), none⟩, ⟨0, (some 63), (.fld 1 (.t 15)), none⟩, ⟨0, (some 64), (.load false 1 (.t 63)), none⟩, ⟨0, (some 65),
  (.mv (.t 14)), none⟩, ⟨0, (some 66), (.callf false (.c (.fn (.func 30) [] [])) [(.t 60), (.t 62), (.t 64), (.t 65)] []), none⟩]) (.cond (.t 66) (.reg []
  false [⟨0, (some 16), (.mv (.c (.int .i64 3))), none⟩]) .skip)))) (.seq (.reg [] true [⟨0, (some 67), (.mv (.t 9)), none⟩, ⟨1, (some 68), (.mv (.t 14)),
  none⟩, ⟨2, (some 69), (.idx 5 (.t 67) (.t 68)), none⟩, ⟨3, (some 70), (.fld 0 (.t 69)), none⟩, ⟨4, (some 71), (.load false 1 (.t 70)), none⟩, ⟨5, (some 72),
  (.mv (.t 16)), none⟩, ⟨6, (some 73), (.bin .neq (.t 71) (.t 72)), none⟩, ⟨7, (some 74), (.mv (.t 73)), none⟩, ⟨8, (some 75), (.mv (.t 16)), (some (74,
  false))⟩, ⟨9, (some 76), (.bin .neq (.t 75) (.c (.int .i64 3))), (some (74, false))⟩, ⟨10, (some 77), (.mv (.t 76)), (some (74, false))⟩, ⟨11, (some 78),
  (.mv (.t 9)), (some (77, true))⟩, ⟨12, (some 79), (.mv (.t 14)), (some (77, true))⟩, ⟨13, (some 80), (.idx 5 (.t 78) (.t 79)), (some (77, true))⟩, ⟨14,
  (some 81), (.fld 1 (.t 80)), (some (77, true))⟩, ⟨15, (some 82), (.load true 4 (.t 81)), (some (77, true))⟩, ⟨16, (some 83), (.mv (.t 8)), (some (77,
  true))⟩, ⟨17, (some 84), (.mv (.t 14)), (some (77, true))⟩, ⟨18, (some 85), (.idx 4 (.t 83) (.t 84)), (some (77, true))⟩, ⟨19, (some 86), (.load true 4 (.t
  85)), (some (77, true))⟩, ⟨20, (some 87), (.eqag true [0, 0, 0, 0] (.t 82) (.t 86)), (some (77, true))⟩, ⟨21, (some 88), (.pick (.t 77) (.t 87) (.c (.bool
  false))), (some (74, false))⟩, ⟨22, (some 89), (.pick (.t 74) (.c (.bool true)) (.t 88)), none⟩, ⟨23, (some 90), (.mv (.t 89)), none⟩, ⟨24, (some 91), (.mv
  (.t 16)), (some (90, false))⟩, ⟨25, (some 92), (.bin .eql (.t 91) (.c (.int .i64 3))), (some (90, false))⟩, ⟨26, (some 93), (.mv (.t 92)), (some (90,
  false))⟩, ⟨27, (some 94), (.mv (.t 9)), (some (93, true))⟩, ⟨28, (some 95), (.mv (.t 14)), (some (93, true))⟩, ⟨29, (some 96), (.idx 5 (.t 94) (.t 95)),
  (some (93, true))⟩, ⟨30, (some 97), (.fld 1 (.t 96)), (some (93, true))⟩, ⟨31, (some 98), (.load true 4 (.t 97)), (some (93, true))⟩, ⟨32, (some 99),
  (.build [(.int .i64 0), (.int .i64 0), (.int .i64 0), (.int .i64 0)] []), (some (93, true))⟩, ⟨33, (some 100), (.eqag true [0, 0, 0, 0] (.t 98) (.t 99)),
  (some (93, true))⟩, ⟨34, (some 101), (.pick (.t 93) (.t 100) (.c (.bool false))), (some (90, false))⟩, ⟨35, (some 102), (.pick (.t 90) (.c (.bool true)) (.t
  101)), none⟩]) (.cond (.t 102) (.seq (.reg [] false [⟨0, (some 6), (.mv (.c (.bool false))), none⟩]) .ret) .skip)))))) (.reg [] false [⟨0, (some 103), (.bin
  .add (.t 53) (.c (.int .i64 1))), none⟩, ⟨0, (some 53), (.mv (.t 103)), none⟩])))))
def x11l1 : XCode :=
  (.loop [1, 2, 7, 18, 19] (.seq (.seq (.reg [] false [⟨0, (some 116), (.mv (.t 19)), none⟩, ⟨0, (some 117), (.fld 0 (.t 7)), none⟩, ⟨0, (some 118), (.load
  false 1 (.t 117)), none⟩, ⟨0, (some 119), (.bin .lss (.t 116) (.t 118)), none⟩]) (.cond (.t 119) .skip (.exit 2))) (.seq (.block 3 (.seq (.reg [] false [⟨0,
  (some 122), (.mv (.t 1)), none⟩, ⟨0, (some 123), (.mv (.t 19)), none⟩, ⟨0, (some 124), (.bin .shr (.t 122) (.t 123)), none⟩, ⟨0, (some 125), (.bin .and (.t
  124) (.c (.int .u8 1))), none⟩, ⟨0, (some 126), (.bin .eql (.t 125) (.c (.int .u8 1))), none⟩]) (.cond (.t 126) (.reg [] false [⟨0, (some 127), (.mv (.t
  18)), none⟩, ⟨0, (some 128), (.mv (.t 19)), none⟩, ⟨0, (some 129), (.bslice 1 1 [(.int .i64 0)] [(0, (1, (.t 128)))]), none⟩, ⟨0, (some 130), (.app 1 8 (.t
  127) (.t 129)), none⟩, ⟨0, (some 18), (.mv (.t 130)), none⟩]) .skip))) (.reg [] false [⟨0, (some 120), (.mv (.t 19)), none⟩, ⟨0, (some 121), (.bin .add (.t
  120) (.c (.int .i64 1))), none⟩, ⟨0, (some 19), (.mv (.t 121)), none⟩]))))
/-- zafra/zafralaw01.BulkTrue -/
def x11 : XFn := ⟨145, [(6, none)], false, false,
  (.seq (.reg [] false [⟨0, (some 3), (.box (.t 0)), none⟩, ⟨0, (some 6), (.mv (.c (.bool false))), none⟩]) (.seq (.reg [(3, true)] false [⟨0, (some 21), (.load
  true 4 (.t 3)), none⟩, ⟨0, (some 22), (.callf false (.c (.fn (.func 29) [] [])) [(.t 21)] []), none⟩, ⟨0, (some 20), (.mv (.t 22)), none⟩, ⟨0, (some 23),
  (.ext (.t 20) 0), none⟩, ⟨0, (some 24), (.ext (.t 20) 1), none⟩, ⟨0, (some 7), (.alloc [(.int .i64 0), .nilsl]), none⟩, ⟨0, none, (.store 2 (.t 7) (.t 23)
  []), none⟩, ⟨0, (some 8), (.mv (.t 24)), none⟩]) (.seq (.reg [(7, true)] false [⟨0, (some 26), (.load true 2 (.t 7)), none⟩, ⟨0, (some 27), (.callf false
  (.c (.fn (.func 23) [] [])) [(.t 26)] []), none⟩, ⟨0, (some 25), (.mv (.t 27)), none⟩, ⟨0, (some 28), (.ext (.t 25) 0), none⟩, ⟨0, (some 29), (.ext (.t 25)
  1), none⟩, ⟨0, (some 9), (.mv (.t 28)), none⟩, ⟨0, (some 10), (.mv (.t 29)), none⟩]) (.seq (.reg [(7, true)] false [⟨0, (some 31), (.load true 2 (.t 7)),
  none⟩, ⟨0, (some 32), (.callf false (.c (.fn (.func 25) [] [])) [(.t 31)] []), none⟩, ⟨0, (some 30), (.mv (.t 32)), none⟩, ⟨0, (some 33), (.ext (.t 30) 0),
  none⟩, ⟨0, (some 34), (.ext (.t 30) 1), none⟩, ⟨0, (some 35), (.ext (.t 30) 2), none⟩, ⟨0, (some 11), (.mv (.t 33)), none⟩, ⟨0, (some 12), (.mv (.t 34)),
  none⟩, ⟨0, (some 13), (.mv (.t 35)), none⟩]) (.seq (.seq (.reg [] false [⟨0, (some 36), (.mv (.t 10)), none⟩, ⟨0, (some 37), (.bin .neq (.t 36) (.c (.int
  .i64 0))), none⟩, ⟨0, (some 38), (.mv (.t 37)), none⟩, ⟨0, (some 39), (.mv (.t 13)), (some (38, false))⟩, ⟨0, (some 40), (.bin .neq (.t 39) (.c (.int .i64
  5))), (some (38, false))⟩, ⟨0, (some 41), (.pick (.t 38) (.c (.bool true)) (.t 40)), none⟩, ⟨0, (some 42), (.mv (.t 41)), none⟩, ⟨0, (some 43), (.mv (.t
  9)), (some (42, false))⟩, ⟨0, (some 44), (.len false (.t 43)), (some (42, false))⟩, ⟨0, (some 45), (.fld 1 (.t 7)), (some (42, false))⟩, ⟨0, (some 46),
  (.load false 1 (.t 45)), (some (42, false))⟩, ⟨0, (some 47), (.len false (.t 46)), (some (42, false))⟩, ⟨0, (some 48), (.bin .neq (.t 44) (.t 47)), (some
  (42, false))⟩, ⟨0, (some 49), (.pick (.t 42) (.c (.bool true)) (.t 48)), none⟩]) (.cond (.t 49) (.seq (.reg [] false [⟨0, (some 6), (.mv (.c (.bool
  false))), none⟩]) .ret) .skip)) (.seq (.seq (.reg [] false [⟨0, (some 50), (.fld 1 (.t 7)), none⟩, ⟨0, (some 51), (.load false 1 (.t 50)), none⟩, ⟨0, (some
  52), (.len false (.t 51)), none⟩, ⟨0, (some 53), (.mv (.c (.int .i64 0))), none⟩]) (.block 0 x11l0)) (.seq (.reg [(7, true), (8, false)] false [⟨0, (some
  105), (.load true 2 (.t 7)), none⟩, ⟨0, (some 106), (.mv (.t 8)), none⟩, ⟨0, (some 107), (.callf false (.c (.fn (.func 34) [] [])) [(.t 105), (.t 106)] []),
  none⟩, ⟨0, (some 104), (.mv (.t 107)), none⟩, ⟨0, (some 108), (.ext (.t 104) 0), none⟩, ⟨0, (some 109), (.ext (.t 104) 1), none⟩, ⟨0, (some 17), (.mv (.t
  108)), none⟩, ⟨0, (some 10), (.mv (.t 109)), none⟩]) (.seq (.seq (.reg [] false [⟨0, (some 110), (.mv (.t 10)), none⟩, ⟨0, (some 111), (.bin .neq (.t 110)
  (.c (.int .i64 0))), none⟩, ⟨0, (some 112), (.mv (.t 111)), none⟩, ⟨0, (some 113), (.mv (.t 17)), (some (112, false))⟩, ⟨0, (some 114), (.bin .neq (.t 113)
  (.c (.int .i64 0))), (some (112, false))⟩, ⟨0, (some 115), (.pick (.t 112) (.c (.bool true)) (.t 114)), none⟩]) (.cond (.t 115) (.seq (.reg [] false [⟨0,
  (some 6), (.mv (.c (.bool false))), none⟩]) .ret) .skip)) (.seq (.reg [] false [⟨0, (some 18), (.mv (.c .nilsl)), none⟩]) (.seq (.seq (.reg [] false [⟨0,
  (some 19), (.mv (.c (.int .i64 0))), none⟩]) (.block 2 x11l1)) (.seq (.seq (.reg [] false [⟨0, (some 131), (.mv (.t 18)), none⟩, ⟨0, (some 132), (.len false
  (.t 131)), none⟩, ⟨0, (some 133), (.bin .eql (.t 132) (.c (.int .i64 0))), none⟩]) (.cond (.t 133) (.seq (.reg [] false [⟨0, (some 134), (.callf false (.c
  (.fn (.func 12) [] [])) [] []), none⟩, ⟨0, (some 6), (.mv (.t 134)), none⟩]) .ret) .skip)) (.seq (.reg [(7, true), (18, false)] false [⟨0, (some 135),
  (.load true 2 (.t 7)), none⟩, ⟨0, (some 136), (.mv (.t 18)), none⟩, ⟨0, (some 137), (.mv (.t 2)), none⟩, ⟨0, (some 138), (.conv .i64 (.t 137)), none⟩, ⟨0,
  (some 139), (.bin .rem (.t 138) (.c (.int .i64 4))), none⟩, ⟨0, (some 140), (.callf false (.c (.fn (.func 28) [] [])) [(.t 135), (.t 136), (.t 139)] []),
  none⟩, ⟨0, (some 141), (.bin .eql (.t 140) (.c (.int .i64 11))), none⟩, ⟨0, (some 142), (.mv (.t 141)), none⟩, ⟨0, (some 143), (.callf false (.c (.fn (.func
  12) [] [])) [] []), (some (142, true))⟩, ⟨0, (some 144), (.pick (.t 142) (.t 143) (.c (.bool false))), none⟩, ⟨0, (some 6), (.mv (.t 144)), none⟩])
  .ret))))))))))))⟩
theorem is11 : FnIs prog 11 x11.fn := ⟨fun vs w => call11 vs w, _, _, func11, rfl, rfl, by kernel_rfl, by kernel_rfl⟩
theorem ok11 : okX x11.body = true := by kernel_rfl
theorem st11 : sitesP x11 x11.body := (sitesP_of rfl)

def x12l0 : XCode :=
  (.loop [1, 2, 3, 4] (.seq (.seq (.reg [] false [⟨0, (some 27), (.mv (.t 4)), none⟩, ⟨0, (some 28), (.bin .lss (.t 27) (.c (.int .i64 6))), none⟩]) (.cond (.t
  28) .skip (.exit 0))) (.seq (.block 1 (.reg [] false [⟨0, (some 31), (.fld 1 (.t 3)), none⟩, ⟨0, (some 32), (.load false 1 (.t 31)), none⟩, ⟨0, (some 33),
  (.mv (.t 4)), none⟩, ⟨0, (some 34), (.idx 7 (.t 32) (.t 33)), none⟩, ⟨0, (some 35), (.fld 2 (.t 34)), none⟩, ⟨0, none, (.store 1 (.t 35) (.c (.bool true))
  []), none⟩])) (.reg [] false [⟨0, (some 29), (.mv (.t 4)), none⟩, ⟨0, (some 30), (.bin .add (.t 29) (.c (.int .i64 1))), none⟩, ⟨0, (some 4), (.mv (.t 30)),
  none⟩]))))
/-- zafra/zafralaw01.works -/
def x12 : XFn := ⟨210, [(0, none)], false, false,
  (.seq (.reg [] false [⟨0, (some 0), (.mv (.c (.bool false))), none⟩]) (.seq (.reg [] false [⟨0, (some 20), (.callf false (.c (.fn (.func 32) [] [])) [] []),
  none⟩, ⟨0, (some 21), (.callf false (.c (.fn (.func 32) [] [])) [] []), none⟩, ⟨0, (some 22), (.callf false (.c (.fn (.func 32) [] [])) [] []), none⟩, ⟨0,
  (some 1), (.alloc [(.int .i64 0), .nilsl]), none⟩, ⟨0, (some 2), (.alloc [(.int .i64 0), .nilsl]), none⟩, ⟨0, (some 3), (.alloc [(.int .i64 0), .nilsl]),
  none⟩, ⟨0, none, (.store 2 (.t 1) (.t 20) []), none⟩, ⟨0, none, (.store 2 (.t 2) (.t 21) []), none⟩, ⟨0, none, (.store 2 (.t 3) (.t 22) []), none⟩]) (.seq
  (.reg [] false [⟨0, (some 23), (.fld 1 (.t 2)), none⟩, ⟨0, (some 24), (.load false 1 (.t 23)), none⟩, ⟨0, (some 25), (.idx 7 (.t 24) (.c (.int .i64 3))),
  none⟩, ⟨0, (some 26), (.fld 2 (.t 25)), none⟩, ⟨0, none, (.store 1 (.t 26) (.c (.bool false)) []), none⟩]) (.seq (.seq (.reg [] false [⟨0, (some 4), (.mv
  (.c (.int .i64 1))), none⟩]) (.block 0 x12l0)) (.seq (.reg [] true [⟨0, (some 36), (.fld 1 (.t 3)), none⟩, ⟨1, (some 37), (.load false 1 (.t 36)), none⟩,
  ⟨2, (some 38), (.fld 1 (.t 3)), none⟩, ⟨3, (some 39), (.load false 1 (.t 38)), none⟩, ⟨4, (some 40), (.fld 1 (.t 3)), none⟩, ⟨5, (some 41), (.load false 1
  (.t 40)), none⟩, ⟨6, (some 42), (.build [(.int .i64 0), (.int .i64 0), (.int .i64 0), (.int .i64 0)] [(0, (1, (.c (.int .i64 95)))), (1, (1, (.c (.int .i64
  450)))), (2, (1, (.c (.int .i64 5)))), (3, (1, (.c (.int .i64 12))))]), none⟩, ⟨7, (some 43), (.build [(.int .i64 0), (.int .i64 0), (.int .i64 0), (.int
  .i64 0)] [(0, (1, (.c (.int .i64 5)))), (1, (1, (.c (.int .i64 410)))), (2, (1, (.c (.int .i64 5)))), (3, (1, (.c (.int .i64 6))))]), none⟩, ⟨8, (some 44),
  (.build [(.int .i64 0), (.int .i64 0), (.int .i64 0), (.int .i64 0)] [(0, (1, (.c (.int .i64 10)))), (1, (1, (.c (.int .i64 39)))), (2, (1, (.c (.int .i64
  0)))), (3, (1, (.c (.int .i64 4))))]), none⟩, ⟨9, (some 45), (.idx 7 (.t 37) (.c (.int .i64 1))), none⟩, ⟨10, (some 46), (.fld 3 (.t 45)), none⟩, ⟨11, none,
  (.store 4 (.t 46) (.t 42) [3, 5]), none⟩, ⟨12, (some 47), (.idx 7 (.t 39) (.c (.int .i64 4))), none⟩, ⟨13, (some 48), (.fld 3 (.t 47)), none⟩, ⟨14, none,
  (.store 4 (.t 48) (.t 43) [5]), none⟩, ⟨15, (some 49), (.idx 7 (.t 41) (.c (.int .i64 5))), none⟩, ⟨16, (some 50), (.fld 3 (.t 49)), none⟩, ⟨17, none,
  (.store 4 (.t 50) (.t 44) []), none⟩]) (.seq (.reg [(1, true)] false [⟨0, (some 52), (.load true 2 (.t 1)), none⟩, ⟨0, (some 53), (.callf false (.c (.fn
  (.func 13) [] [])) [(.t 52)] []), none⟩, ⟨0, (some 51), (.mv (.t 53)), none⟩, ⟨0, (some 54), (.ext (.t 51) 0), none⟩, ⟨0, (some 55), (.ext (.t 51) 1),
  none⟩, ⟨0, (some 5), (.mv (.t 54)), none⟩, ⟨0, (some 6), (.mv (.t 55)), none⟩]) (.seq (.reg [(1, true)] false [⟨0, (some 57), (.load true 2 (.t 1)), none⟩,
  ⟨0, (some 58), (.callf false (.c (.fn (.func 23) [] [])) [(.t 57)] []), none⟩, ⟨0, (some 56), (.mv (.t 58)), none⟩, ⟨0, (some 59), (.ext (.t 56) 0), none⟩,
  ⟨0, (some 60), (.ext (.t 56) 1), none⟩, ⟨0, (some 7), (.mv (.t 59)), none⟩, ⟨0, (some 8), (.mv (.t 60)), none⟩]) (.seq (.reg [(2, true)] false [⟨0, (some
  62), (.load true 2 (.t 2)), none⟩, ⟨0, (some 63), (.callf false (.c (.fn (.func 23) [] [])) [(.t 62)] []), none⟩, ⟨0, (some 61), (.mv (.t 63)), none⟩, ⟨0,
  (some 64), (.ext (.t 61) 0), none⟩, ⟨0, (some 65), (.ext (.t 61) 1), none⟩, ⟨0, (some 9), (.mv (.t 64)), none⟩, ⟨0, (some 10), (.mv (.t 65)), none⟩]) (.seq
  (.reg [(1, true)] false [⟨0, (some 67), (.load true 2 (.t 1)), none⟩, ⟨0, (some 68), (.bslice 1 2 [(.int .i64 0)] [(0, (1, (.c (.int .i64 0)))), (1, (1, (.c
  (.int .i64 1))))]), none⟩, ⟨0, (some 69), (.callf false (.c (.fn (.func 16) [] [])) [(.t 67), (.t 68)] []), none⟩, ⟨0, (some 66), (.mv (.t 69)), none⟩, ⟨0,
  (some 70), (.ext (.t 66) 0), none⟩, ⟨0, (some 71), (.ext (.t 66) 1), none⟩, ⟨0, (some 11), (.alloc [(.int .i64 0), (.int .i64 0), (.int .i64 0), (.int .i64
  0)]), none⟩, ⟨0, none, (.store 4 (.t 11) (.t 70) []), none⟩, ⟨0, (some 12), (.mv (.t 71)), none⟩]) (.seq (.reg [(2, true)] false [⟨0, (some 73), (.load true
  2 (.t 2)), none⟩, ⟨0, (some 74), (.build [(.int .i64 0), (.int .i64 0), (.int .i64 0), (.int .i64 0)] []), none⟩, ⟨0, (some 75), (.callf false (.c (.fn
  (.func 33) [] [])) [(.t 73), (.c (.int .i64 3)), (.t 74)] []), none⟩, ⟨0, (some 72), (.mv (.t 75)), none⟩, ⟨0, (some 76), (.ext (.t 72) 0), none⟩, ⟨0, (some
  77), (.ext (.t 72) 1), none⟩, ⟨0, (some 13), (.mv (.t 76)), none⟩, ⟨0, (some 14), (.mv (.t 77)), none⟩]) (.seq (.reg [(3, true)] false [⟨0, (some 79),
  (.load true 2 (.t 3)), none⟩, ⟨0, (some 80), (.callf false (.c (.fn (.func 23) [] [])) [(.t 79)] []), none⟩, ⟨0, (some 78), (.mv (.t 80)), none⟩, ⟨0, (some
  81), (.ext (.t 78) 0), none⟩, ⟨0, (some 82), (.ext (.t 78) 1), none⟩, ⟨0, (some 15), (.mv (.t 81)), none⟩, ⟨0, (some 16), (.mv (.t 82)), none⟩]) (.seq (.reg
  [(3, true)] false [⟨0, (some 84), (.load true 2 (.t 3)), none⟩, ⟨0, (some 85), (.callf false (.c (.fn (.func 25) [] [])) [(.t 84)] []), none⟩, ⟨0, (some
  83), (.mv (.t 85)), none⟩, ⟨0, (some 86), (.ext (.t 83) 0), none⟩, ⟨0, (some 87), (.ext (.t 83) 1), none⟩, ⟨0, (some 88), (.ext (.t 83) 2), none⟩, ⟨0, (some
  17), (.mv (.t 86)), none⟩, ⟨0, (some 18), (.mv (.t 87)), none⟩, ⟨0, (some 19), (.mv (.t 88)), none⟩]) (.seq (.seq (.reg [(5, false), (3, true), (17, false),
  (18, false)] false [⟨0, (some 89), (.mv (.t 6)), none⟩, ⟨0, (some 90), (.bin .neq (.t 89) (.c (.int .i64 0))), none⟩, ⟨0, (some 91), (.mv (.t 90)), none⟩,
  ⟨0, (some 92), (.mv (.t 8)), (some (91, false))⟩, ⟨0, (some 93), (.bin .neq (.t 92) (.c (.int .i64 0))), (some (91, false))⟩, ⟨0, (some 94), (.pick (.t 91)
  (.c (.bool true)) (.t 93)), none⟩, ⟨0, (some 95), (.mv (.t 94)), none⟩, ⟨0, (some 96), (.mv (.t 10)), (some (95, false))⟩, ⟨0, (some 97), (.bin .neq (.t 96)
  (.c (.int .i64 0))), (some (95, false))⟩, ⟨0, (some 98), (.pick (.t 95) (.c (.bool true)) (.t 97)), none⟩, ⟨0, (some 99), (.mv (.t 98)), none⟩, ⟨0, (some
  100), (.mv (.t 12)), (some (99, false))⟩, ⟨0, (some 101), (.bin .neq (.t 100) (.c (.int .i64 0))), (some (99, false))⟩, ⟨0, (some 102), (.pick (.t 99) (.c
  (.bool true)) (.t 101)), none⟩, ⟨0, (some 103), (.mv (.t 102)), none⟩, ⟨0, (some 104), (.mv (.t 14)), (some (103, false))⟩, ⟨0, (some 105), (.bin .neq (.t
  104) (.c (.int .i64 0))), (some (103, false))⟩, ⟨0, (some 106), (.pick (.t 103) (.c (.bool true)) (.t 105)), none⟩, ⟨0, (some 107), (.mv (.t 106)), none⟩,
  ⟨0, (some 108), (.mv (.t 16)), (some (107, false))⟩, ⟨0, (some 109), (.bin .neq (.t 108) (.c (.int .i64 12))), (some (107, false))⟩, ⟨0, (some 110), (.pick
  (.t 107) (.c (.bool true)) (.t 109)), none⟩, ⟨0, (some 111), (.mv (.t 110)), none⟩, ⟨0, (some 112), (.mv (.t 19)), (some (111, false))⟩, ⟨0, (some 113),
  (.bin .neq (.t 112) (.c (.int .i64 0))), (some (111, false))⟩, ⟨0, (some 114), (.pick (.t 111) (.c (.bool true)) (.t 113)), none⟩, ⟨0, (some 115), (.mv (.t
  114)), none⟩, ⟨0, (some 116), (.mv (.t 5)), (some (115, false))⟩, ⟨0, (some 117), (.bslice 1 3 [(.int .i64 0)] [(0, (1, (.c (.int .i64 (-1))))), (1, (1, (.c
  (.int .i64 (-1))))), (2, (1, (.c (.int .i64 (-1)))))]), (some (115, false))⟩, ⟨0, (some 118), (.callf false (.c (.fn (.func 22) [] [])) [(.t 116), (.t 117)]
  []), (some (115, false))⟩, ⟨0, (some 119), (.not (.t 118)), (some (115, false))⟩, ⟨0, (some 120), (.pick (.t 115) (.c (.bool true)) (.t 119)), none⟩, ⟨0,
  (some 121), (.mv (.t 120)), none⟩, ⟨0, (some 122), (.mv (.t 7)), (some (121, false))⟩, ⟨0, (some 123), (.len false (.t 122)), (some (121, false))⟩, ⟨0,
  (some 124), (.bin .neq (.t 123) (.c (.int .i64 7))), (some (121, false))⟩, ⟨0, (some 125), (.pick (.t 121) (.c (.bool true)) (.t 124)), none⟩, ⟨0, (some
  126), (.mv (.t 125)), none⟩, ⟨0, (some 127), (.mv (.t 9)), (some (126, false))⟩, ⟨0, (some 128), (.len false (.t 127)), (some (126, false))⟩, ⟨0, (some
  129), (.bin .neq (.t 128) (.c (.int .i64 7))), (some (126, false))⟩, ⟨0, (some 130), (.pick (.t 126) (.c (.bool true)) (.t 129)), none⟩, ⟨0, (some 131),
  (.mv (.t 130)), none⟩, ⟨0, (some 132), (.mv (.t 13)), (some (131, false))⟩, ⟨0, (some 133), (.len false (.t 132)), (some (131, false))⟩, ⟨0, (some 134),
  (.bin .neq (.t 133) (.c (.int .i64 7))), (some (131, false))⟩, ⟨0, (some 135), (.pick (.t 131) (.c (.bool true)) (.t 134)), none⟩, ⟨0, (some 136), (.mv (.t
  135)), none⟩, ⟨0, (some 137), (.load true 2 (.t 3)), (some (136, false))⟩, ⟨0, (some 138), (.mv (.t 17)), (some (136, false))⟩, ⟨0, (some 139), (.mv (.t
  18)), (some (136, false))⟩, ⟨0, (some 140), (.callf false (.c (.fn (.func 28) [] [])) [(.t 137), (.t 138), (.t 139)] []), (some (136, false))⟩, ⟨0, (some
  141), (.bin .neq (.t 140) (.c (.int .i64 0))), (some (136, false))⟩, ⟨0, (some 142), (.pick (.t 136) (.c (.bool true)) (.t 141)), none⟩, ⟨0, (some 143),
  (.mv (.t 142)), none⟩, ⟨0, (some 144), (.load true 2 (.t 3)), (some (143, false))⟩, ⟨0, (some 145), (.bslice 1 1 [(.int .i64 0)] [(0, (1, (.c (.int .i64
  2))))]), (some (143, false))⟩, ⟨0, (some 146), (.callf false (.c (.fn (.func 28) [] [])) [(.t 144), (.t 145), (.c (.int .i64 3))] []), (some (143, false))⟩,
  ⟨0, (some 147), (.bin .neq (.t 146) (.c (.int .i64 0))), (some (143, false))⟩, ⟨0, (some 148), (.pick (.t 143) (.c (.bool true)) (.t 147)), none⟩]) (.cond
  (.t 148) (.seq (.reg [] false [⟨0, (some 0), (.mv (.c (.bool false))), none⟩]) .ret) .skip)) (.seq (.reg [] false [⟨0, (some 149), (.mv (.t 7)), none⟩, ⟨0,
  (some 150), (.idx 5 (.t 149) (.c (.int .i64 1))), none⟩, ⟨0, (some 151), (.load true 5 (.t 150)), none⟩, ⟨0, (some 152), (.build [(.int .i64 0), (.int .i64
  0), (.int .i64 0), (.int .i64 0)] [(0, (1, (.c (.int .i64 95)))), (1, (1, (.c (.int .i64 450)))), (2, (1, (.c (.int .i64 5)))), (3, (1, (.c (.int .i64
  12))))]), none⟩, ⟨0, (some 153), (.build [(.int .i64 0), (.int .i64 0), (.int .i64 0), (.int .i64 0), (.int .i64 0)] [(0, (1, (.c (.int .i64 2)))), (1, (4,
  (.t 152)))]), none⟩, ⟨0, (some 154), (.eqag false [0, 0, 0, 0, 0] (.t 151) (.t 153)), none⟩, ⟨0, (some 155), (.mv (.t 154)), none⟩, ⟨0, (some 156), (.mv (.t
  7)), (some (155, true))⟩, ⟨0, (some 157), (.idx 5 (.t 156) (.c (.int .i64 5))), (some (155, true))⟩, ⟨0, (some 158), (.load true 5 (.t 157)), (some (155,
  true))⟩, ⟨0, (some 159), (.build [(.int .i64 0), (.int .i64 0), (.int .i64 0), (.int .i64 0)] [(0, (1, (.c (.int .i64 10)))), (1, (1, (.c (.int .i64 39)))),
  (2, (1, (.c (.int .i64 0)))), (3, (1, (.c (.int .i64 5))))]), (some (155, true))⟩, ⟨0, (some 160), (.build [(.int .i64 0), (.int .i64 0), (.int .i64 0),
  (.int .i64 0), (.int .i64 0)] [(0, (1, (.c (.int .i64 2)))), (1, (4, (.t 159)))]), (some (155, true))⟩, ⟨0, (some 161), (.eqag false [0, 0, 0, 0, 0] (.t
  158) (.t 160)), (some (155, true))⟩, ⟨0, (some 162), (.pick (.t 155) (.t 161) (.c (.bool false))), none⟩, ⟨0, (some 163), (.mv (.t 162)), none⟩, ⟨0, (some
  164), (.mv (.t 7)), (some (163, true))⟩, ⟨0, (some 165), (.idx 5 (.t 164) (.c (.int .i64 2))), (some (163, true))⟩, ⟨0, (some 166), (.fld 0 (.t 165)), (some
  (163, true))⟩, ⟨0, (some 167), (.load false 1 (.t 166)), (some (163, true))⟩, ⟨0, (some 168), (.bin .eql (.t 167) (.c (.int .i64 1))), (some (163, true))⟩,
  ⟨0, (some 169), (.pick (.t 163) (.t 168) (.c (.bool false))), none⟩, ⟨0, (some 170), (.mv (.t 169)), none⟩, ⟨0, (some 171), (.mv (.t 9)), (some (170,
  true))⟩, ⟨0, (some 172), (.idx 5 (.t 171) (.c (.int .i64 1))), (some (170, true))⟩, ⟨0, (some 173), (.fld 0 (.t 172)), (some (170, true))⟩, ⟨0, (some 174),
  (.load false 1 (.t 173)), (some (170, true))⟩, ⟨0, (some 175), (.bin .eql (.t 174) (.c (.int .i64 2))), (some (170, true))⟩, ⟨0, (some 176), (.pick (.t 170)
  (.t 175) (.c (.bool false))), none⟩, ⟨0, (some 177), (.mv (.t 176)), none⟩, ⟨0, (some 178), (.mv (.t 9)), (some (177, true))⟩, ⟨0, (some 179), (.idx 5 (.t
  178) (.c (.int .i64 3))), (some (177, true))⟩, ⟨0, (some 180), (.load true 5 (.t 179)), (some (177, true))⟩, ⟨0, (some 181), (.build [(.int .i64 0), (.int
  .i64 0), (.int .i64 0), (.int .i64 0), (.int .i64 0)] [(0, (1, (.c (.int .i64 3))))]), (some (177, true))⟩, ⟨0, (some 182), (.eqag false [0, 0, 0, 0, 0] (.t
  180) (.t 181)), (some (177, true))⟩, ⟨0, (some 183), (.pick (.t 177) (.t 182) (.c (.bool false))), none⟩, ⟨0, (some 184), (.mv (.t 183)), none⟩, ⟨0, (some
  185), (.load true 4 (.t 11)), (some (184, true))⟩, ⟨0, (some 186), (.build [(.int .i64 0), (.int .i64 0), (.int .i64 0), (.int .i64 0)] [(0, (1, (.c (.int
  .i64 5)))), (1, (1, (.c (.int .i64 410)))), (2, (1, (.c (.int .i64 5)))), (3, (1, (.c (.int .i64 6))))]), (some (184, true))⟩, ⟨0, (some 187), (.eqag false
  [0, 0, 0, 0] (.t 185) (.t 186)), (some (184, true))⟩, ⟨0, (some 188), (.pick (.t 184) (.t 187) (.c (.bool false))), none⟩, ⟨0, (some 189), (.mv (.t 188)),
  none⟩, ⟨0, (some 190), (.mv (.t 13)), (some (189, true))⟩, ⟨0, (some 191), (.idx 4 (.t 190) (.c (.int .i64 4))), (some (189, true))⟩, ⟨0, (some 192), (.load
  true 4 (.t 191)), (some (189, true))⟩, ⟨0, (some 193), (.build [(.int .i64 0), (.int .i64 0), (.int .i64 0), (.int .i64 0)] [(0, (1, (.c (.int .i64 95)))),
  (1, (1, (.c (.int .i64 450)))), (2, (1, (.c (.int .i64 5)))), (3, (1, (.c (.int .i64 12))))]), (some (189, true))⟩, ⟨0, (some 194), (.eqag false [0, 0, 0,
  0] (.t 192) (.t 193)), (some (189, true))⟩, ⟨0, (some 195), (.pick (.t 189) (.t 194) (.c (.bool false))), none⟩, ⟨0, (some 196), (.mv (.t 195)), none⟩, ⟨0,
  (some 197), (.mv (.t 13)), (some (196, true))⟩, ⟨0, (some 198), (.idx 4 (.t 197) (.c (.int .i64 5))), (some (196, true))⟩, ⟨0, (some 199), (.load true 4 (.t
  198)), (some (196, true))⟩, ⟨0, (some 200), (.build [(.int .i64 0), (.int .i64 0), (.int .i64 0), (.int .i64 0)] [(0, (1, (.c (.int .i64 (-80))))), (1, (1,
  (.c (.int .i64 (-1))))), (2, (1, (.c (.int .i64 0)))), (3, (1, (.c (.int .i64 (-1)))))]), (some (196, true))⟩, ⟨0, (some 201), (.eqag false [0, 0, 0, 0] (.t
  199) (.t 200)), (some (196, true))⟩, ⟨0, (some 202), (.pick (.t 196) (.t 201) (.c (.bool false))), none⟩, ⟨0, (some 203), (.mv (.t 202)), none⟩, ⟨0, (some
  204), (.callf false (.c (.fn (.func 18) [] [])) [(.c (.str ⟨#[97, 57]⟩))] []), (some (203, true))⟩, ⟨0, (some 205), (.pick (.t 203) (.t 204) (.c (.bool
  false))), none⟩, ⟨0, (some 206), (.mv (.t 205)), none⟩, ⟨0, (some 207), (.callf false (.c (.fn (.func 18) [] [])) [(.c (.str ⟨#[57, 97]⟩))] []), (some (206,
  true))⟩, ⟨0, (some 208), (.not (.t 207)), (some (206, true))⟩, ⟨0, (some 209), (.pick (.t 206) (.t 208) (.c (.bool false))), none⟩, ⟨0, (some 0), (.mv (.t
  209)), none⟩]) .ret))))))))))))))⟩
theorem is12 : FnIs prog 12 x12.fn := ⟨fun vs w => call12 vs w, _, _, func12, rfl, rfl, by kernel_rfl, by kernel_rfl⟩
theorem ok12 : okX x12.body = true := by kernel_rfl
theorem st12 : sitesP x12 x12.body := (sitesP_of rfl)

end Go.Proofs.Ytdbikamciedfdaa
end
section
set_option maxRecDepth 100000
namespace Go.Proofs.Ytdbikamciedfdaa
open Go Go.DL Go.Proofs.Try

def x13l0 : XCode :=
  (.loop [5, 6, 22, 23, 24] (.seq (.reg [] false [⟨0, (some 25), (.bin .lss (.t 24) (.t 23)), none⟩]) (.seq (.cond (.t 25) .skip (.exit 2)) (.seq (.block 3
  (.seq (.reg [] false [⟨0, (some 26), (.idx 1 (.t 22) (.t 24)), none⟩, ⟨0, (some 27), (.load false 1 (.t 26)), none⟩, ⟨0, (some 9), (.mv (.t 27)), none⟩])
  (.reg [] false [⟨0, (some 28), (.load false 1 (.t 5)), none⟩, ⟨0, (some 29), (.mv (.t 9)), none⟩, ⟨0, (some 30), (.load false 1 (.t 6)), none⟩, ⟨0, (some
  31), (.idx 1 (.t 28) (.t 29)), none⟩, ⟨0, none, (.store 1 (.t 31) (.t 30) []), none⟩]))) (.reg [] false [⟨0, (some 32), (.bin .add (.t 24) (.c (.int .i64
  1))), none⟩, ⟨0, (some 24), (.mv (.t 32)), none⟩])))))
/-- zafra/bulk.Parts -/
def x13 : XFn := ⟨36, [(2, none), (3, none)], false, false,
  (.seq (.reg [] false [⟨0, (some 1), (.box (.t 0)), none⟩, ⟨0, (some 2), (.mv (.c .nilsl)), none⟩, ⟨0, (some 3), (.mv (.c (.int .i64 0))), none⟩]) (.seq (.seq
  (.reg [(1, true)] false [⟨0, (some 10), (.load true 2 (.t 1)), none⟩, ⟨0, (some 11), (.callf false (.c (.fn (.func 20) [] [])) [(.t 10)] []), none⟩, ⟨0,
  (some 4), (.mv (.t 11)), none⟩]) (.seq (.reg [] false [⟨0, (some 12), (.mv (.t 4)), none⟩, ⟨0, (some 13), (.bin .neq (.t 12) (.c (.int .i64 0))), none⟩])
  (.cond (.t 13) (.seq (.reg [] false [⟨0, (some 14), (.mv (.t 4)), none⟩, ⟨0, (some 2), (.mv (.c .nilsl)), none⟩, ⟨0, (some 3), (.mv (.t 14)), none⟩]) .ret)
  .skip))) (.seq (.reg [] false [⟨0, (some 15), (.bslice 1 1 [(.int .i64 0)] [(0, (1, (.c (.int .i64 (-1)))))]), none⟩, ⟨0, (some 16), (.fld 0 (.t 1)), none⟩,
  ⟨0, (some 17), (.load false 1 (.t 16)), none⟩, ⟨0, (some 18), (.callf false (.c (.fn (.func 35) [] [])) [(.t 15), (.t 17)] []), none⟩, ⟨0, (some 5), (.alloc
  [.nilsl]), none⟩, ⟨0, none, (.store 1 (.t 5) (.t 18) []), none⟩]) (.seq (.reg [] false [⟨0, (some 6), (.alloc [(.int .i64 0)]), none⟩, ⟨0, none, (.store 1
  (.t 6) (.c (.int .i64 0)) []), none⟩]) (.seq (.seq (.reg [(1, true)] false [⟨0, (some 19), (.load true 2 (.t 1)), none⟩, ⟨0, (some 20), (.callf false (.c
  (.fn (.func 36) [] [])) [(.t 19)] []), none⟩]) (.block 0 (.rng 0 [5, 6] (.t 20) [21] (.reg [] false [⟨0, (some 7), (.mv (.t 21)), none⟩]) (.block 1 (.seq
  (.seq (.reg [] false [⟨0, (some 22), (.mv (.t 7)), none⟩, ⟨0, (some 23), (.len false (.t 22)), none⟩, ⟨0, (some 24), (.mv (.c (.int .i64 0))), none⟩])
  (.block 2 x13l0)) (.reg [] false [⟨0, (some 33), (.load false 1 (.t 6)), none⟩, ⟨0, (some 34), (.bin .add (.t 33) (.c (.int .i64 1))), none⟩, ⟨0, none,
  (.store 1 (.t 6) (.t 34) []), none⟩])))))) (.seq (.reg [] false [⟨0, (some 35), (.load false 1 (.t 5)), none⟩, ⟨0, (some 2), (.mv (.t 35)), none⟩, ⟨0, (some
  3), (.mv (.c (.int .i64 0))), none⟩]) .ret))))))⟩
theorem is13 : FnIs prog 13 x13.fn := ⟨fun vs w => call13 vs w, _, _, func13, rfl, rfl, by kernel_rfl, by kernel_rfl⟩
theorem ok13 : okX x13.body = true := by kernel_rfl
theorem st13 : sitesP x13 x13.body := ⟨(sitesP_of rfl), ⟨(sitesP_of rfl), ⟨(sitesP_of rfl), ⟨(sitesP_of rfl), ⟨⟨(sitesP_of rfl), ⟨by kernel_rfl, (sitesP_of rfl), (sitesP_of rfl)⟩⟩, (sitesP_of rfl)⟩⟩⟩⟩⟩

def x14l0 : XCode :=
  (.loop [1, 5, 6, 7, 8] (.seq (.seq (.reg [] false [⟨0, (some 16), (.mv (.t 8)), none⟩, ⟨0, (some 17), (.fld 0 (.t 1)), none⟩, ⟨0, (some 18), (.load false 1
  (.t 17)), none⟩, ⟨0, (some 19), (.bin .lss (.t 16) (.t 18)), none⟩]) (.cond (.t 19) .skip (.exit 0))) (.seq (.block 1 (.block 2 (.seq (.reg [] false [⟨0,
  (some 35), (.mv (.t 5)), none⟩, ⟨0, (some 36), (.mv (.t 8)), none⟩, ⟨0, (some 37), (.bin .add (.t 36) (.c (.int .i64 1))), none⟩, ⟨0, (some 38), (.idx 1 (.t
  35) (.t 37)), none⟩, ⟨0, (some 39), (.load false 1 (.t 38)), none⟩, ⟨0, (some 40), (.bin .eql (.t 39) (.c (.int .i64 0))), none⟩, ⟨0, (some 34), (.mv (.t
  40)), none⟩]) (.cond (.t 34) (.reg [] false [⟨0, (some 41), (.mv (.t 6)), none⟩, ⟨0, (some 42), (.bslice 1 1 [(.int .i64 0)] [(0, (1, (.c (.int .i64
  (-1)))))]), none⟩, ⟨0, (some 43), (.app 1 8 (.t 41) (.t 42)), none⟩, ⟨0, (some 6), (.mv (.t 43)), none⟩]) (.seq (.reg [] false [⟨0, (some 45), (.mv (.t 5)),
  none⟩, ⟨0, (some 46), (.mv (.t 8)), none⟩, ⟨0, (some 47), (.bin .add (.t 46) (.c (.int .i64 1))), none⟩, ⟨0, (some 48), (.idx 1 (.t 45) (.t 47)), none⟩, ⟨0,
  (some 49), (.load false 1 (.t 48)), none⟩, ⟨0, (some 50), (.mv (.t 8)), none⟩, ⟨0, (some 51), (.bin .add (.t 50) (.c (.int .i64 1))), none⟩, ⟨0, (some 52),
  (.bin .eql (.t 49) (.t 51)), none⟩, ⟨0, (some 44), (.mv (.t 52)), none⟩]) (.cond (.t 44) (.seq (.reg [] false [⟨0, (some 53), (.mv (.t 6)), none⟩, ⟨0, (some
  54), (.mv (.t 7)), none⟩, ⟨0, (some 55), (.bslice 1 1 [(.int .i64 0)] [(0, (1, (.t 54)))]), none⟩, ⟨0, (some 56), (.app 1 8 (.t 53) (.t 55)), none⟩, ⟨0,
  (some 6), (.mv (.t 56)), none⟩]) (.reg [] false [⟨0, (some 57), (.mv (.t 7)), none⟩, ⟨0, (some 58), (.bin .add (.t 57) (.c (.int .i64 1))), none⟩, ⟨0, (some
  7), (.mv (.t 58)), none⟩])) (.reg [] false [⟨0, (some 22), (.mv (.t 6)), none⟩, ⟨0, (some 23), (.mv (.t 6)), none⟩, ⟨0, (some 24), (.mv (.t 5)), none⟩, ⟨0,
  (some 25), (.mv (.t 8)), none⟩, ⟨0, (some 26), (.bin .add (.t 25) (.c (.int .i64 1))), none⟩, ⟨0, (some 27), (.idx 1 (.t 24) (.t 26)), none⟩, ⟨0, (some 28),
  (.load false 1 (.t 27)), none⟩, ⟨0, (some 29), (.bin .sub (.t 28) (.c (.int .i64 1))), none⟩, ⟨0, (some 30), (.idx 1 (.t 23) (.t 29)), none⟩, ⟨0, (some 31),
  (.load false 1 (.t 30)), none⟩, ⟨0, (some 32), (.bslice 1 1 [(.int .i64 0)] [(0, (1, (.t 31)))]), none⟩, ⟨0, (some 33), (.app 1 8 (.t 22) (.t 32)), none⟩,
  ⟨0, (some 6), (.mv (.t 33)), none⟩]))))))) (.reg [] false [⟨0, (some 20), (.mv (.t 8)), none⟩, ⟨0, (some 21), (.bin .add (.t 20) (.c (.int .i64 1))), none⟩,
  ⟨0, (some 8), (.mv (.t 21)), none⟩]))))
/-- zafra/zafraref01.Parts -/
def x14 : XFn := ⟨60, [(2, none), (3, none)], false, false,
  (.seq (.reg [] false [⟨0, (some 1), (.box (.t 0)), none⟩, ⟨0, (some 2), (.mv (.c .nilsl)), none⟩, ⟨0, (some 3), (.mv (.c (.int .i64 0))), none⟩]) (.seq (.reg
  [(1, true)] false [⟨0, (some 9), (.load true 2 (.t 1)), none⟩, ⟨0, (some 10), (.callf false (.c (.fn (.func 21) [] [])) [(.t 9)] []), none⟩, ⟨0, (some 4),
  (.mv (.t 10)), none⟩]) (.seq (.seq (.reg [] false [⟨0, (some 11), (.mv (.t 4)), none⟩, ⟨0, (some 12), (.bin .neq (.t 11) (.c (.int .i64 0))), none⟩]) (.cond
  (.t 12) (.seq (.reg [] false [⟨0, (some 13), (.mv (.t 4)), none⟩, ⟨0, (some 2), (.mv (.c .nilsl)), none⟩, ⟨0, (some 3), (.mv (.t 13)), none⟩]) .ret) .skip))
  (.seq (.reg [(1, true)] false [⟨0, (some 14), (.load true 2 (.t 1)), none⟩, ⟨0, (some 15), (.callf false (.c (.fn (.func 37) [] [])) [(.t 14), (.c (.int
  .i64 (-1)))] []), none⟩, ⟨0, (some 5), (.mv (.t 15)), none⟩]) (.seq (.reg [] false [⟨0, (some 6), (.mv (.c .nilsl)), none⟩]) (.seq (.reg [] false [⟨0, (some
  7), (.mv (.c (.int .i64 0))), none⟩]) (.seq (.seq (.reg [] false [⟨0, (some 8), (.mv (.c (.int .i64 0))), none⟩]) (.block 0 x14l0)) (.seq (.reg [] false
  [⟨0, (some 59), (.mv (.t 6)), none⟩, ⟨0, (some 2), (.mv (.t 59)), none⟩, ⟨0, (some 3), (.mv (.c (.int .i64 0))), none⟩]) .ret))))))))⟩
theorem is14 : FnIs prog 14 x14.fn := ⟨fun vs w => call14 vs w, _, _, func14, rfl, rfl, by kernel_rfl, by kernel_rfl⟩
theorem ok14 : okX x14.body = true := by kernel_rfl
theorem st14 : sitesP x14 x14.body := (sitesP_of rfl)

def x15l0 : XCode :=
  (.loop [1, 2, 3, 4] (.seq (.seq (.reg [] false [⟨0, (some 9), (.mv (.t 4)), none⟩, ⟨0, (some 10), (.fld 1 (.t 1)), none⟩, ⟨0, (some 11), (.load false 1 (.t
  10)), none⟩, ⟨0, (some 12), (.len false (.t 11)), none⟩, ⟨0, (some 13), (.bin .lss (.t 9) (.t 12)), none⟩]) (.cond (.t 13) .skip (.exit 0))) (.seq (.block 1
  (.seq (.reg [] false [⟨0, (some 16), (.fld 1 (.t 1)), none⟩, ⟨0, (some 17), (.load false 1 (.t 16)), none⟩, ⟨0, (some 18), (.mv (.t 4)), none⟩, ⟨0, (some
  19), (.idx 7 (.t 17) (.t 18)), none⟩, ⟨0, (some 20), (.load true 7 (.t 19)), none⟩, ⟨0, (some 5), (.alloc [(.int .i64 0), (.int .i64 0), (.bool false),
  (.int .i64 0), (.int .i64 0), (.int .i64 0), (.int .i64 0)]), none⟩, ⟨0, none, (.store 7 (.t 5) (.t 20) []), none⟩]) (.reg [] false [⟨0, (some 21), (.fld 1
  (.t 3)), none⟩, ⟨0, (some 22), (.load false 1 (.t 21)), none⟩, ⟨0, (some 23), (.fld 0 (.t 5)), none⟩, ⟨0, (some 24), (.load false 1 (.t 23)), none⟩, ⟨0,
  (some 25), (.fld 1 (.t 5)), none⟩, ⟨0, (some 26), (.load false 1 (.t 25)), none⟩, ⟨0, (some 27), (.fld 2 (.t 5)), none⟩, ⟨0, (some 28), (.load false 1 (.t
  27)), none⟩, ⟨0, (some 29), (.fld 3 (.t 5)), none⟩, ⟨0, (some 30), (.load true 4 (.t 29)), none⟩, ⟨0, (some 31), (.build [(.int .i64 0), (.int .i64 0),
  (.bool false), (.int .i64 0), (.int .i64 0), (.int .i64 0), (.int .i64 0)] [(0, (1, (.t 24))), (1, (1, (.t 26))), (2, (1, (.t 28))), (3, (4, (.t 30)))]),
  none⟩, ⟨0, (some 32), (.bslice 7 1 [(.int .i64 0), (.int .i64 0), (.bool false), (.int .i64 0), (.int .i64 0), (.int .i64 0), (.int .i64 0)] [(0, (7, (.t
  31)))]), none⟩, ⟨0, (some 33), (.app 7 56 (.t 22) (.t 32)), none⟩, ⟨0, (some 34), (.fld 1 (.t 3)), none⟩, ⟨0, none, (.store 1 (.t 34) (.t 33) []), none⟩])))
  (.reg [] false [⟨0, (some 14), (.mv (.t 4)), none⟩, ⟨0, (some 15), (.bin .add (.t 14) (.c (.int .i64 1))), none⟩, ⟨0, (some 4), (.mv (.t 15)), none⟩]))))
/-- zafra/zafralaw01.given -/
def x15 : XFn := ⟨36, [(2, (some (true, 2)))], false, false,
  (.seq (.reg [] false [⟨0, (some 1), (.box (.t 0)), none⟩, ⟨0, (some 2), (.alloc [(.int .i64 0), .nilsl]), none⟩]) (.seq (.reg [] false [⟨0, (some 6), (.fld 0
  (.t 1)), none⟩, ⟨0, (some 7), (.load false 1 (.t 6)), none⟩, ⟨0, (some 8), (.build [(.int .i64 0), .nilsl] [(0, (1, (.t 7)))]), none⟩, ⟨0, (some 3), (.alloc
  [(.int .i64 0), .nilsl]), none⟩, ⟨0, none, (.store 2 (.t 3) (.t 8) []), none⟩]) (.seq (.seq (.reg [] false [⟨0, (some 4), (.mv (.c (.int .i64 0))), none⟩])
  (.block 0 x15l0)) (.seq (.reg [] false [⟨0, (some 35), (.load true 2 (.t 3)), none⟩, ⟨0, none, (.store 2 (.t 2) (.t 35) []), none⟩]) .ret))))⟩
theorem is15 : FnIs prog 15 x15.fn := ⟨fun vs w => call15 vs w, _, _, func15, rfl, rfl, by kernel_rfl, by kernel_rfl⟩
theorem ok15 : okX x15.body = true := by kernel_rfl
theorem st15 : sitesP x15 x15.body := (sitesP_of rfl)

/-- zafra/bulk.Excess -/
def x16 : XFn := ⟨21, [(4, (some (true, 4))), (5, none)], false, false,
  (.seq (.reg [] false [⟨0, (some 2), (.box (.t 0)), none⟩, ⟨0, (some 4), (.alloc [(.int .i64 0), (.int .i64 0), (.int .i64 0), (.int .i64 0)]), none⟩, ⟨0,
  (some 5), (.mv (.c (.int .i64 0))), none⟩]) (.seq (.reg [(2, true), (1, false)] false [⟨0, (some 9), (.load true 2 (.t 2)), none⟩, ⟨0, (some 10), (.mv (.t
  1)), none⟩, ⟨0, (some 11), (.callf false (.c (.fn (.func 38) [] [])) [(.t 9), (.t 10)] []), none⟩, ⟨0, (some 8), (.mv (.t 11)), none⟩, ⟨0, (some 12), (.ext
  (.t 8) 0), none⟩, ⟨0, (some 13), (.ext (.t 8) 1), none⟩, ⟨0, (some 6), (.mv (.t 12)), none⟩, ⟨0, (some 7), (.mv (.t 13)), none⟩]) (.seq (.seq (.reg [] false
  [⟨0, (some 14), (.mv (.t 7)), none⟩, ⟨0, (some 15), (.bin .neq (.t 14) (.c (.int .i64 0))), none⟩]) (.cond (.t 15) (.seq (.reg [] false [⟨0, (some 16),
  (.build [(.int .i64 0), (.int .i64 0), (.int .i64 0), (.int .i64 0)] []), none⟩, ⟨0, (some 17), (.mv (.t 7)), none⟩, ⟨0, none, (.store 4 (.t 4) (.t 16) []),
  none⟩, ⟨0, (some 5), (.mv (.t 17)), none⟩]) .ret) .skip)) (.seq (.reg [(2, true), (6, false)] false [⟨0, (some 18), (.load true 2 (.t 2)), none⟩, ⟨0, (some
  19), (.mv (.t 6)), none⟩, ⟨0, (some 20), (.callf false (.c (.fn (.func 39) [] [])) [(.t 18), (.c (.int .i64 (-1))), (.t 19)] []), none⟩, ⟨0, none, (.store 4
  (.t 4) (.t 20) []), none⟩, ⟨0, (some 5), (.mv (.c (.int .i64 0))), none⟩]) .ret))))⟩
theorem is16 : FnIs prog 16 x16.fn := ⟨fun vs w => call16 vs w, _, _, func16, rfl, rfl, by kernel_rfl, by kernel_rfl⟩
theorem ok16 : okX x16.body = true := by kernel_rfl
theorem st16 : sitesP x16 x16.body := (sitesP_of rfl)

/-- zafra/zafraref01.Excess -/
def x17 : XFn := ⟨21, [(4, (some (true, 4))), (5, none)], false, false,
  (.seq (.reg [] false [⟨0, (some 2), (.box (.t 0)), none⟩, ⟨0, (some 4), (.alloc [(.int .i64 0), (.int .i64 0), (.int .i64 0), (.int .i64 0)]), none⟩, ⟨0,
  (some 5), (.mv (.c (.int .i64 0))), none⟩]) (.seq (.reg [(2, true), (1, false)] false [⟨0, (some 9), (.load true 2 (.t 2)), none⟩, ⟨0, (some 10), (.mv (.t
  1)), none⟩, ⟨0, (some 11), (.callf false (.c (.fn (.func 40) [] [])) [(.t 9), (.t 10)] []), none⟩, ⟨0, (some 8), (.mv (.t 11)), none⟩, ⟨0, (some 12), (.ext
  (.t 8) 0), none⟩, ⟨0, (some 13), (.ext (.t 8) 1), none⟩, ⟨0, (some 6), (.mv (.t 12)), none⟩, ⟨0, (some 7), (.mv (.t 13)), none⟩]) (.seq (.seq (.reg [] false
  [⟨0, (some 14), (.mv (.t 7)), none⟩, ⟨0, (some 15), (.bin .neq (.t 14) (.c (.int .i64 0))), none⟩]) (.cond (.t 15) (.seq (.reg [] false [⟨0, (some 16),
  (.build [(.int .i64 0), (.int .i64 0), (.int .i64 0), (.int .i64 0)] []), none⟩, ⟨0, (some 17), (.mv (.t 7)), none⟩, ⟨0, none, (.store 4 (.t 4) (.t 16) []),
  none⟩, ⟨0, (some 5), (.mv (.t 17)), none⟩]) .ret) .skip)) (.seq (.reg [(2, true), (6, false)] false [⟨0, (some 18), (.load true 2 (.t 2)), none⟩, ⟨0, (some
  19), (.mv (.t 6)), none⟩, ⟨0, (some 20), (.callf false (.c (.fn (.func 41) [] [])) [(.t 18), (.t 19)] []), none⟩, ⟨0, none, (.store 4 (.t 4) (.t 20) []),
  none⟩, ⟨0, (some 5), (.mv (.c (.int .i64 0))), none⟩]) .ret))))⟩
theorem is17 : FnIs prog 17 x17.fn := ⟨fun vs w => call17 vs w, _, _, func17, rfl, rfl, by kernel_rfl, by kernel_rfl⟩
theorem ok17 : okX x17.body = true := by kernel_rfl
theorem st17 : sitesP x17 x17.body := (sitesP_of rfl)

def x18l0 : XCode :=
  (.loop [0, 6, 7, 8] (.seq (.reg [] false [⟨0, (some 9), (.bin .lss (.t 8) (.t 7)), none⟩]) (.seq (.cond (.t 9) .skip (.exit 0)) (.seq (.block 1 (.seq (.reg []
  false [⟨0, (some 10), (.mv (.t 8)), none⟩, ⟨0, (some 11), (.idx 1 (.t 6) (.t 8)), none⟩, ⟨0, (some 12), (.load false 1 (.t 11)), none⟩, ⟨0, (some 3), (.mv
  (.t 10)), none⟩, ⟨0, (some 4), (.mv (.t 12)), none⟩]) (.seq (.reg [] false [⟨0, (some 13), (.mv (.t 4)), none⟩, ⟨0, (some 14), (.bin .lss (.t 13) (.c (.int
  .u8 97))), none⟩, ⟨0, (some 15), (.mv (.t 14)), none⟩, ⟨0, (some 16), (.mv (.t 4)), (some (15, false))⟩, ⟨0, (some 17), (.bin .gtr (.t 16) (.c (.int .u8
  122))), (some (15, false))⟩, ⟨0, (some 18), (.pick (.t 15) (.c (.bool true)) (.t 17)), none⟩, ⟨0, (some 19), (.mv (.t 18)), none⟩, ⟨0, (some 20), (.mv (.t
  3)), (some (19, true))⟩, ⟨0, (some 21), (.bin .eql (.t 20) (.c (.int .i64 0))), (some (19, true))⟩, ⟨0, (some 22), (.mv (.t 21)), (some (19, true))⟩, ⟨0,
  (some 23), (.mv (.t 4)), (some (22, false))⟩, ⟨0, (some 24), (.bin .lss (.t 23) (.c (.int .u8 48))), (some (22, false))⟩, ⟨0, (some 25), (.pick (.t 22) (.c
  (.bool true)) (.t 24)), (some (19, true))⟩, ⟨0, (some 26), (.mv (.t 25)), (some (19, true))⟩, ⟨0, (some 27), (.mv (.t 4)), (some (26, false))⟩, ⟨0, (some
  28), (.bin .gtr (.t 27) (.c (.int .u8 57))), (some (26, false))⟩, ⟨0, (some 29), (.pick (.t 26) (.c (.bool true)) (.t 28)), (some (19, true))⟩, ⟨0, (some
  30), (.pick (.t 19) (.t 29) (.c (.bool false))), none⟩]) (.cond (.t 30) (.seq (.reg [] false [⟨0, (some 2), (.mv (.c (.bool false))), none⟩]) .ret)
  .skip)))) (.reg [] false [⟨0, (some 31), (.bin .add (.t 8) (.c (.int .i64 1))), none⟩, ⟨0, (some 8), (.mv (.t 31)), none⟩])))))
/-- zafra/bulk.Name -/
def x18 : XFn := ⟨40, [(2, none)], false, false,
  (.seq (.reg [] false [⟨0, (some 2), (.mv (.c (.bool false))), none⟩]) (.seq (.seq (.reg [] false [⟨0, (some 5), (.mv (.t 0)), none⟩, ⟨0, (some 6), (.bytes (.t
  5)), none⟩, ⟨0, (some 7), (.len false (.t 6)), none⟩, ⟨0, (some 8), (.mv (.c (.int .i64 0))), none⟩]) (.block 0 x18l0)) (.seq (.reg [] false [⟨0, (some 32),
  (.mv (.t 0)), none⟩, ⟨0, (some 33), (.len true (.t 32)), none⟩, ⟨0, (some 34), (.bin .gtr (.t 33) (.c (.int .i64 0))), none⟩, ⟨0, (some 35), (.mv (.t 34)),
  none⟩, ⟨0, (some 36), (.mv (.t 0)), (some (35, true))⟩, ⟨0, (some 37), (.len true (.t 36)), (some (35, true))⟩, ⟨0, (some 38), (.bin .leq (.t 37) (.c (.int
  .i64 10))), (some (35, true))⟩, ⟨0, (some 39), (.pick (.t 35) (.t 38) (.c (.bool false))), none⟩, ⟨0, (some 2), (.mv (.t 39)), none⟩]) .ret)))⟩
theorem is18 : FnIs prog 18 x18.fn := ⟨fun vs w => call18 vs w, _, _, func18, rfl, rfl, by kernel_rfl, by kernel_rfl⟩
theorem ok18 : okX x18.body = true := by kernel_rfl
theorem st18 : sitesP x18 x18.body := (sitesP_of rfl)

def x19l0 : XCode :=
  (.loop [0, 3] (.seq (.seq (.reg [] false [⟨0, (some 14), (.mv (.t 3)), none⟩, ⟨0, (some 15), (.mv (.t 0)), none⟩, ⟨0, (some 16), (.len true (.t 15)), none⟩,
  ⟨0, (some 17), (.bin .lss (.t 14) (.t 16)), none⟩]) (.cond (.t 17) .skip (.exit 0))) (.seq (.block 1 (.seq (.reg [] true [⟨0, (some 20), (.mv (.t 0)),
  none⟩, ⟨1, (some 21), (.mv (.t 3)), none⟩, ⟨2, (some 22), (.idxs (.t 20) (.t 21)), none⟩, ⟨3, (some 23), (.bin .geq (.t 22) (.c (.int .u8 97))), none⟩, ⟨4,
  (some 24), (.mv (.t 23)), none⟩, ⟨5, (some 25), (.mv (.t 0)), (some (24, true))⟩, ⟨6, (some 26), (.mv (.t 3)), (some (24, true))⟩, ⟨7, (some 27), (.idxs (.t
  25) (.t 26)), (some (24, true))⟩, ⟨8, (some 28), (.bin .leq (.t 27) (.c (.int .u8 122))), (some (24, true))⟩, ⟨9, (some 29), (.pick (.t 24) (.t 28) (.c
  (.bool false))), none⟩, ⟨10, (some 30), (.mv (.t 0)), none⟩, ⟨11, (some 31), (.mv (.t 3)), none⟩, ⟨12, (some 32), (.idxs (.t 30) (.t 31)), none⟩, ⟨13, (some
  33), (.bin .geq (.t 32) (.c (.int .u8 48))), none⟩, ⟨14, (some 34), (.mv (.t 33)), none⟩, ⟨15, (some 35), (.mv (.t 0)), (some (34, true))⟩, ⟨16, (some 36),
  (.mv (.t 3)), (some (34, true))⟩, ⟨17, (some 37), (.idxs (.t 35) (.t 36)), (some (34, true))⟩, ⟨18, (some 38), (.bin .leq (.t 37) (.c (.int .u8 57))), (some
  (34, true))⟩, ⟨19, (some 39), (.pick (.t 34) (.t 38) (.c (.bool false))), none⟩, ⟨20, (some 4), (.mv (.t 29)), none⟩, ⟨21, (some 5), (.mv (.t 39)), none⟩])
  (.seq (.reg [] false [⟨0, (some 40), (.mv (.t 4)), none⟩, ⟨0, (some 41), (.not (.t 40)), none⟩, ⟨0, (some 42), (.mv (.t 41)), none⟩, ⟨0, (some 43), (.mv (.t
  5)), (some (42, true))⟩, ⟨0, (some 44), (.not (.t 43)), (some (42, true))⟩, ⟨0, (some 45), (.mv (.t 44)), (some (42, true))⟩, ⟨0, (some 46), (.mv (.t 3)),
  (some (45, false))⟩, ⟨0, (some 47), (.bin .eql (.t 46) (.c (.int .i64 0))), (some (45, false))⟩, ⟨0, (some 48), (.pick (.t 45) (.c (.bool true)) (.t 47)),
  (some (42, true))⟩, ⟨0, (some 49), (.pick (.t 42) (.t 48) (.c (.bool false))), none⟩]) (.cond (.t 49) (.seq (.reg [] false [⟨0, (some 2), (.mv (.c (.bool
  false))), none⟩]) .ret) .skip)))) (.reg [] false [⟨0, (some 18), (.mv (.t 3)), none⟩, ⟨0, (some 19), (.bin .add (.t 18) (.c (.int .i64 1))), none⟩, ⟨0,
  (some 3), (.mv (.t 19)), none⟩]))))
/-- zafra/zafraref01.Name -/
def x19 : XFn := ⟨50, [(2, none)], false, false,
  (.seq (.reg [] false [⟨0, (some 2), (.mv (.c (.bool false))), none⟩]) (.seq (.seq (.reg [] false [⟨0, (some 6), (.mv (.t 0)), none⟩, ⟨0, (some 7), (.len true
  (.t 6)), none⟩, ⟨0, (some 8), (.bin .eql (.t 7) (.c (.int .i64 0))), none⟩, ⟨0, (some 9), (.mv (.t 8)), none⟩, ⟨0, (some 10), (.mv (.t 0)), (some (9,
  false))⟩, ⟨0, (some 11), (.len true (.t 10)), (some (9, false))⟩, ⟨0, (some 12), (.bin .gtr (.t 11) (.c (.int .i64 10))), (some (9, false))⟩, ⟨0, (some 13),
  (.pick (.t 9) (.c (.bool true)) (.t 12)), none⟩]) (.cond (.t 13) (.seq (.reg [] false [⟨0, (some 2), (.mv (.c (.bool false))), none⟩]) .ret) .skip)) (.seq
  (.seq (.reg [] false [⟨0, (some 3), (.mv (.c (.int .i64 0))), none⟩]) (.block 0 x19l0)) (.seq (.reg [] false [⟨0, (some 2), (.mv (.c (.bool true))), none⟩])
  .ret))))⟩
theorem is19 : FnIs prog 19 x19.fn := ⟨fun vs w => call19 vs w, _, _, func19, rfl, rfl, by kernel_rfl, by kernel_rfl⟩
theorem ok19 : okX x19.body = true := by kernel_rfl
theorem st19 : sitesP x19 x19.body := (sitesP_of rfl)

/-- zafra/bulk.Check -/
def x20 : XFn := ⟨18, [(2, none)], false, false,
  (.seq (.reg [] false [⟨0, (some 1), (.box (.t 0)), none⟩, ⟨0, (some 2), (.mv (.c (.int .i64 0))), none⟩]) (.seq (.block 0 (.seq (.reg [(1, true)] false [⟨0,
  (some 4), (.fld 0 (.t 1)), none⟩, ⟨0, (some 5), (.load false 1 (.t 4)), none⟩, ⟨0, (some 6), (.callf false (.c (.fn (.func 42) [] [])) [(.c (.int .i64 1)),
  (.t 5), (.c (.int .i64 8))] []), none⟩, ⟨0, (some 7), (.not (.t 6)), none⟩, ⟨0, (some 3), (.mv (.t 7)), none⟩]) (.cond (.t 3) (.seq (.reg [] false [⟨0,
  (some 2), (.mv (.c (.int .i64 2))), none⟩]) .ret) (.seq (.reg [] false [⟨0, (some 9), (.fld 1 (.t 1)), none⟩, ⟨0, (some 10), (.load false 1 (.t 9)), none⟩,
  ⟨0, (some 11), (.len false (.t 10)), none⟩, ⟨0, (some 12), (.bin .gtr (.t 11) (.c (.int .i64 20))), none⟩, ⟨0, (some 8), (.mv (.t 12)), none⟩]) (.cond (.t
  8) (.seq (.reg [] false [⟨0, (some 2), (.mv (.c (.int .i64 1))), none⟩]) .ret) .skip))))) (.seq (.reg [(1, true)] false [⟨0, (some 13), (.fld 1 (.t 1)),
  none⟩, ⟨0, (some 14), (.load false 1 (.t 13)), none⟩, ⟨0, (some 15), (.load true 2 (.t 1)), none⟩, ⟨0, (some 16), (.mkf (.func 44) [(.t 15)] []), none⟩, ⟨0,
  (some 17), (.callf false (.c (.fn (.func 43) [] [])) [(.t 14), (.t 16)] []), none⟩, ⟨0, (some 2), (.mv (.t 17)), none⟩]) .ret)))⟩
theorem is20 : FnIs prog 20 x20.fn := ⟨fun vs w => call20 vs w, _, _, func20, rfl, rfl, by kernel_rfl, by kernel_rfl⟩
theorem ok20 : okX x20.body = true := by kernel_rfl
theorem st20 : sitesP x20 x20.body := (sitesP_of rfl)

def x21l0 : XCode :=
  (.loop [1, 3] (.seq (.seq (.reg [] false [⟨0, (some 13), (.mv (.t 3)), none⟩, ⟨0, (some 14), (.fld 1 (.t 1)), none⟩, ⟨0, (some 15), (.load false 1 (.t 14)),
  none⟩, ⟨0, (some 16), (.len false (.t 15)), none⟩, ⟨0, (some 17), (.bin .lss (.t 13) (.t 16)), none⟩]) (.cond (.t 17) .skip (.exit 0))) (.seq (.block 1
  (.seq (.reg [] false [⟨0, (some 20), (.fld 1 (.t 1)), none⟩, ⟨0, (some 21), (.load false 1 (.t 20)), none⟩, ⟨0, (some 22), (.mv (.t 3)), none⟩, ⟨0, (some
  23), (.idx 7 (.t 21) (.t 22)), none⟩, ⟨0, (some 24), (.load true 7 (.t 23)), none⟩, ⟨0, (some 4), (.alloc [(.int .i64 0), (.int .i64 0), (.bool false),
  (.int .i64 0), (.int .i64 0), (.int .i64 0), (.int .i64 0)]), none⟩, ⟨0, none, (.store 7 (.t 4) (.t 24) []), none⟩]) (.seq (.seq (.reg [(4, true)] false
  [⟨0, (some 25), (.fld 0 (.t 4)), none⟩, ⟨0, (some 26), (.load false 1 (.t 25)), none⟩, ⟨0, (some 27), (.fld 0 (.t 1)), none⟩, ⟨0, (some 28), (.load false 1
  (.t 27)), none⟩, ⟨0, (some 29), (.bin .sub (.t 28) (.c (.int .i64 1))), none⟩, ⟨0, (some 30), (.callf false (.c (.fn (.func 45) [] [])) [(.t 26), (.c (.int
  .i64 (-1))), (.t 29)] []), none⟩, ⟨0, (some 31), (.not (.t 30)), none⟩, ⟨0, (some 32), (.mv (.t 31)), none⟩, ⟨0, (some 33), (.fld 1 (.t 4)), (some (32,
  false))⟩, ⟨0, (some 34), (.load false 1 (.t 33)), (some (32, false))⟩, ⟨0, (some 35), (.fld 0 (.t 1)), (some (32, false))⟩, ⟨0, (some 36), (.load false 1
  (.t 35)), (some (32, false))⟩, ⟨0, (some 37), (.bin .sub (.t 36) (.c (.int .i64 1))), (some (32, false))⟩, ⟨0, (some 38), (.callf false (.c (.fn (.func 45)
  [] [])) [(.t 34), (.c (.int .i64 (-1))), (.t 37)] []), (some (32, false))⟩, ⟨0, (some 39), (.not (.t 38)), (some (32, false))⟩, ⟨0, (some 40), (.pick (.t
  32) (.c (.bool true)) (.t 39)), none⟩]) (.cond (.t 40) (.seq (.reg [] false [⟨0, (some 2), (.mv (.c (.int .i64 17))), none⟩]) .ret) .skip)) (.seq (.seq
  (.reg [] false [⟨0, (some 41), (.fld 0 (.t 4)), none⟩, ⟨0, (some 42), (.load false 1 (.t 41)), none⟩, ⟨0, (some 43), (.fld 1 (.t 4)), none⟩, ⟨0, (some 44),
  (.load false 1 (.t 43)), none⟩, ⟨0, (some 45), (.bin .eql (.t 42) (.t 44)), none⟩]) (.cond (.t 45) (.seq (.reg [] false [⟨0, (some 2), (.mv (.c (.int .i64
  22))), none⟩]) .ret) .skip)) (.seq (.reg [(4, true)] false [⟨0, (some 46), (.fld 2 (.t 4)), none⟩, ⟨0, (some 47), (.load false 1 (.t 46)), none⟩, ⟨0, (some
  48), (.mv (.t 47)), none⟩, ⟨0, (some 49), (.fld 3 (.t 4)), (some (48, true))⟩, ⟨0, (some 50), (.load true 4 (.t 49)), (some (48, true))⟩, ⟨0, (some 51),
  (.callf false (.c (.fn (.func 46) [] [])) [(.t 50), (.c (.int .i64 0)), (.c (.int .i64 1000000000))] []), (some (48, true))⟩, ⟨0, (some 52), (.not (.t 51)),
  (some (48, true))⟩, ⟨0, (some 53), (.pick (.t 48) (.t 52) (.c (.bool false))), none⟩]) (.cond (.t 53) (.seq (.reg [] false [⟨0, (some 2), (.mv (.c (.int
  .i64 2))), none⟩]) .ret) .skip)))))) (.reg [] false [⟨0, (some 18), (.mv (.t 3)), none⟩, ⟨0, (some 19), (.bin .add (.t 18) (.c (.int .i64 1))), none⟩, ⟨0,
  (some 3), (.mv (.t 19)), none⟩]))))
/-- zafra/zafraref01.Check -/
def x21 : XFn := ⟨54, [(2, none)], false, false,
  (.seq (.reg [] false [⟨0, (some 1), (.box (.t 0)), none⟩, ⟨0, (some 2), (.mv (.c (.int .i64 0))), none⟩]) (.seq (.seq (.reg [(1, true)] false [⟨0, (some 5),
  (.fld 0 (.t 1)), none⟩, ⟨0, (some 6), (.load false 1 (.t 5)), none⟩, ⟨0, (some 7), (.callf false (.c (.fn (.func 45) [] [])) [(.t 6), (.c (.int .i64 1)),
  (.c (.int .i64 8))] []), none⟩, ⟨0, (some 8), (.not (.t 7)), none⟩]) (.cond (.t 8) (.seq (.reg [] false [⟨0, (some 2), (.mv (.c (.int .i64 2))), none⟩])
  .ret) .skip)) (.seq (.seq (.reg [] false [⟨0, (some 9), (.fld 1 (.t 1)), none⟩, ⟨0, (some 10), (.load false 1 (.t 9)), none⟩, ⟨0, (some 11), (.len false (.t
  10)), none⟩, ⟨0, (some 12), (.bin .gtr (.t 11) (.c (.int .i64 20))), none⟩]) (.cond (.t 12) (.seq (.reg [] false [⟨0, (some 2), (.mv (.c (.int .i64 1))),
  none⟩]) .ret) .skip)) (.seq (.seq (.reg [] false [⟨0, (some 3), (.mv (.c (.int .i64 0))), none⟩]) (.block 0 x21l0)) (.seq (.reg [] false [⟨0, (some 2), (.mv
  (.c (.int .i64 0))), none⟩]) .ret)))))⟩
theorem is21 : FnIs prog 21 x21.fn := ⟨fun vs w => call21 vs w, _, _, func21, rfl, rfl, by kernel_rfl, by kernel_rfl⟩
theorem ok21 : okX x21.body = true := by kernel_rfl
theorem st21 : sitesP x21 x21.body := (sitesP_of rfl)

def x22l0 : XCode :=
  (.loop [0, 1, 5] (.seq (.seq (.reg [] false [⟨0, (some 11), (.mv (.t 5)), none⟩, ⟨0, (some 12), (.mv (.t 0)), none⟩, ⟨0, (some 13), (.len false (.t 12)),
  none⟩, ⟨0, (some 14), (.bin .lss (.t 11) (.t 13)), none⟩]) (.cond (.t 14) .skip (.exit 0))) (.seq (.block 1 (.seq (.reg [] true [⟨0, (some 17), (.mv (.t
  0)), none⟩, ⟨1, (some 18), (.mv (.t 5)), none⟩, ⟨2, (some 19), (.idx 1 (.t 17) (.t 18)), none⟩, ⟨3, (some 20), (.load false 1 (.t 19)), none⟩, ⟨4, (some
  21), (.mv (.t 1)), none⟩, ⟨5, (some 22), (.mv (.t 5)), none⟩, ⟨6, (some 23), (.idx 1 (.t 21) (.t 22)), none⟩, ⟨7, (some 24), (.load false 1 (.t 23)), none⟩,
  ⟨8, (some 25), (.bin .neq (.t 20) (.t 24)), none⟩]) (.cond (.t 25) (.seq (.reg [] false [⟨0, (some 4), (.mv (.c (.bool false))), none⟩]) .ret) .skip)))
  (.reg [] false [⟨0, (some 15), (.mv (.t 5)), none⟩, ⟨0, (some 16), (.bin .add (.t 15) (.c (.int .i64 1))), none⟩, ⟨0, (some 5), (.mv (.t 16)), none⟩]))))
/-- zafra/zafralaw01.numbers -/
def x22 : XFn := ⟨26, [(4, none)], false, false,
  (.seq (.reg [] false [⟨0, (some 4), (.mv (.c (.bool false))), none⟩]) (.seq (.seq (.reg [] false [⟨0, (some 6), (.mv (.t 0)), none⟩, ⟨0, (some 7), (.len false
  (.t 6)), none⟩, ⟨0, (some 8), (.mv (.t 1)), none⟩, ⟨0, (some 9), (.len false (.t 8)), none⟩, ⟨0, (some 10), (.bin .neq (.t 7) (.t 9)), none⟩]) (.cond (.t
  10) (.seq (.reg [] false [⟨0, (some 4), (.mv (.c (.bool false))), none⟩]) .ret) .skip)) (.seq (.seq (.reg [] false [⟨0, (some 5), (.mv (.c (.int .i64 0))),
  none⟩]) (.block 0 x22l0)) (.seq (.reg [] false [⟨0, (some 4), (.mv (.c (.bool true))), none⟩]) .ret))))⟩
theorem is22 : FnIs prog 22 x22.fn := ⟨fun vs w => call22 vs w, _, _, func22, rfl, rfl, by kernel_rfl, by kernel_rfl⟩
theorem ok22 : okX x22.body = true := by kernel_rfl
theorem st22 : sitesP x22 x22.body := (sitesP_of rfl)

def x23l0 : XCode :=
  (.loop [1, 8, 27, 28, 29] (.seq (.reg [] false [⟨0, (some 30), (.bin .lss (.t 29) (.t 28)), none⟩]) (.seq (.cond (.t 30) .skip (.exit 0)) (.seq (.block 1
  (.seq (.reg [] false [⟨0, (some 31), (.mv (.t 29)), none⟩, ⟨0, (some 32), (.idx 7 (.t 27) (.t 29)), none⟩, ⟨0, (some 33), (.load true 7 (.t 32)), none⟩, ⟨0,
  (some 10), (.alloc [(.int .i64 0), (.int .i64 0), (.bool false), (.int .i64 0), (.int .i64 0), (.int .i64 0), (.int .i64 0)]), none⟩, ⟨0, (some 9), (.mv (.t
  31)), none⟩, ⟨0, none, (.store 7 (.t 10) (.t 33) []), none⟩]) (.seq (.reg [] false [⟨0, (some 34), (.fld 3 (.t 10)), none⟩, ⟨0, (some 35), (.load true 4 (.t
  34)), none⟩, ⟨0, (some 36), (.build [(.int .i64 0), (.int .i64 0), (.int .i64 0), (.int .i64 0), (.int .i64 0)] [(0, (1, (.c (.int .i64 1)))), (1, (4, (.t
  35)))]), none⟩, ⟨0, (some 11), (.alloc [(.int .i64 0), (.int .i64 0), (.int .i64 0), (.int .i64 0), (.int .i64 0)]), none⟩, ⟨0, none, (.store 5 (.t 11) (.t
  36) []), none⟩]) (.seq (.seq (.reg [] false [⟨0, (some 37), (.fld 2 (.t 10)), none⟩, ⟨0, (some 38), (.load false 1 (.t 37)), none⟩, ⟨0, (some 39), (.not (.t
  38)), none⟩]) (.cond (.t 39) (.seq (.reg [] false [⟨0, (some 40), (.build [(.int .i64 0), (.int .i64 0), (.int .i64 0), (.int .i64 0), (.int .i64 0)] [(0,
  (1, (.c (.int .i64 3))))]), none⟩, ⟨0, none, (.store 5 (.t 11) (.t 40) []), none⟩]) (.seq (.reg [(1, true)] false [⟨0, (some 42), (.load true 2 (.t 1)),
  none⟩, ⟨0, (some 43), (.mv (.t 9)), none⟩, ⟨0, (some 44), (.callf false (.c (.fn (.func 48) [] [])) [(.t 42), (.t 43)] []), none⟩, ⟨0, (some 41), (.mv (.t
  44)), none⟩, ⟨0, (some 45), (.ext (.t 41) 0), none⟩, ⟨0, (some 46), (.ext (.t 41) 1), none⟩, ⟨0, (some 12), (.alloc [(.int .i64 0), (.int .i64 0), (.int
  .i64 0), (.int .i64 0)]), none⟩, ⟨0, none, (.store 4 (.t 12) (.t 45) []), none⟩, ⟨0, (some 13), (.mv (.t 46)), none⟩]) (.seq (.reg [] false [⟨0, (some 47),
  (.mv (.t 13)), none⟩]) (.cond (.t 47) (.reg [] false [⟨0, (some 48), (.load true 4 (.t 12)), none⟩, ⟨0, (some 49), (.build [(.int .i64 0), (.int .i64 0),
  (.int .i64 0), (.int .i64 0), (.int .i64 0)] [(0, (1, (.c (.int .i64 2)))), (1, (4, (.t 48)))]), none⟩, ⟨0, none, (.store 5 (.t 11) (.t 49) []), none⟩])
  .skip)))) .skip)) (.reg [(11, true)] false [⟨0, (some 50), (.mv (.t 8)), none⟩, ⟨0, (some 51), (.load true 5 (.t 11)), none⟩, ⟨0, (some 52), (.bslice 5 1
  [(.int .i64 0), (.int .i64 0), (.int .i64 0), (.int .i64 0), (.int .i64 0)] [(0, (5, (.t 51)))]), none⟩, ⟨0, (some 53), (.app 5 40 (.t 50) (.t 52)), none⟩,
  ⟨0, (some 8), (.mv (.t 53)), none⟩]))))) (.reg [] false [⟨0, (some 54), (.bin .add (.t 29) (.c (.int .i64 1))), none⟩, ⟨0, (some 29), (.mv (.t 54)),
  none⟩])))))
/-- zafra/bulk.Close -/
def x23 : XFn := ⟨56, [(2, none), (3, none)], false, false,
  (.seq (.reg [] false [⟨0, (some 1), (.box (.t 0)), none⟩, ⟨0, (some 2), (.mv (.c .nilsl)), none⟩, ⟨0, (some 3), (.mv (.c (.int .i64 0))), none⟩]) (.seq (.seq
  (.reg [(1, true)] false [⟨0, (some 14), (.load true 2 (.t 1)), none⟩, ⟨0, (some 15), (.callf false (.c (.fn (.func 20) [] [])) [(.t 14)] []), none⟩, ⟨0,
  (some 4), (.mv (.t 15)), none⟩]) (.seq (.reg [] false [⟨0, (some 16), (.mv (.t 4)), none⟩, ⟨0, (some 17), (.bin .neq (.t 16) (.c (.int .i64 0))), none⟩])
  (.cond (.t 17) (.seq (.reg [] false [⟨0, (some 18), (.mv (.t 4)), none⟩, ⟨0, (some 2), (.mv (.c .nilsl)), none⟩, ⟨0, (some 3), (.mv (.t 18)), none⟩]) .ret)
  .skip))) (.seq (.seq (.reg [(1, true)] false [⟨0, (some 20), (.load true 2 (.t 1)), none⟩, ⟨0, (some 21), (.callf false (.c (.fn (.func 47) [] [])) [(.t
  20)] []), none⟩, ⟨0, (some 19), (.mv (.t 21)), none⟩, ⟨0, (some 22), (.ext (.t 19) 0), none⟩, ⟨0, (some 23), (.ext (.t 19) 1), none⟩, ⟨0, (some 24), (.ext
  (.t 19) 2), none⟩, ⟨0, (some 5), (.mv (.t 22)), none⟩, ⟨0, (some 6), (.mv (.t 23)), none⟩, ⟨0, (some 7), (.mv (.t 24)), none⟩]) (.seq (.reg [] false [⟨0,
  (some 25), (.mv (.t 7)), none⟩]) (.cond (.t 25) (.seq (.reg [] false [⟨0, (some 2), (.mv (.c .nilsl)), none⟩, ⟨0, (some 3), (.mv (.c (.int .i64 12))),
  none⟩]) .ret) .skip))) (.seq (.reg [] false [⟨0, (some 8), (.mv (.c .nilsl)), none⟩]) (.seq (.seq (.reg [] false [⟨0, (some 26), (.fld 1 (.t 1)), none⟩, ⟨0,
  (some 27), (.load false 1 (.t 26)), none⟩, ⟨0, (some 28), (.len false (.t 27)), none⟩, ⟨0, (some 29), (.mv (.c (.int .i64 0))), none⟩]) (.block 0 x23l0))
  (.seq (.reg [] false [⟨0, (some 55), (.mv (.t 8)), none⟩, ⟨0, (some 2), (.mv (.t 55)), none⟩, ⟨0, (some 3), (.mv (.c (.int .i64 0))), none⟩]) .ret))))))⟩
theorem is23 : FnIs prog 23 x23.fn := ⟨fun vs w => call23 vs w, _, _, func23, rfl, rfl, by kernel_rfl, by kernel_rfl⟩
theorem ok23 : okX x23.body = true := by kernel_rfl
theorem st23 : sitesP x23 x23.body := (sitesP_of rfl)

def x24l0 : XCode :=
  (.loop [1, 7, 8] (.seq (.seq (.reg [] false [⟨0, (some 26), (.mv (.t 8)), none⟩, ⟨0, (some 27), (.fld 1 (.t 1)), none⟩, ⟨0, (some 28), (.load false 1 (.t
  27)), none⟩, ⟨0, (some 29), (.len false (.t 28)), none⟩, ⟨0, (some 30), (.bin .lss (.t 26) (.t 29)), none⟩]) (.cond (.t 30) .skip (.exit 0))) (.seq (.block
  1 (.seq (.reg [] false [⟨0, (some 33), (.fld 1 (.t 1)), none⟩, ⟨0, (some 34), (.load false 1 (.t 33)), none⟩, ⟨0, (some 35), (.mv (.t 8)), none⟩, ⟨0, (some
  36), (.idx 7 (.t 34) (.t 35)), none⟩, ⟨0, (some 37), (.load true 7 (.t 36)), none⟩, ⟨0, (some 9), (.alloc [(.int .i64 0), (.int .i64 0), (.bool false),
  (.int .i64 0), (.int .i64 0), (.int .i64 0), (.int .i64 0)]), none⟩, ⟨0, none, (.store 7 (.t 9) (.t 37) []), none⟩]) (.seq (.seq (.reg [] false [⟨0, (some
  38), (.fld 2 (.t 9)), none⟩, ⟨0, (some 39), (.load false 1 (.t 38)), none⟩]) (.cond (.t 39) (.seq (.reg [] false [⟨0, (some 40), (.mv (.t 7)), none⟩, ⟨0,
  (some 41), (.fld 3 (.t 9)), none⟩, ⟨0, (some 42), (.load true 4 (.t 41)), none⟩, ⟨0, (some 43), (.build [(.int .i64 0), (.int .i64 0), (.int .i64 0), (.int
  .i64 0), (.int .i64 0)] [(0, (1, (.c (.int .i64 1)))), (1, (4, (.t 42)))]), none⟩, ⟨0, (some 44), (.bslice 5 1 [(.int .i64 0), (.int .i64 0), (.int .i64 0),
  (.int .i64 0), (.int .i64 0)] [(0, (5, (.t 43)))]), none⟩, ⟨0, (some 45), (.app 5 40 (.t 40) (.t 44)), none⟩, ⟨0, (some 7), (.mv (.t 45)), none⟩]) (.exit
  1)) .skip)) (.seq (.reg [(1, true)] false [⟨0, (some 46), (.load true 2 (.t 1)), none⟩, ⟨0, (some 47), (.mv (.t 8)), none⟩, ⟨0, (some 48), (.callf false (.c
  (.fn (.func 37) [] [])) [(.t 46), (.t 47)] []), none⟩, ⟨0, (some 10), (.mv (.t 48)), none⟩]) (.seq (.reg [] true [⟨0, (some 49), (.mv (.t 10)), none⟩, ⟨1,
  (some 50), (.fld 0 (.t 9)), none⟩, ⟨2, (some 51), (.load false 1 (.t 50)), none⟩, ⟨3, (some 52), (.bin .add (.t 51) (.c (.int .i64 1))), none⟩, ⟨4, (some
  53), (.idx 1 (.t 49) (.t 52)), none⟩, ⟨5, (some 54), (.load false 1 (.t 53)), none⟩, ⟨6, (some 55), (.mv (.t 10)), none⟩, ⟨7, (some 56), (.fld 1 (.t 9)),
  none⟩, ⟨8, (some 57), (.load false 1 (.t 56)), none⟩, ⟨9, (some 58), (.bin .add (.t 57) (.c (.int .i64 1))), none⟩, ⟨10, (some 59), (.idx 1 (.t 55) (.t
  58)), none⟩, ⟨11, (some 60), (.load false 1 (.t 59)), none⟩, ⟨12, (some 11), (.mv (.t 54)), none⟩, ⟨13, (some 12), (.mv (.t 60)), none⟩]) (.block 2 (.seq
  (.reg [] false [⟨0, (some 73), (.mv (.t 11)), none⟩, ⟨0, (some 74), (.mv (.t 12)), none⟩, ⟨0, (some 75), (.bin .eql (.t 73) (.t 74)), none⟩, ⟨0, (some 72),
  (.mv (.t 75)), none⟩]) (.cond (.t 72) (.reg [] false [⟨0, (some 76), (.mv (.t 7)), none⟩, ⟨0, (some 77), (.build [(.int .i64 0), (.int .i64 0), (.int .i64
  0), (.int .i64 0), (.int .i64 0)] [(0, (1, (.c (.int .i64 3))))]), none⟩, ⟨0, (some 78), (.bslice 5 1 [(.int .i64 0), (.int .i64 0), (.int .i64 0), (.int
  .i64 0), (.int .i64 0)] [(0, (5, (.t 77)))]), none⟩, ⟨0, (some 79), (.app 5 40 (.t 76) (.t 78)), none⟩, ⟨0, (some 7), (.mv (.t 79)), none⟩]) (.seq (.reg []
  false [⟨0, (some 81), (.mv (.t 11)), none⟩, ⟨0, (some 82), (.bin .neq (.t 81) (.c (.int .i64 0))), none⟩, ⟨0, (some 80), (.mv (.t 82)), none⟩]) (.cond (.t
  80) (.reg [(10, false), (1, true)] true [⟨0, (some 83), (.mv (.t 7)), none⟩, ⟨1, (some 84), (.load true 2 (.t 1)), none⟩, ⟨2, (some 85), (.mv (.t 10)),
  none⟩, ⟨3, (some 86), (.mv (.t 11)), none⟩, ⟨4, (some 87), (.callf false (.c (.fn (.func 50) [] [])) [(.t 85), (.t 86)] [1]), none⟩, ⟨5, (some 88), (.callf
  false (.c (.fn (.func 41) [] [])) [(.t 84), (.t 87)] []), none⟩, ⟨6, (some 89), (.build [(.int .i64 0), (.int .i64 0), (.int .i64 0), (.int .i64 0), (.int
  .i64 0)] [(0, (1, (.c (.int .i64 2)))), (1, (4, (.t 88)))]), none⟩, ⟨7, (some 90), (.bslice 5 1 [(.int .i64 0), (.int .i64 0), (.int .i64 0), (.int .i64 0),
  (.int .i64 0)] [(0, (5, (.t 89)))]), none⟩, ⟨8, (some 91), (.app 5 40 (.t 83) (.t 90)), none⟩, ⟨9, (some 7), (.mv (.t 91)), none⟩]) (.reg [(10, false), (1,
  true)] true [⟨0, (some 61), (.mv (.t 7)), none⟩, ⟨1, (some 62), (.build [(.int .i64 0), (.int .i64 0), (.int .i64 0), (.int .i64 0)] []), none⟩, ⟨2, (some
  63), (.load true 2 (.t 1)), none⟩, ⟨3, (some 64), (.mv (.t 10)), none⟩, ⟨4, (some 65), (.mv (.t 12)), none⟩, ⟨5, (some 66), (.callf false (.c (.fn (.func
  50) [] [])) [(.t 64), (.t 65)] [2]), none⟩, ⟨6, (some 67), (.callf false (.c (.fn (.func 41) [] [])) [(.t 63), (.t 66)] []), none⟩, ⟨7, (some 68), (.callf
  false (.c (.fn (.func 51) [] [])) [(.t 62), (.c (.int .i64 (-1))), (.t 67)] []), none⟩, ⟨8, (some 69), (.build [(.int .i64 0), (.int .i64 0), (.int .i64 0),
  (.int .i64 0), (.int .i64 0)] [(0, (1, (.c (.int .i64 2)))), (1, (4, (.t 68)))]), none⟩, ⟨9, (some 70), (.bslice 5 1 [(.int .i64 0), (.int .i64 0), (.int
  .i64 0), (.int .i64 0), (.int .i64 0)] [(0, (5, (.t 69)))]), none⟩, ⟨10, (some 71), (.app 5 40 (.t 61) (.t 70)), none⟩, ⟨11, (some 7), (.mv (.t 71)),
  none⟩]))))))))))) (.reg [] false [⟨0, (some 31), (.mv (.t 8)), none⟩, ⟨0, (some 32), (.bin .add (.t 31) (.c (.int .i64 1))), none⟩, ⟨0, (some 8), (.mv (.t
  32)), none⟩]))))
/-- zafra/zafraref01.Close -/
def x24 : XFn := ⟨93, [(2, none), (3, none)], false, false,
  (.seq (.reg [] false [⟨0, (some 1), (.box (.t 0)), none⟩, ⟨0, (some 2), (.mv (.c .nilsl)), none⟩, ⟨0, (some 3), (.mv (.c (.int .i64 0))), none⟩]) (.seq (.reg
  [(1, true)] false [⟨0, (some 13), (.load true 2 (.t 1)), none⟩, ⟨0, (some 14), (.callf false (.c (.fn (.func 21) [] [])) [(.t 13)] []), none⟩, ⟨0, (some 4),
  (.mv (.t 14)), none⟩]) (.seq (.seq (.reg [] false [⟨0, (some 15), (.mv (.t 4)), none⟩, ⟨0, (some 16), (.bin .neq (.t 15) (.c (.int .i64 0))), none⟩]) (.cond
  (.t 16) (.seq (.reg [] false [⟨0, (some 17), (.mv (.t 4)), none⟩, ⟨0, (some 2), (.mv (.c .nilsl)), none⟩, ⟨0, (some 3), (.mv (.t 17)), none⟩]) .ret) .skip))
  (.seq (.reg [(1, true)] false [⟨0, (some 19), (.load true 2 (.t 1)), none⟩, ⟨0, (some 20), (.callf false (.c (.fn (.func 49) [] [])) [(.t 19)] []), none⟩,
  ⟨0, (some 18), (.mv (.t 20)), none⟩, ⟨0, (some 21), (.ext (.t 18) 0), none⟩, ⟨0, (some 22), (.ext (.t 18) 1), none⟩, ⟨0, (some 5), (.mv (.t 21)), none⟩, ⟨0,
  (some 6), (.mv (.t 22)), none⟩]) (.seq (.seq (.reg [] false [⟨0, (some 23), (.mv (.t 5)), none⟩, ⟨0, (some 24), (.len false (.t 23)), none⟩, ⟨0, (some 25),
  (.bin .gtr (.t 24) (.c (.int .i64 0))), none⟩]) (.cond (.t 25) (.seq (.reg [] false [⟨0, (some 2), (.mv (.c .nilsl)), none⟩, ⟨0, (some 3), (.mv (.c (.int
  .i64 12))), none⟩]) .ret) .skip)) (.seq (.reg [] false [⟨0, (some 7), (.mv (.c .nilsl)), none⟩]) (.seq (.seq (.reg [] false [⟨0, (some 8), (.mv (.c (.int
  .i64 0))), none⟩]) (.block 0 x24l0)) (.seq (.reg [] false [⟨0, (some 92), (.mv (.t 7)), none⟩, ⟨0, (some 2), (.mv (.t 92)), none⟩, ⟨0, (some 3), (.mv (.c
  (.int .i64 0))), none⟩]) .ret))))))))⟩
theorem is24 : FnIs prog 24 x24.fn := ⟨fun vs w => call24 vs w, _, _, func24, rfl, rfl, by kernel_rfl, by kernel_rfl⟩
theorem ok24 : okX x24.body = true := by kernel_rfl
theorem st24 : sitesP x24 x24.body := (sitesP_of rfl)

/-- zafra/bulk.Prove -/
def x25 : XFn := ⟨22, [(2, none), (3, none), (4, none)], false, false,
  (.seq (.reg [] false [⟨0, (some 1), (.box (.t 0)), none⟩, ⟨0, (some 2), (.mv (.c .nilsl)), none⟩, ⟨0, (some 3), (.mv (.c (.int .i64 0))), none⟩, ⟨0, (some 4),
  (.mv (.c (.int .i64 0))), none⟩]) (.seq (.seq (.reg [(1, true)] false [⟨0, (some 7), (.load true 2 (.t 1)), none⟩, ⟨0, (some 8), (.callf false (.c (.fn
  (.func 20) [] [])) [(.t 7)] []), none⟩, ⟨0, (some 5), (.mv (.t 8)), none⟩]) (.seq (.reg [] false [⟨0, (some 9), (.mv (.t 5)), none⟩, ⟨0, (some 10), (.bin
  .neq (.t 9) (.c (.int .i64 0))), none⟩]) (.cond (.t 10) (.seq (.reg [] false [⟨0, (some 11), (.mv (.t 5)), none⟩, ⟨0, (some 2), (.mv (.c .nilsl)), none⟩,
  ⟨0, (some 3), (.mv (.c (.int .i64 0))), none⟩, ⟨0, (some 4), (.mv (.t 11)), none⟩]) .ret) .skip))) (.seq (.reg [(1, true)] false [⟨0, (some 13), (.load true
  2 (.t 1)), none⟩, ⟨0, (some 14), (.callf false (.c (.fn (.func 47) [] [])) [(.t 13)] []), none⟩, ⟨0, (some 12), (.mv (.t 14)), none⟩, ⟨0, (some 15), (.ext
  (.t 12) 0), none⟩, ⟨0, (some 16), (.ext (.t 12) 1), none⟩, ⟨0, (some 17), (.ext (.t 12) 2), none⟩, ⟨0, (some 2), (.mv (.t 15)), none⟩, ⟨0, (some 3), (.mv
  (.t 16)), none⟩, ⟨0, (some 6), (.mv (.t 17)), none⟩]) (.seq (.seq (.reg [] false [⟨0, (some 18), (.mv (.t 6)), none⟩, ⟨0, (some 19), (.not (.t 18)), none⟩])
  (.cond (.t 19) (.seq (.reg [] false [⟨0, (some 2), (.mv (.c .nilsl)), none⟩, ⟨0, (some 3), (.mv (.c (.int .i64 0))), none⟩, ⟨0, (some 4), (.mv (.c (.int
  .i64 5))), none⟩]) .ret) .skip)) (.seq (.reg [] false [⟨0, (some 20), (.mv (.t 2)), none⟩, ⟨0, (some 21), (.mv (.t 3)), none⟩, ⟨0, (some 2), (.mv (.t 20)),
  none⟩, ⟨0, (some 3), (.mv (.t 21)), none⟩, ⟨0, (some 4), (.mv (.c (.int .i64 0))), none⟩]) .ret)))))⟩
theorem is25 : FnIs prog 25 x25.fn := ⟨fun vs w => call25 vs w, _, _, func25, rfl, rfl, by kernel_rfl, by kernel_rfl⟩
theorem ok25 : okX x25.body = true := by kernel_rfl
theorem st25 : sitesP x25 x25.body := (sitesP_of rfl)

/-- zafra/zafraref01.Prove -/
def x26 : XFn := ⟨23, [(2, none), (3, none), (4, none)], false, false,
  (.seq (.reg [] false [⟨0, (some 1), (.box (.t 0)), none⟩, ⟨0, (some 2), (.mv (.c .nilsl)), none⟩, ⟨0, (some 3), (.mv (.c (.int .i64 0))), none⟩, ⟨0, (some 4),
  (.mv (.c (.int .i64 0))), none⟩]) (.seq (.reg [(1, true)] false [⟨0, (some 8), (.load true 2 (.t 1)), none⟩, ⟨0, (some 9), (.callf false (.c (.fn (.func 21)
  [] [])) [(.t 8)] []), none⟩, ⟨0, (some 5), (.mv (.t 9)), none⟩]) (.seq (.seq (.reg [] false [⟨0, (some 10), (.mv (.t 5)), none⟩, ⟨0, (some 11), (.bin .neq
  (.t 10) (.c (.int .i64 0))), none⟩]) (.cond (.t 11) (.seq (.reg [] false [⟨0, (some 12), (.mv (.t 5)), none⟩, ⟨0, (some 2), (.mv (.c .nilsl)), none⟩, ⟨0,
  (some 3), (.mv (.c (.int .i64 0))), none⟩, ⟨0, (some 4), (.mv (.t 12)), none⟩]) .ret) .skip)) (.seq (.reg [(1, true)] false [⟨0, (some 14), (.load true 2
  (.t 1)), none⟩, ⟨0, (some 15), (.callf false (.c (.fn (.func 49) [] [])) [(.t 14)] []), none⟩, ⟨0, (some 13), (.mv (.t 15)), none⟩, ⟨0, (some 16), (.ext (.t
  13) 0), none⟩, ⟨0, (some 17), (.ext (.t 13) 1), none⟩, ⟨0, (some 6), (.mv (.t 16)), none⟩, ⟨0, (some 7), (.mv (.t 17)), none⟩]) (.seq (.seq (.reg [] false
  [⟨0, (some 18), (.mv (.t 6)), none⟩, ⟨0, (some 19), (.len false (.t 18)), none⟩, ⟨0, (some 20), (.bin .eql (.t 19) (.c (.int .i64 0))), none⟩]) (.cond (.t
  20) (.seq (.reg [] false [⟨0, (some 2), (.mv (.c .nilsl)), none⟩, ⟨0, (some 3), (.mv (.c (.int .i64 0))), none⟩, ⟨0, (some 4), (.mv (.c (.int .i64 5))),
  none⟩]) .ret) .skip)) (.seq (.reg [] false [⟨0, (some 21), (.mv (.t 6)), none⟩, ⟨0, (some 22), (.mv (.t 7)), none⟩, ⟨0, (some 2), (.mv (.t 21)), none⟩, ⟨0,
  (some 3), (.mv (.t 22)), none⟩, ⟨0, (some 4), (.mv (.c (.int .i64 0))), none⟩]) .ret))))))⟩
theorem is26 : FnIs prog 26 x26.fn := ⟨fun vs w => call26 vs w, _, _, func26, rfl, rfl, by kernel_rfl, by kernel_rfl⟩
theorem ok26 : okX x26.body = true := by kernel_rfl
theorem st26 : sitesP x26 x26.body := (sitesP_of rfl)

def x27l0 : XCode :=
  (.loop [2, 3, 7, 9] (.seq (.seq (.reg [] false [⟨0, (some 22), (.mv (.t 9)), none⟩, ⟨0, (some 23), (.fld 1 (.t 3)), none⟩, ⟨0, (some 24), (.load false 1 (.t
  23)), none⟩, ⟨0, (some 25), (.len false (.t 24)), none⟩, ⟨0, (some 26), (.bin .lss (.t 22) (.t 25)), none⟩]) (.cond (.t 26) .skip (.exit 0))) (.seq (.block
  1 (.seq (.reg [] true [⟨0, (some 29), (.fld 1 (.t 3)), none⟩, ⟨1, (some 30), (.load false 1 (.t 29)), none⟩, ⟨2, (some 31), (.mv (.t 9)), none⟩, ⟨3, (some
  32), (.idx 7 (.t 30) (.t 31)), none⟩, ⟨4, (some 33), (.fld 2 (.t 32)), none⟩, ⟨5, (some 34), (.load false 1 (.t 33)), none⟩, ⟨6, (some 35), (.not (.t 34)),
  none⟩, ⟨7, (some 36), (.mv (.t 35)), none⟩, ⟨8, (some 37), (.mv (.t 7)), (some (36, true))⟩, ⟨9, (some 38), (.fld 1 (.t 3)), (some (36, true))⟩, ⟨10, (some
  39), (.load false 1 (.t 38)), (some (36, true))⟩, ⟨11, (some 40), (.mv (.t 9)), (some (36, true))⟩, ⟨12, (some 41), (.idx 7 (.t 39) (.t 40)), (some (36,
  true))⟩, ⟨13, (some 42), (.fld 0 (.t 41)), (some (36, true))⟩, ⟨14, (some 43), (.load false 1 (.t 42)), (some (36, true))⟩, ⟨15, (some 44), (.bin .add (.t
  43) (.c (.int .i64 1))), (some (36, true))⟩, ⟨16, (some 45), (.idx 1 (.t 37) (.t 44)), (some (36, true))⟩, ⟨17, (some 46), (.load false 1 (.t 45)), (some
  (36, true))⟩, ⟨18, (some 47), (.mv (.t 7)), (some (36, true))⟩, ⟨19, (some 48), (.fld 1 (.t 3)), (some (36, true))⟩, ⟨20, (some 49), (.load false 1 (.t
  48)), (some (36, true))⟩, ⟨21, (some 50), (.mv (.t 9)), (some (36, true))⟩, ⟨22, (some 51), (.idx 7 (.t 49) (.t 50)), (some (36, true))⟩, ⟨23, (some 52),
  (.fld 1 (.t 51)), (some (36, true))⟩, ⟨24, (some 53), (.load false 1 (.t 52)), (some (36, true))⟩, ⟨25, (some 54), (.bin .add (.t 53) (.c (.int .i64 1))),
  (some (36, true))⟩, ⟨26, (some 55), (.idx 1 (.t 47) (.t 54)), (some (36, true))⟩, ⟨27, (some 56), (.load false 1 (.t 55)), (some (36, true))⟩, ⟨28, (some
  57), (.binb true (.t 46) (.t 56)), (some (36, true))⟩, ⟨29, (some 58), (.pick (.t 36) (.t 57) (.c (.bool false))), none⟩]) (.cond (.t 58) (.seq (.reg []
  false [⟨0, (some 6), (.mv (.c (.int .i64 11))), none⟩]) .ret) .skip))) (.reg [] false [⟨0, (some 27), (.mv (.t 9)), none⟩, ⟨0, (some 28), (.bin .add (.t 27)
  (.c (.int .i64 1))), none⟩, ⟨0, (some 9), (.mv (.t 28)), none⟩]))))
/-- zafra/zafraref01.Refutes -/
def x27 : XFn := ⟨65, [(6, none)], false, false,
  (.seq (.reg [] false [⟨0, (some 3), (.box (.t 0)), none⟩, ⟨0, (some 6), (.mv (.c (.int .i64 0))), none⟩]) (.seq (.reg [(3, true), (1, false)] false [⟨0, (some
  11), (.load true 2 (.t 3)), none⟩, ⟨0, (some 12), (.mv (.t 1)), none⟩, ⟨0, (some 13), (.callf false (.c (.fn (.func 40) [] [])) [(.t 11), (.t 12)] []),
  none⟩, ⟨0, (some 10), (.mv (.t 13)), none⟩, ⟨0, (some 14), (.ext (.t 10) 0), none⟩, ⟨0, (some 15), (.ext (.t 10) 1), none⟩, ⟨0, (some 7), (.mv (.t 14)),
  none⟩, ⟨0, (some 8), (.mv (.t 15)), none⟩]) (.seq (.seq (.reg [] false [⟨0, (some 16), (.mv (.t 8)), none⟩, ⟨0, (some 17), (.bin .neq (.t 16) (.c (.int .i64
  0))), none⟩]) (.cond (.t 17) (.seq (.reg [] false [⟨0, (some 18), (.mv (.t 8)), none⟩, ⟨0, (some 6), (.mv (.t 18)), none⟩]) .ret) .skip)) (.seq (.seq (.reg
  [] false [⟨0, (some 19), (.mv (.t 2)), none⟩, ⟨0, (some 20), (.callf false (.c (.fn (.func 45) [] [])) [(.t 19), (.c (.int .i64 0)), (.c (.int .i64 3))]
  []), none⟩, ⟨0, (some 21), (.not (.t 20)), none⟩]) (.cond (.t 21) (.seq (.reg [] false [⟨0, (some 6), (.mv (.c (.int .i64 18))), none⟩]) .ret) .skip)) (.seq
  (.seq (.reg [] false [⟨0, (some 9), (.mv (.c (.int .i64 0))), none⟩]) (.block 0 x27l0)) (.seq (.seq (.reg [(3, true), (7, false)] false [⟨0, (some 59),
  (.load true 2 (.t 3)), none⟩, ⟨0, (some 60), (.mv (.t 7)), none⟩, ⟨0, (some 61), (.callf false (.c (.fn (.func 41) [] [])) [(.t 59), (.t 60)] []), none⟩,
  ⟨0, (some 62), (.mv (.t 2)), none⟩, ⟨0, (some 63), (.idxv false 4 1 (.t 61) (.t 62)), none⟩, ⟨0, (some 64), (.bin .eql (.t 63) (.c (.int .i64 0))), none⟩])
  (.cond (.t 64) (.seq (.reg [] false [⟨0, (some 6), (.mv (.c (.int .i64 11))), none⟩]) .ret) .skip)) (.seq (.reg [] false [⟨0, (some 6), (.mv (.c (.int .i64
  0))), none⟩]) .ret)))))))⟩
theorem is27 : FnIs prog 27 x27.fn := ⟨fun vs w => call27 vs w, _, _, func27, rfl, rfl, by kernel_rfl, by kernel_rfl⟩
theorem ok27 : okX x27.body = true := by kernel_rfl
theorem st27 : sitesP x27 x27.body := (sitesP_of rfl)

/-- zafra/bulk.Refutes -/
def x28 : XFn := ⟨36, [(6, none)], false, false,
  (.seq (.reg [] false [⟨0, (some 3), (.box (.t 0)), none⟩, ⟨0, (some 6), (.mv (.c (.int .i64 0))), none⟩]) (.seq (.reg [(3, true), (1, false)] false [⟨0, (some
  10), (.load true 2 (.t 3)), none⟩, ⟨0, (some 11), (.mv (.t 1)), none⟩, ⟨0, (some 12), (.callf false (.c (.fn (.func 38) [] [])) [(.t 10), (.t 11)] []),
  none⟩, ⟨0, (some 9), (.mv (.t 12)), none⟩, ⟨0, (some 13), (.ext (.t 9) 0), none⟩, ⟨0, (some 14), (.ext (.t 9) 1), none⟩, ⟨0, (some 7), (.alloc [.nilfn]),
  none⟩, ⟨0, none, (.store 1 (.t 7) (.t 13) []), none⟩, ⟨0, (some 8), (.mv (.t 14)), none⟩]) (.seq (.block 0 (.seq (.reg [] false [⟨0, (some 16), (.mv (.t
  8)), none⟩, ⟨0, (some 17), (.bin .neq (.t 16) (.c (.int .i64 0))), none⟩, ⟨0, (some 15), (.mv (.t 17)), none⟩]) (.cond (.t 15) (.seq (.reg [] false [⟨0,
  (some 18), (.mv (.t 8)), none⟩, ⟨0, (some 6), (.mv (.t 18)), none⟩]) .ret) (.seq (.reg [] false [⟨0, (some 20), (.mv (.t 2)), none⟩, ⟨0, (some 21), (.callf
  false (.c (.fn (.func 42) [] [])) [(.c (.int .i64 0)), (.t 20), (.c (.int .i64 3))] []), none⟩, ⟨0, (some 22), (.not (.t 21)), none⟩, ⟨0, (some 19), (.mv
  (.t 22)), none⟩]) (.cond (.t 19) (.seq (.reg [] false [⟨0, (some 6), (.mv (.c (.int .i64 18))), none⟩]) .ret) (.seq (.reg [(3, true), (7, true)] false [⟨0,
  (some 24), (.load true 2 (.t 3)), none⟩, ⟨0, (some 25), (.load false 1 (.t 7)), none⟩, ⟨0, (some 26), (.callf false (.c (.fn (.func 39) [] [])) [(.t 24),
  (.c (.int .i64 (-1))), (.t 25)] []), none⟩, ⟨0, (some 27), (.mv (.t 2)), none⟩, ⟨0, (some 28), (.idxv false 4 1 (.t 26) (.t 27)), none⟩, ⟨0, (some 29),
  (.bin .eql (.t 28) (.c (.int .i64 0))), none⟩, ⟨0, (some 30), (.mv (.t 29)), none⟩, ⟨0, (some 31), (.fld 1 (.t 3)), (some (30, false))⟩, ⟨0, (some 32),
  (.load false 1 (.t 31)), (some (30, false))⟩, ⟨0, (some 33), (.mkf (.func 53) [] [(.t 7)]), (some (30, false))⟩, ⟨0, (some 34), (.callf false (.c (.fn
  (.func 52) [] [])) [(.t 32), (.t 33)] []), (some (30, false))⟩, ⟨0, (some 35), (.pick (.t 30) (.c (.bool true)) (.t 34)), none⟩, ⟨0, (some 23), (.mv (.t
  35)), none⟩]) (.cond (.t 23) (.seq (.reg [] false [⟨0, (some 6), (.mv (.c (.int .i64 11))), none⟩]) .ret) .skip))))))) (.seq (.reg [] false [⟨0, (some 6),
  (.mv (.c (.int .i64 0))), none⟩]) .ret))))⟩
theorem is28 : FnIs prog 28 x28.fn := ⟨fun vs w => call28 vs w, _, _, func28, rfl, rfl, by kernel_rfl, by kernel_rfl⟩
theorem ok28 : okX x28.body = true := by kernel_rfl
theorem st28 : sitesP x28 x28.body := (sitesP_of rfl)

def x29l0 : XCode :=
  (.loop [1, 2, 4, 5, 6, 7, 8, 9, 10, 11, 77] (.seq (.reg [] false [⟨0, (some 78), (.bin .lss (.t 77) (.c (.int .i64 4))), none⟩]) (.seq (.cond (.t 78) .skip
  (.exit 2)) (.seq (.block 3 (.seq (.reg [] false [⟨0, (some 79), (.mv (.t 77)), none⟩, ⟨0, (some 12), (.mv (.t 79)), none⟩]) (.seq (.reg [] false [⟨0, (some
  80), (.mv (.t 12)), none⟩, ⟨0, (some 81), (.mv (.t 8)), none⟩, ⟨0, (some 82), (.mv (.t 9)), none⟩, ⟨0, (some 83), (.mv (.t 12)), none⟩, ⟨0, (some 84),
  (.callf false (.t 81) [(.t 82), (.t 83)] []), none⟩, ⟨0, (some 85), (.idxa 4 1 (.t 11) (.t 80)), none⟩, ⟨0, none, (.store 1 (.t 85) (.t 84) []), none⟩])
  (.seq (.seq (.reg [] false [⟨0, (some 86), (.fld 1 (.t 10)), none⟩, ⟨0, (some 87), (.load false 1 (.t 86)), none⟩, ⟨0, (some 88), (.bin .geq (.t 87) (.c
  (.int .i64 0))), none⟩]) (.cond (.t 88) (.reg [] true [⟨0, (some 89), (.fld 1 (.t 10)), none⟩, ⟨1, (some 90), (.load false 1 (.t 89)), none⟩, ⟨2, (some 91),
  (.mv (.t 12)), none⟩, ⟨3, (some 92), (.idxa 4 4 (.t 7) (.t 90)), none⟩, ⟨4, (some 93), (.idxa 4 1 (.t 92) (.t 91)), none⟩, ⟨5, (some 94), (.load false 1 (.t
  93)), none⟩, ⟨6, (some 95), (.mv (.t 12)), none⟩, ⟨7, (some 96), (.idxa 4 1 (.t 11) (.t 95)), none⟩, ⟨8, (some 97), (.load false 1 (.t 96)), none⟩, ⟨9,
  (some 98), (.bin .add (.t 94) (.t 97)), none⟩, ⟨10, (some 99), (.idxa 4 4 (.t 7) (.t 90)), none⟩, ⟨11, (some 100), (.idxa 4 1 (.t 99) (.t 91)), none⟩, ⟨12,
  none, (.store 1 (.t 100) (.t 98) []), none⟩]) .skip)) (.seq (.reg [] false [⟨0, (some 101), (.fld 0 (.t 10)), none⟩, ⟨0, (some 102), (.load false 1 (.t
  101)), none⟩, ⟨0, (some 103), (.bin .geq (.t 102) (.c (.int .i64 0))), none⟩]) (.cond (.t 103) (.reg [] true [⟨0, (some 104), (.fld 0 (.t 10)), none⟩, ⟨1,
  (some 105), (.load false 1 (.t 104)), none⟩, ⟨2, (some 106), (.mv (.t 12)), none⟩, ⟨3, (some 107), (.idxa 4 4 (.t 7) (.t 105)), none⟩, ⟨4, (some 108),
  (.idxa 4 1 (.t 107) (.t 106)), none⟩, ⟨5, (some 109), (.load false 1 (.t 108)), none⟩, ⟨6, (some 110), (.mv (.t 12)), none⟩, ⟨7, (some 111), (.idxa 4 1 (.t
  11) (.t 110)), none⟩, ⟨8, (some 112), (.load false 1 (.t 111)), none⟩, ⟨9, (some 113), (.bin .sub (.t 109) (.t 112)), none⟩, ⟨10, (some 114), (.idxa 4 4 (.t
  7) (.t 105)), none⟩, ⟨11, (some 115), (.idxa 4 1 (.t 114) (.t 106)), none⟩, ⟨12, none, (.store 1 (.t 115) (.t 113) []), none⟩]) .skip)))))) (.reg [] false
  [⟨0, (some 116), (.bin .add (.t 77) (.c (.int .i64 1))), none⟩, ⟨0, (some 77), (.mv (.t 116)), none⟩])))))
def x29l1 : XCode :=
  (.loop [1, 2, 4, 5, 6, 7, 8, 9] (.seq (.seq (.reg [] false [⟨0, (some 24), (.mv (.t 9)), none⟩, ⟨0, (some 25), (.fld 1 (.t 1)), none⟩, ⟨0, (some 26), (.load
  false 1 (.t 25)), none⟩, ⟨0, (some 27), (.len false (.t 26)), none⟩, ⟨0, (some 28), (.bin .lss (.t 24) (.t 27)), none⟩, ⟨0, (some 29), (.mv (.t 28)), none⟩,
  ⟨0, (some 30), (.mv (.t 9)), (some (29, true))⟩, ⟨0, (some 31), (.bin .lss (.t 30) (.c (.int .i64 6))), (some (29, true))⟩, ⟨0, (some 32), (.pick (.t 29)
  (.t 31) (.c (.bool false))), none⟩]) (.cond (.t 32) .skip (.exit 0))) (.seq (.block 1 (.seq (.reg [] true [⟨0, (some 35), (.fld 1 (.t 1)), none⟩, ⟨1, (some
  36), (.load false 1 (.t 35)), none⟩, ⟨2, (some 37), (.mv (.t 9)), none⟩, ⟨3, (some 38), (.idx 2 (.t 36) (.t 37)), none⟩, ⟨4, (some 39), (.idxa 2 1 (.t 38)
  (.c (.int .i64 0))), none⟩, ⟨5, (some 40), (.load false 1 (.t 39)), none⟩, ⟨6, (some 41), (.conv .i64 (.t 40)), none⟩, ⟨7, (some 42), (.mv (.t 4)), none⟩,
  ⟨8, (some 43), (.bin .add (.t 42) (.c (.int .i64 1))), none⟩, ⟨9, (some 44), (.bin .rem (.t 41) (.t 43)), none⟩, ⟨10, (some 45), (.bin .sub (.t 44) (.c
  (.int .i64 1))), none⟩, ⟨11, (some 46), (.fld 1 (.t 1)), none⟩, ⟨12, (some 47), (.load false 1 (.t 46)), none⟩, ⟨13, (some 48), (.mv (.t 9)), none⟩, ⟨14,
  (some 49), (.idx 2 (.t 47) (.t 48)), none⟩, ⟨15, (some 50), (.idxa 2 1 (.t 49) (.c (.int .i64 1))), none⟩, ⟨16, (some 51), (.load false 1 (.t 50)), none⟩,
  ⟨17, (some 52), (.conv .i64 (.t 51)), none⟩, ⟨18, (some 53), (.mv (.t 4)), none⟩, ⟨19, (some 54), (.bin .add (.t 53) (.c (.int .i64 1))), none⟩, ⟨20, (some
  55), (.bin .rem (.t 52) (.t 54)), none⟩, ⟨21, (some 56), (.bin .sub (.t 55) (.c (.int .i64 1))), none⟩, ⟨22, (some 57), (.fld 3 (.t 1)), none⟩, ⟨23, (some
  58), (.load false 1 (.t 57)), none⟩, ⟨24, (some 59), (.mv (.t 9)), none⟩, ⟨25, (some 60), (.bin .shr (.t 58) (.t 59)), none⟩, ⟨26, (some 61), (.bin .and (.t
  60) (.c (.int .u16 1))), none⟩, ⟨27, (some 62), (.bin .eql (.t 61) (.c (.int .u16 1))), none⟩, ⟨28, (some 63), (.build [(.int .i64 0), (.int .i64 0), (.bool
  false), (.int .i64 0), (.int .i64 0), (.int .i64 0), (.int .i64 0)] [(0, (1, (.t 45))), (1, (1, (.t 56))), (2, (1, (.t 62)))]), none⟩, ⟨29, (some 10),
  (.alloc [(.int .i64 0), (.int .i64 0), (.bool false), (.int .i64 0), (.int .i64 0), (.int .i64 0), (.int .i64 0)]), none⟩, ⟨30, none, (.store 7 (.t 10) (.t
  63) []), none⟩]) (.seq (.seq (.reg [] false [⟨0, (some 64), (.fld 0 (.t 10)), none⟩, ⟨0, (some 65), (.load false 1 (.t 64)), none⟩, ⟨0, (some 66), (.fld 1
  (.t 10)), none⟩, ⟨0, (some 67), (.load false 1 (.t 66)), none⟩, ⟨0, (some 68), (.bin .eql (.t 65) (.t 67)), none⟩]) (.cond (.t 68) (.reg [] false [⟨0, (some
  69), (.fld 0 (.t 10)), none⟩, ⟨0, (some 70), (.load false 1 (.t 69)), none⟩, ⟨0, (some 71), (.bin .add (.t 70) (.c (.int .i64 2))), none⟩, ⟨0, (some 72),
  (.mv (.t 4)), none⟩, ⟨0, (some 73), (.bin .add (.t 72) (.c (.int .i64 1))), none⟩, ⟨0, (some 74), (.bin .rem (.t 71) (.t 73)), none⟩, ⟨0, (some 75), (.bin
  .sub (.t 74) (.c (.int .i64 1))), none⟩, ⟨0, (some 76), (.fld 1 (.t 10)), none⟩, ⟨0, none, (.store 1 (.t 76) (.t 75) []), none⟩]) .skip)) (.seq (.reg []
  false [⟨0, (some 11), (.alloc [(.int .i64 0), (.int .i64 0), (.int .i64 0), (.int .i64 0)]), none⟩]) (.seq (.seq (.reg [] false [⟨0, (some 77), (.mv (.c
  (.int .i64 0))), none⟩]) (.block 2 x29l0)) (.seq (.seq (.reg [] false [⟨0, (some 117), (.fld 2 (.t 10)), none⟩, ⟨0, (some 118), (.load false 1 (.t 117)),
  none⟩]) (.cond (.t 118) (.reg [] false [⟨0, (some 119), (.load true 4 (.t 11)), none⟩, ⟨0, (some 120), (.fld 3 (.t 10)), none⟩, ⟨0, none, (.store 4 (.t 120)
  (.t 119) []), none⟩]) .skip)) (.reg [(10, true), (11, true)] true [⟨0, (some 121), (.fld 1 (.t 5)), none⟩, ⟨1, (some 122), (.load false 1 (.t 121)), none⟩,
  ⟨2, (some 123), (.load true 7 (.t 10)), none⟩, ⟨3, (some 124), (.bslice 7 1 [(.int .i64 0), (.int .i64 0), (.bool false), (.int .i64 0), (.int .i64 0),
  (.int .i64 0), (.int .i64 0)] [(0, (7, (.t 123)))]), none⟩, ⟨4, (some 125), (.app 7 56 (.t 122) (.t 124)), none⟩, ⟨5, (some 126), (.mv (.t 6)), none⟩, ⟨6,
  (some 127), (.load true 4 (.t 11)), none⟩, ⟨7, (some 128), (.bslice 4 1 [(.int .i64 0), (.int .i64 0), (.int .i64 0), (.int .i64 0)] [(0, (4, (.t 127)))]),
  none⟩, ⟨8, (some 129), (.app 4 32 (.t 126) (.t 128)), none⟩, ⟨9, (some 130), (.fld 1 (.t 5)), none⟩, ⟨10, none, (.store 1 (.t 130) (.t 125) []), none⟩, ⟨11,
  (some 6), (.mv (.t 129)), none⟩]))))))) (.reg [] false [⟨0, (some 33), (.mv (.t 9)), none⟩, ⟨0, (some 34), (.bin .add (.t 33) (.c (.int .i64 1))), none⟩,
  ⟨0, (some 9), (.mv (.t 34)), none⟩]))))
def x29l2 : XCode :=
  (.loop [1, 2, 4, 5, 6, 7, 13, 14, 145] (.seq (.reg [] false [⟨0, (some 146), (.bin .lss (.t 145) (.c (.int .i64 4))), none⟩]) (.seq (.cond (.t 146) .skip
  (.exit 6)) (.seq (.block 7 (.seq (.reg [] false [⟨0, (some 147), (.mv (.t 145)), none⟩, ⟨0, (some 15), (.mv (.t 147)), none⟩]) (.reg [] false [⟨0, (some
  148), (.fld 2 (.t 14)), none⟩, ⟨0, (some 149), (.load false 1 (.t 148)), none⟩, ⟨0, (some 150), (.mv (.t 149)), none⟩, ⟨0, (some 151), (.mv (.t 13)), (some
  (150, true))⟩, ⟨0, (some 152), (.mv (.t 15)), (some (150, true))⟩, ⟨0, (some 153), (.idxa 4 4 (.t 7) (.t 151)), (some (150, true))⟩, ⟨0, (some 154), (.idxa
  4 1 (.t 153) (.t 152)), (some (150, true))⟩, ⟨0, (some 155), (.load false 1 (.t 154)), (some (150, true))⟩, ⟨0, (some 156), (.bin .geq (.t 155) (.c (.int
  .i64 0))), (some (150, true))⟩, ⟨0, (some 157), (.pick (.t 150) (.t 156) (.c (.bool false))), none⟩, ⟨0, (some 158), (.fld 2 (.t 14)), none⟩, ⟨0, none,
  (.store 1 (.t 158) (.t 157) []), none⟩]))) (.reg [] false [⟨0, (some 159), (.bin .add (.t 145) (.c (.int .i64 1))), none⟩, ⟨0, (some 145), (.mv (.t 159)),
  none⟩])))))
def x29l3 : XCode :=
  (.loop [1, 2, 4, 5, 6, 7, 13] (.seq (.seq (.reg [] false [⟨0, (some 131), (.mv (.t 13)), none⟩, ⟨0, (some 132), (.mv (.t 4)), none⟩, ⟨0, (some 133), (.bin
  .lss (.t 131) (.t 132)), none⟩]) (.cond (.t 133) .skip (.exit 4))) (.seq (.block 5 (.seq (.reg [] false [⟨0, (some 136), (.mv (.t 13)), none⟩, ⟨0, (some
  137), (.fld 3 (.t 1)), none⟩, ⟨0, (some 138), (.load false 1 (.t 137)), none⟩, ⟨0, (some 139), (.mv (.t 13)), none⟩, ⟨0, (some 140), (.bin .add (.c (.int
  .i64 6)) (.t 139)), none⟩, ⟨0, (some 141), (.bin .shr (.t 138) (.t 140)), none⟩, ⟨0, (some 142), (.bin .and (.t 141) (.c (.int .u16 1))), none⟩, ⟨0, (some
  143), (.bin .eql (.t 142) (.c (.int .u16 1))), none⟩, ⟨0, (some 144), (.build [(.int .i64 0), (.int .i64 0), (.bool false), (.int .i64 0), (.int .i64 0),
  (.int .i64 0), (.int .i64 0)] [(0, (1, (.t 136))), (1, (1, (.c (.int .i64 (-1))))), (2, (1, (.t 143)))]), none⟩, ⟨0, (some 14), (.alloc [(.int .i64 0),
  (.int .i64 0), (.bool false), (.int .i64 0), (.int .i64 0), (.int .i64 0), (.int .i64 0)]), none⟩, ⟨0, none, (.store 7 (.t 14) (.t 144) []), none⟩]) (.seq
  (.seq (.reg [] false [⟨0, (some 145), (.mv (.c (.int .i64 0))), none⟩]) (.block 6 x29l2)) (.seq (.seq (.reg [] false [⟨0, (some 160), (.fld 2 (.t 14)),
  none⟩, ⟨0, (some 161), (.load false 1 (.t 160)), none⟩]) (.cond (.t 161) (.reg [] false [⟨0, (some 162), (.mv (.t 13)), none⟩, ⟨0, (some 163), (.idxa 4 4
  (.t 7) (.t 162)), none⟩, ⟨0, (some 164), (.load true 4 (.t 163)), none⟩, ⟨0, (some 165), (.fld 3 (.t 14)), none⟩, ⟨0, none, (.store 4 (.t 165) (.t 164) []),
  none⟩]) .skip)) (.reg [(14, true)] true [⟨0, (some 166), (.fld 1 (.t 5)), none⟩, ⟨1, (some 167), (.load false 1 (.t 166)), none⟩, ⟨2, (some 168), (.load
  true 7 (.t 14)), none⟩, ⟨3, (some 169), (.bslice 7 1 [(.int .i64 0), (.int .i64 0), (.bool false), (.int .i64 0), (.int .i64 0), (.int .i64 0), (.int .i64
  0)] [(0, (7, (.t 168)))]), none⟩, ⟨4, (some 170), (.app 7 56 (.t 167) (.t 169)), none⟩, ⟨5, (some 171), (.mv (.t 6)), none⟩, ⟨6, (some 172), (.mv (.t 13)),
  none⟩, ⟨7, (some 173), (.idxa 4 4 (.t 7) (.t 172)), none⟩, ⟨8, (some 174), (.load true 4 (.t 173)), none⟩, ⟨9, (some 175), (.bslice 4 1 [(.int .i64 0),
  (.int .i64 0), (.int .i64 0), (.int .i64 0)] [(0, (4, (.t 174)))]), none⟩, ⟨10, (some 176), (.app 4 32 (.t 171) (.t 175)), none⟩, ⟨11, (some 177), (.fld 1
  (.t 5)), none⟩, ⟨12, none, (.store 1 (.t 177) (.t 170) []), none⟩, ⟨13, (some 6), (.mv (.t 176)), none⟩]))))) (.reg [] false [⟨0, (some 134), (.mv (.t 13)),
  none⟩, ⟨0, (some 135), (.bin .add (.t 134) (.c (.int .i64 1))), none⟩, ⟨0, (some 13), (.mv (.t 135)), none⟩]))))
/-- (zafra/zafralaw01.Mill).made -/
def x29 : XFn := ⟨180, [(2, (some (true, 2))), (3, none)], false, true,
  (.seq (.reg [] false [⟨0, (some 1), (.box (.t 0)), none⟩, ⟨0, (some 2), (.alloc [(.int .i64 0), .nilsl]), none⟩, ⟨0, (some 3), (.mv (.c .nilsl)), none⟩])
  (.seq (.reg [] false [⟨0, (some 16), (.fld 0 (.t 1)), none⟩, ⟨0, (some 17), (.load false 1 (.t 16)), none⟩, ⟨0, (some 18), (.conv .i64 (.t 17)), none⟩, ⟨0,
  (some 19), (.bin .rem (.t 18) (.c (.int .i64 4))), none⟩, ⟨0, (some 20), (.bin .add (.c (.int .i64 1)) (.t 19)), none⟩, ⟨0, (some 4), (.mv (.t 20)), none⟩])
  (.seq (.reg [] false [⟨0, (some 21), (.mv (.t 4)), none⟩, ⟨0, (some 22), (.build [(.int .i64 0), .nilsl] [(0, (1, (.t 21)))]), none⟩, ⟨0, (some 5), (.alloc
  [(.int .i64 0), .nilsl]), none⟩, ⟨0, none, (.store 2 (.t 5) (.t 22) []), none⟩]) (.seq (.reg [] false [⟨0, (some 6), (.mv (.c .nilsl)), none⟩]) (.seq (.reg
  [] false [⟨0, (some 7), (.alloc [(.int .i64 0), (.int .i64 0), (.int .i64 0), (.int .i64 0), (.int .i64 0), (.int .i64 0), (.int .i64 0), (.int .i64 0),
  (.int .i64 0), (.int .i64 0), (.int .i64 0), (.int .i64 0), (.int .i64 0), (.int .i64 0), (.int .i64 0), (.int .i64 0)]), none⟩]) (.seq (.reg [] false [⟨0,
  (some 23), (.mkf (.func 54) [] [(.t 1)]), none⟩, ⟨0, (some 8), (.mv (.t 23)), none⟩]) (.seq (.seq (.reg [] false [⟨0, (some 9), (.mv (.c (.int .i64 0))),
  none⟩]) (.block 0 x29l1)) (.seq (.seq (.reg [] false [⟨0, (some 13), (.mv (.c (.int .i64 0))), none⟩]) (.block 4 x29l3)) (.seq (.reg [] false [⟨0, (some
  178), (.load true 2 (.t 5)), none⟩, ⟨0, (some 179), (.mv (.t 6)), none⟩, ⟨0, none, (.store 2 (.t 2) (.t 178) []), none⟩, ⟨0, (some 3), (.mv (.t 179)),
  none⟩]) .ret)))))))))⟩
theorem is29 : FnIs prog 29 x29.fn := ⟨fun vs w => call29 vs w, _, _, func29, rfl, rfl, by kernel_rfl, by kernel_rfl⟩
theorem ok29 : okX x29.body = true := by kernel_rfl
theorem st29 : sitesP x29 x29.body := (sitesP_of rfl)

def x30l0 : XCode :=
  (.loop [2, 3, 4, 9, 10, 28, 29, 30] (.seq (.reg [] false [⟨0, (some 31), (.bin .lss (.t 30) (.t 29)), none⟩]) (.seq (.cond (.t 31) .skip (.exit 2)) (.seq
  (.block 3 (.seq (.reg [] false [⟨0, (some 32), (.mv (.t 30)), none⟩, ⟨0, (some 33), (.idx 7 (.t 28) (.t 30)), none⟩, ⟨0, (some 34), (.load true 7 (.t 33)),
  none⟩, ⟨0, (some 12), (.alloc [(.int .i64 0), (.int .i64 0), (.bool false), (.int .i64 0), (.int .i64 0), (.int .i64 0), (.int .i64 0)]), none⟩, ⟨0, (some
  11), (.mv (.t 32)), none⟩, ⟨0, none, (.store 7 (.t 12) (.t 34) []), none⟩]) (.seq (.reg [] false [⟨0, (some 35), (.fld 2 (.t 12)), none⟩, ⟨0, (some 36),
  (.load false 1 (.t 35)), none⟩, ⟨0, (some 37), (.not (.t 36)), none⟩, ⟨0, (some 38), (.mv (.t 37)), none⟩, ⟨0, (some 39), (.mv (.t 11)), (some (38, true))⟩,
  ⟨0, (some 40), (.mv (.t 3)), (some (38, true))⟩, ⟨0, (some 41), (.bin .neq (.t 39) (.t 40)), (some (38, true))⟩, ⟨0, (some 42), (.pick (.t 38) (.t 41) (.c
  (.bool false))), none⟩, ⟨0, (some 43), (.mv (.t 42)), none⟩, ⟨0, (some 44), (.mv (.t 9)), (some (43, true))⟩, ⟨0, (some 45), (.fld 0 (.t 12)), (some (43,
  true))⟩, ⟨0, (some 46), (.load false 1 (.t 45)), (some (43, true))⟩, ⟨0, (some 47), (.bin .add (.t 46) (.c (.int .i64 1))), (some (43, true))⟩, ⟨0, (some
  48), (.idx 1 (.t 44) (.t 47)), (some (43, true))⟩, ⟨0, (some 49), (.load false 1 (.t 48)), (some (43, true))⟩, ⟨0, (some 50), (.mv (.t 49)), (some (43,
  true))⟩, ⟨0, (some 51), (.mv (.t 9)), (some (50, false))⟩, ⟨0, (some 52), (.fld 1 (.t 12)), (some (50, false))⟩, ⟨0, (some 53), (.load false 1 (.t 52)),
  (some (50, false))⟩, ⟨0, (some 54), (.bin .add (.t 53) (.c (.int .i64 1))), (some (50, false))⟩, ⟨0, (some 55), (.idx 1 (.t 51) (.t 54)), (some (50,
  false))⟩, ⟨0, (some 56), (.load false 1 (.t 55)), (some (50, false))⟩, ⟨0, (some 57), (.pick (.t 50) (.c (.bool true)) (.t 56)), (some (43, true))⟩, ⟨0,
  (some 58), (.pick (.t 43) (.t 57) (.c (.bool false))), none⟩]) (.cond (.t 58) (.reg [] true [⟨0, (some 59), (.mv (.t 9)), none⟩, ⟨1, (some 60), (.fld 0 (.t
  12)), none⟩, ⟨2, (some 61), (.load false 1 (.t 60)), none⟩, ⟨3, (some 62), (.bin .add (.t 61) (.c (.int .i64 1))), none⟩, ⟨4, (some 63), (.mv (.t 9)),
  none⟩, ⟨5, (some 64), (.fld 1 (.t 12)), none⟩, ⟨6, (some 65), (.load false 1 (.t 64)), none⟩, ⟨7, (some 66), (.bin .add (.t 65) (.c (.int .i64 1))), none⟩,
  ⟨8, (some 67), (.idx 1 (.t 59) (.t 62)), none⟩, ⟨9, none, (.store 1 (.t 67) (.c (.bool true)) [6]), none⟩, ⟨10, (some 68), (.idx 1 (.t 63) (.t 66)), none⟩,
  ⟨11, none, (.store 1 (.t 68) (.c (.bool true)) []), none⟩]) .skip)))) (.reg [] false [⟨0, (some 69), (.bin .add (.t 30) (.c (.int .i64 1))), none⟩, ⟨0,
  (some 30), (.mv (.t 69)), none⟩])))))
def x30l1 : XCode :=
  (.loop [2, 3, 4, 9, 10] (.seq (.seq (.reg [] false [⟨0, (some 21), (.mv (.t 10)), none⟩, ⟨0, (some 22), (.fld 0 (.t 4)), none⟩, ⟨0, (some 23), (.load false 1
  (.t 22)), none⟩, ⟨0, (some 24), (.bin .leq (.t 21) (.t 23)), none⟩]) (.cond (.t 24) .skip (.exit 0))) (.seq (.block 1 (.seq (.reg [] false [⟨0, (some 27),
  (.fld 1 (.t 4)), none⟩, ⟨0, (some 28), (.load false 1 (.t 27)), none⟩, ⟨0, (some 29), (.len false (.t 28)), none⟩, ⟨0, (some 30), (.mv (.c (.int .i64 0))),
  none⟩]) (.block 2 x30l0))) (.reg [] false [⟨0, (some 25), (.mv (.t 10)), none⟩, ⟨0, (some 26), (.bin .add (.t 25) (.c (.int .i64 1))), none⟩, ⟨0, (some 10),
  (.mv (.t 26)), none⟩]))))
/-- zafra/zafralaw01.joined -/
def x30 : XFn := ⟨75, [(8, none)], false, false,
  (.seq (.reg [] false [⟨0, (some 4), (.box (.t 0)), none⟩, ⟨0, (some 8), (.mv (.c (.bool false))), none⟩]) (.seq (.reg [] false [⟨0, (some 13), (.fld 0 (.t
  4)), none⟩, ⟨0, (some 14), (.load false 1 (.t 13)), none⟩, ⟨0, (some 15), (.bin .add (.t 14) (.c (.int .i64 1))), none⟩, ⟨0, (some 16), (.mksl 1 1 [(.bool
  false)] (.t 15) (.t 15)), none⟩, ⟨0, (some 9), (.mv (.t 16)), none⟩]) (.seq (.reg [] false [⟨0, (some 17), (.mv (.t 9)), none⟩, ⟨0, (some 18), (.mv (.t 1)),
  none⟩, ⟨0, (some 19), (.bin .add (.t 18) (.c (.int .i64 1))), none⟩, ⟨0, (some 20), (.idx 1 (.t 17) (.t 19)), none⟩, ⟨0, none, (.store 1 (.t 20) (.c (.bool
  true)) []), none⟩]) (.seq (.seq (.reg [] false [⟨0, (some 10), (.mv (.c (.int .i64 0))), none⟩]) (.block 0 x30l1)) (.seq (.reg [] false [⟨0, (some 70), (.mv
  (.t 9)), none⟩, ⟨0, (some 71), (.mv (.t 2)), none⟩, ⟨0, (some 72), (.bin .add (.t 71) (.c (.int .i64 1))), none⟩, ⟨0, (some 73), (.idx 1 (.t 70) (.t 72)),
  none⟩, ⟨0, (some 74), (.load false 1 (.t 73)), none⟩, ⟨0, (some 8), (.mv (.t 74)), none⟩]) .ret)))))⟩
theorem is30 : FnIs prog 30 x30.fn := ⟨fun vs w => call30 vs w, _, _, func30, rfl, rfl, by kernel_rfl, by kernel_rfl⟩
theorem ok30 : okX x30.body = true := by kernel_rfl
theorem st30 : sitesP x30 x30.body := (sitesP_of rfl)

/-- zafra/zafralaw01.BulkOrder$1 -/
def x31 : XFn := ⟨15, [(4, none)], false, false,
  (.seq (.reg [] false [⟨0, (some 4), (.mv (.c (.int .i64 0))), none⟩]) (.seq (.seq (.reg [] false [⟨0, (some 5), (.mv (.t 0)), none⟩, ⟨0, (some 6), (.bin .lss
  (.t 5) (.c (.int .i64 0))), none⟩]) (.cond (.t 6) (.seq (.reg [] false [⟨0, (some 7), (.mv (.t 0)), none⟩, ⟨0, (some 4), (.mv (.t 7)), none⟩]) .ret) .skip))
  (.seq (.reg [] false [⟨0, (some 8), (.mv (.t 0)), none⟩, ⟨0, (some 9), (.load false 1 (.t 1)), none⟩, ⟨0, (some 10), (.conv .i64 (.t 9)), none⟩, ⟨0, (some
  11), (.bin .add (.t 8) (.t 10)), none⟩, ⟨0, (some 12), (.fld 0 (.t 2)), none⟩, ⟨0, (some 13), (.load false 1 (.t 12)), none⟩, ⟨0, (some 14), (.bin .rem (.t
  11) (.t 13)), none⟩, ⟨0, (some 4), (.mv (.t 14)), none⟩]) .ret)))⟩
theorem is31 : FnIs prog 31 x31.fn := ⟨fun vs w => call31 vs w, _, _, func31, rfl, rfl, by kernel_rfl, by kernel_rfl⟩
theorem ok31 : okX x31.body = true := by kernel_rfl
theorem st31 : sitesP x31 x31.body := (sitesP_of rfl)

/-- zafra/zafralaw01.M -/
def x32 : XFn := ⟨14, [(0, (some (true, 2)))], false, true,
  (.seq (.reg [] false [⟨0, (some 0), (.alloc [(.int .i64 0), .nilsl]), none⟩]) (.seq (.reg [] false [⟨0, (some 1), (.build [(.int .i64 0), (.int .i64 0), (.int
  .i64 0), (.int .i64 0)] [(0, (1, (.c (.int .i64 100)))), (1, (1, (.c (.int .i64 600)))), (2, (1, (.c (.int .i64 130)))), (3, (1, (.c (.int .i64 20))))]),
  none⟩, ⟨0, (some 2), (.build [(.int .i64 0), (.int .i64 0), (.bool false), (.int .i64 0), (.int .i64 0), (.int .i64 0), (.int .i64 0)] [(0, (1, (.c (.int
  .i64 (-1))))), (1, (1, (.c (.int .i64 0)))), (2, (1, (.c (.bool true)))), (3, (4, (.t 1)))]), none⟩, ⟨0, (some 3), (.build [(.int .i64 0), (.int .i64 0),
  (.bool false), (.int .i64 0), (.int .i64 0), (.int .i64 0), (.int .i64 0)] [(0, (1, (.c (.int .i64 0)))), (1, (1, (.c (.int .i64 1))))]), none⟩, ⟨0, (some
  4), (.build [(.int .i64 0), (.int .i64 0), (.int .i64 0), (.int .i64 0)] [(0, (1, (.c (.int .i64 5)))), (1, (1, (.c (.int .i64 150)))), (2, (1, (.c (.int
  .i64 125)))), (3, (1, (.c (.int .i64 8))))]), none⟩, ⟨0, (some 5), (.build [(.int .i64 0), (.int .i64 0), (.bool false), (.int .i64 0), (.int .i64 0), (.int
  .i64 0), (.int .i64 0)] [(0, (1, (.c (.int .i64 0)))), (1, (1, (.c (.int .i64 (-1))))), (2, (1, (.c (.bool true)))), (3, (4, (.t 4)))]), none⟩, ⟨0, (some
  6), (.build [(.int .i64 0), (.int .i64 0), (.int .i64 0), (.int .i64 0)] [(0, (1, (.c (.int .i64 90)))), (1, (1, (.c (.int .i64 40)))), (2, (1, (.c (.int
  .i64 0)))), (3, (1, (.c (.int .i64 6))))]), none⟩, ⟨0, (some 7), (.build [(.int .i64 0), (.int .i64 0), (.bool false), (.int .i64 0), (.int .i64 0), (.int
  .i64 0), (.int .i64 0)] [(0, (1, (.c (.int .i64 1)))), (1, (1, (.c (.int .i64 2)))), (2, (1, (.c (.bool true)))), (3, (4, (.t 6)))]), none⟩, ⟨0, (some 8),
  (.build [(.int .i64 0), (.int .i64 0), (.bool false), (.int .i64 0), (.int .i64 0), (.int .i64 0), (.int .i64 0)] [(0, (1, (.c (.int .i64 1)))), (1, (1, (.c
  (.int .i64 (-1)))))]), none⟩, ⟨0, (some 9), (.build [(.int .i64 0), (.int .i64 0), (.bool false), (.int .i64 0), (.int .i64 0), (.int .i64 0), (.int .i64
  0)] [(0, (1, (.c (.int .i64 2)))), (1, (1, (.c (.int .i64 (-1)))))]), none⟩, ⟨0, (some 10), (.build [(.int .i64 0), (.int .i64 0), (.int .i64 0), (.int .i64
  0)] [(0, (1, (.c (.int .i64 80)))), (1, (1, (.c (.int .i64 1)))), (2, (1, (.c (.int .i64 0)))), (3, (1, (.c (.int .i64 1))))]), none⟩, ⟨0, (some 11),
  (.build [(.int .i64 0), (.int .i64 0), (.bool false), (.int .i64 0), (.int .i64 0), (.int .i64 0), (.int .i64 0)] [(0, (1, (.c (.int .i64 2)))), (1, (1, (.c
  (.int .i64 (-1))))), (2, (1, (.c (.bool true)))), (3, (4, (.t 10)))]), none⟩, ⟨0, (some 12), (.bslice 7 7 [(.int .i64 0), (.int .i64 0), (.bool false),
  (.int .i64 0), (.int .i64 0), (.int .i64 0), (.int .i64 0)] [(0, (7, (.t 2))), (7, (7, (.t 3))), (14, (7, (.t 5))), (21, (7, (.t 7))), (28, (7, (.t 8))),
  (35, (7, (.t 9))), (42, (7, (.t 11)))]), none⟩, ⟨0, (some 13), (.build [(.int .i64 0), .nilsl] [(0, (1, (.c (.int .i64 3)))), (1, (1, (.t 12)))]), none⟩,
  ⟨0, none, (.store 2 (.t 0) (.t 13) []), none⟩]) .ret))⟩
theorem is32 : FnIs prog 32 x32.fn := ⟨fun vs w => call32 vs w, _, _, func32, rfl, rfl, by kernel_rfl, by kernel_rfl⟩
theorem ok32 : okX x32.body = true := by kernel_rfl
theorem st32 : sitesP x32 x32.body := (sitesP_of rfl)

def x33l0 : XCode :=
  (.loop [6, 7, 10, 11, 12, 76, 77] (.seq (.reg [] false [⟨0, (some 78), (.bin .lss (.t 77) (.t 76)), none⟩]) (.seq (.cond (.t 78) .skip (.exit 1)) (.seq
  (.block 2 (.seq (.reg [] false [⟨0, (some 79), (.mv (.t 77)), none⟩, ⟨0, (some 13), (.mv (.t 79)), none⟩]) (.seq (.reg [] false [⟨0, (some 80), (.fld 1 (.t
  11)), none⟩, ⟨0, (some 81), (.load false 1 (.t 80)), none⟩, ⟨0, (some 82), (.mv (.t 13)), none⟩, ⟨0, (some 83), (.idx 7 (.t 81) (.t 82)), none⟩, ⟨0, (some
  14), (.mv (.t 83)), none⟩]) (.seq (.reg [] false [⟨0, (some 84), (.mv (.t 14)), none⟩, ⟨0, (some 85), (.nilck (.t 84)), none⟩, ⟨0, (some 86), (.fld 2 (.t
  85)), none⟩, ⟨0, (some 87), (.load false 1 (.t 86)), none⟩]) (.cond (.t 87) (.reg [] true [⟨0, (some 88), (.load false 1 (.t 10)), none⟩, ⟨1, (some 89),
  (.mv (.t 13)), none⟩, ⟨2, (some 90), (.mv (.t 14)), none⟩, ⟨3, (some 91), (.nilck (.t 90)), none⟩, ⟨4, (some 92), (.fld 3 (.t 91)), none⟩, ⟨5, (some 93),
  (.load true 4 (.t 92)), none⟩, ⟨6, (some 94), (.idx 4 (.t 88) (.t 89)), none⟩, ⟨7, none, (.store 4 (.t 94) (.t 93) []), none⟩]) (.seq (.reg [(12, false),
  (14, true)] true [⟨0, (some 95), (.mv (.t 12)), none⟩, ⟨1, (some 96), (.mv (.t 14)), none⟩, ⟨2, (some 97), (.nilck (.t 96)), none⟩, ⟨3, (some 98), (.fld 0
  (.t 97)), none⟩, ⟨4, (some 99), (.load false 1 (.t 98)), none⟩, ⟨6, (some 101), (.mv (.t 12)), none⟩, ⟨7, (some 102), (.mv (.t 14)), none⟩, ⟨8, (some 103),
  (.nilck (.t 102)), none⟩, ⟨9, (some 104), (.fld 1 (.t 103)), none⟩, ⟨10, (some 105), (.load false 1 (.t 104)), none⟩, ⟨5, (some 100), (.callf false (.c (.fn
  (.func 57) [] [])) [(.t 95), (.t 99)] [10]), none⟩, ⟨11, (some 106), (.callf false (.c (.fn (.func 57) [] [])) [(.t 101), (.t 105)] []), none⟩, ⟨12, (some
  107), (.bin .eql (.t 100) (.t 106)), none⟩]) (.cond (.t 107) (.reg [] false [⟨0, (some 108), (.mv (.t 14)), none⟩, ⟨0, (some 109), (.mv (.t 14)), none⟩, ⟨0,
  (some 110), (.build [(.int .i64 0), (.int .i64 0), (.int .i64 0), (.int .i64 0)] []), none⟩, ⟨0, (some 111), (.nilck (.t 108)), none⟩, ⟨0, (some 112), (.fld
  2 (.t 111)), none⟩, ⟨0, none, (.store 1 (.t 112) (.c (.bool true)) []), none⟩, ⟨0, (some 113), (.nilck (.t 109)), none⟩, ⟨0, (some 114), (.fld 3 (.t 113)),
  none⟩, ⟨0, none, (.store 4 (.t 114) (.t 110) []), none⟩]) (.reg [(12, false), (14, true)] true [⟨0, (some 115), (.mv (.t 12)), none⟩, ⟨1, (some 116), (.mv
  (.t 14)), none⟩, ⟨2, (some 117), (.nilck (.t 116)), none⟩, ⟨3, (some 118), (.fld 0 (.t 117)), none⟩, ⟨4, (some 119), (.load false 1 (.t 118)), none⟩, ⟨5,
  (some 120), (.mv (.t 14)), none⟩, ⟨6, (some 121), (.nilck (.t 120)), none⟩, ⟨7, (some 122), (.fld 1 (.t 121)), none⟩, ⟨8, (some 123), (.load false 1 (.t
  122)), none⟩, ⟨9, (some 124), (.callf false (.c (.fn (.func 58) [] [])) [(.t 115), (.t 119), (.t 123)] []), none⟩])))))))) (.reg [] false [⟨0, (some 125),
  (.bin .add (.t 77) (.c (.int .i64 1))), none⟩, ⟨0, (some 77), (.mv (.t 125)), none⟩])))))
/-- zafra/bulk.Fill -/
def x33 : XFn := ⟨138, [(6, none), (7, none)], false, false,
  (.seq (.reg [] false [⟨0, (some 3), (.box (.t 0)), none⟩, ⟨0, (some 5), (.box (.t 2)), none⟩, ⟨0, (some 6), (.mv (.c .nilsl)), none⟩, ⟨0, (some 7), (.mv (.c
  (.int .i64 0))), none⟩]) (.seq (.reg [(3, true)] false [⟨0, (some 18), (.load true 2 (.t 3)), none⟩, ⟨0, (some 19), (.callf false (.c (.fn (.func 23) []
  [])) [(.t 18)] []), none⟩, ⟨0, (some 17), (.mv (.t 19)), none⟩, ⟨0, (some 20), (.ext (.t 17) 0), none⟩, ⟨0, (some 21), (.ext (.t 17) 1), none⟩, ⟨0, (some
  8), (.mv (.t 20)), none⟩, ⟨0, (some 9), (.mv (.t 21)), none⟩]) (.seq (.block 0 (.seq (.reg [] false [⟨0, (some 23), (.mv (.t 9)), none⟩, ⟨0, (some 24),
  (.bin .neq (.t 23) (.c (.int .i64 0))), none⟩, ⟨0, (some 22), (.mv (.t 24)), none⟩]) (.cond (.t 22) (.seq (.reg [] false [⟨0, (some 25), (.mv (.t 9)),
  none⟩, ⟨0, (some 6), (.mv (.c .nilsl)), none⟩, ⟨0, (some 7), (.mv (.t 25)), none⟩]) .ret) (.seq (.reg [] false [⟨0, (some 27), (.mv (.t 1)), none⟩, ⟨0,
  (some 28), (.mv (.t 8)), none⟩, ⟨0, (some 29), (.len false (.t 28)), none⟩, ⟨0, (some 30), (.bin .sub (.t 29) (.c (.int .i64 1))), none⟩, ⟨0, (some 31),
  (.callf false (.c (.fn (.func 42) [] [])) [(.c (.int .i64 0)), (.t 27), (.t 30)] []), none⟩, ⟨0, (some 32), (.not (.t 31)), none⟩, ⟨0, (some 26), (.mv (.t
  32)), none⟩]) (.cond (.t 26) (.seq (.reg [] false [⟨0, (some 6), (.mv (.c .nilsl)), none⟩, ⟨0, (some 7), (.mv (.c (.int .i64 5))), none⟩]) .ret) (.seq (.reg
  [(5, true)] true [⟨0, (some 34), (.load true 4 (.t 5)), none⟩, ⟨1, (some 35), (.callf false (.c (.fn (.func 55) [] [])) [(.t 34), (.c (.int .i64
  (-1000000000))), (.c (.int .i64 1000000000))] []), none⟩, ⟨2, (some 36), (.not (.t 35)), none⟩, ⟨3, (some 37), (.mv (.t 36)), none⟩, ⟨4, (some 38), (.mv (.t
  8)), (some (37, false))⟩, ⟨5, (some 39), (.mv (.t 1)), (some (37, false))⟩, ⟨6, (some 40), (.idx 5 (.t 38) (.t 39)), (some (37, false))⟩, ⟨7, (some 41),
  (.fld 0 (.t 40)), (some (37, false))⟩, ⟨8, (some 42), (.load false 1 (.t 41)), (some (37, false))⟩, ⟨9, (some 43), (.bin .neq (.t 42) (.c (.int .i64 3))),
  (some (37, false))⟩, ⟨10, (some 44), (.mv (.t 43)), (some (37, false))⟩, ⟨11, (some 45), (.mv (.t 8)), (some (44, true))⟩, ⟨12, (some 46), (.mv (.t 1)),
  (some (44, true))⟩, ⟨13, (some 47), (.idx 5 (.t 45) (.t 46)), (some (44, true))⟩, ⟨14, (some 48), (.fld 1 (.t 47)), (some (44, true))⟩, ⟨15, (some 49),
  (.load true 4 (.t 48)), (some (44, true))⟩, ⟨16, (some 50), (.load true 4 (.t 5)), (some (44, true))⟩, ⟨17, (some 51), (.eqag true [0, 0, 0, 0] (.t 49) (.t
  50)), (some (44, true))⟩, ⟨18, (some 52), (.pick (.t 44) (.t 51) (.c (.bool false))), (some (37, false))⟩, ⟨19, (some 53), (.pick (.t 37) (.c (.bool true))
  (.t 52)), none⟩, ⟨20, (some 33), (.mv (.t 53)), none⟩]) (.cond (.t 33) (.seq (.reg [] false [⟨0, (some 6), (.mv (.c .nilsl)), none⟩, ⟨0, (some 7), (.mv (.c
  (.int .i64 22))), none⟩]) .ret) .skip))))))) (.seq (.reg [] false [⟨0, (some 54), (.mv (.t 8)), none⟩, ⟨0, (some 55), (.len false (.t 54)), none⟩, ⟨0, (some
  56), (.mksl 4 32 [(.int .i64 0), (.int .i64 0), (.int .i64 0), (.int .i64 0)] (.t 55) (.t 55)), none⟩, ⟨0, (some 10), (.alloc [.nilsl]), none⟩, ⟨0, none,
  (.store 1 (.t 10) (.t 56) []), none⟩]) (.seq (.reg [] false [⟨0, (some 57), (.load true 2 (.t 3)), none⟩, ⟨0, (some 11), (.alloc [(.int .i64 0), .nilsl]),
  none⟩, ⟨0, none, (.store 2 (.t 11) (.t 57) []), none⟩]) (.seq (.reg [] false [⟨0, (some 58), (.fld 1 (.t 3)), none⟩, ⟨0, (some 59), (.load false 1 (.t 58)),
  none⟩, ⟨0, (some 60), (.callf false (.c (.fn (.func 56) [] [])) [(.t 59)] []), none⟩, ⟨0, (some 61), (.fld 1 (.t 11)), none⟩, ⟨0, none, (.store 1 (.t 61)
  (.t 60) []), none⟩]) (.seq (.reg [] true [⟨0, (some 62), (.fld 1 (.t 11)), none⟩, ⟨1, (some 63), (.load false 1 (.t 62)), none⟩, ⟨2, (some 64), (.mv (.t
  1)), none⟩, ⟨3, (some 65), (.fld 1 (.t 11)), none⟩, ⟨4, (some 66), (.load false 1 (.t 65)), none⟩, ⟨5, (some 67), (.mv (.t 1)), none⟩, ⟨6, (some 68), (.load
  true 4 (.t 5)), none⟩, ⟨7, (some 69), (.idx 7 (.t 63) (.t 64)), none⟩, ⟨8, (some 70), (.fld 2 (.t 69)), none⟩, ⟨9, none, (.store 1 (.t 70) (.c (.bool true))
  [4, 6]), none⟩, ⟨10, (some 71), (.idx 7 (.t 66) (.t 67)), none⟩, ⟨11, (some 72), (.fld 3 (.t 71)), none⟩, ⟨12, none, (.store 4 (.t 72) (.t 68) []), none⟩])
  (.seq (.reg [] false [⟨0, (some 73), .mkmap, none⟩, ⟨0, (some 12), (.mv (.t 73)), none⟩]) (.seq (.seq (.reg [] false [⟨0, (some 74), (.fld 1 (.t 11)),
  none⟩, ⟨0, (some 75), (.load false 1 (.t 74)), none⟩, ⟨0, (some 76), (.len false (.t 75)), none⟩, ⟨0, (some 77), (.mv (.c (.int .i64 0))), none⟩]) (.block 1
  x33l0)) (.seq (.reg [] false [⟨0, (some 15), (.alloc [.nilfn]), none⟩]) (.seq (.reg [(11, true)] false [⟨0, (some 126), (.mkf (.func 59) [] [(.t 11), (.t
  15), (.t 10)]), none⟩, ⟨0, none, (.store 1 (.t 15) (.t 126) []), none⟩]) (.seq (.reg [] false [⟨0, (some 127), (.load false 1 (.t 15)), none⟩, ⟨0, (some
  128), (.callf false (.t 127) [(.c (.int .i64 (-1))), (.c (.int .i64 (-1)))] []), none⟩]) (.seq (.seq (.reg [(11, true)] false [⟨0, (some 129), (.load true 2
  (.t 11)), none⟩, ⟨0, (some 130), (.callf false (.c (.fn (.func 36) [] [])) [(.t 129)] []), none⟩]) (.block 3 (.rng 0 [15] (.t 130) [131] (.reg [] false [⟨0,
  (some 16), (.mv (.t 131)), none⟩]) (.block 4 (.reg [] true [⟨0, (some 132), (.load false 1 (.t 15)), none⟩, ⟨1, (some 133), (.mv (.t 16)), none⟩, ⟨2, (some
  134), (.idx 1 (.t 133) (.c (.int .i64 0))), none⟩, ⟨3, (some 135), (.load false 1 (.t 134)), none⟩, ⟨4, (some 136), (.callf false (.t 132) [(.t 135), (.c
  (.int .i64 (-1)))] []), none⟩]))))) (.seq (.reg [] false [⟨0, (some 137), (.load false 1 (.t 10)), none⟩, ⟨0, (some 6), (.mv (.t 137)), none⟩, ⟨0, (some 7),
  (.mv (.c (.int .i64 0))), none⟩]) .ret))))))))))))))⟩
theorem is33 : FnIs prog 33 x33.fn := ⟨fun vs w => call33 vs w, _, _, func33, rfl, rfl, by kernel_rfl, by kernel_rfl⟩
theorem ok33 : okX x33.body = true := by kernel_rfl
theorem st33 : sitesP x33 x33.body := ⟨(sitesP_of rfl), ⟨(sitesP_of rfl), ⟨(sitesP_of rfl), ⟨(sitesP_of rfl), ⟨(sitesP_of rfl), ⟨(sitesP_of rfl), ⟨(sitesP_of rfl), ⟨(sitesP_of rfl), ⟨(sitesP_of rfl), ⟨(sitesP_of rfl), ⟨(sitesP_of rfl), ⟨(sitesP_of rfl), ⟨⟨(sitesP_of rfl), ⟨by kernel_rfl, (sitesP_of rfl), (sitesP_of rfl)⟩⟩, (sitesP_of rfl)⟩⟩⟩⟩⟩⟩⟩⟩⟩⟩⟩⟩⟩

end Go.Proofs.Ytdbikamciedfdaa
end
section
set_option maxRecDepth 100000
namespace Go.Proofs.Ytdbikamciedfdaa
open Go Go.DL Go.Proofs.Try

def x34l0 : XCode :=
  (.loop [2, 7, 32, 33, 34] (.seq (.reg [] false [⟨0, (some 35), (.bin .lss (.t 34) (.t 33)), none⟩]) (.seq (.cond (.t 35) .skip (.exit 1)) (.seq (.block 2
  (.seq (.reg [] false [⟨0, (some 36), (.mv (.t 34)), none⟩, ⟨0, (some 37), (.idx 4 (.t 32) (.t 34)), none⟩, ⟨0, (some 38), (.load true 4 (.t 37)), none⟩, ⟨0,
  (some 9), (.alloc [(.int .i64 0), (.int .i64 0), (.int .i64 0), (.int .i64 0)]), none⟩, ⟨0, (some 8), (.mv (.t 36)), none⟩, ⟨0, none, (.store 4 (.t 9) (.t
  38) []), none⟩]) (.seq (.seq (.reg [] true [⟨0, (some 39), (.fld 1 (.t 2)), none⟩, ⟨1, (some 40), (.load false 1 (.t 39)), none⟩, ⟨2, (some 41), (.mv (.t
  8)), none⟩, ⟨3, (some 42), (.idx 7 (.t 40) (.t 41)), none⟩, ⟨4, (some 43), (.fld 2 (.t 42)), none⟩, ⟨5, (some 44), (.load false 1 (.t 43)), none⟩, ⟨6, (some
  45), (.mv (.t 44)), none⟩, ⟨7, (some 46), (.fld 1 (.t 2)), (some (45, true))⟩, ⟨8, (some 47), (.load false 1 (.t 46)), (some (45, true))⟩, ⟨9, (some 48),
  (.mv (.t 8)), (some (45, true))⟩, ⟨10, (some 49), (.idx 7 (.t 47) (.t 48)), (some (45, true))⟩, ⟨11, (some 50), (.fld 3 (.t 49)), (some (45, true))⟩, ⟨12,
  (some 51), (.load true 4 (.t 50)), (some (45, true))⟩, ⟨13, (some 52), (.load true 4 (.t 9)), (some (45, true))⟩, ⟨14, (some 53), (.eqag true [0, 0, 0, 0]
  (.t 51) (.t 52)), (some (45, true))⟩, ⟨15, (some 54), (.pick (.t 45) (.t 53) (.c (.bool false))), none⟩]) (.cond (.t 54) (.seq (.reg [] false [⟨0, (some 4),
  (.mv (.c (.int .i64 0))), none⟩, ⟨0, (some 5), (.mv (.c (.int .i64 22))), none⟩]) .ret) .skip)) (.reg [] true [⟨0, (some 55), (.fld 1 (.t 7)), none⟩, ⟨1,
  (some 56), (.load false 1 (.t 55)), none⟩, ⟨2, (some 57), (.mv (.t 8)), none⟩, ⟨3, (some 58), (.fld 1 (.t 7)), none⟩, ⟨4, (some 59), (.load false 1 (.t
  58)), none⟩, ⟨5, (some 60), (.mv (.t 8)), none⟩, ⟨6, (some 61), (.load true 4 (.t 9)), none⟩, ⟨7, (some 62), (.idx 7 (.t 56) (.t 57)), none⟩, ⟨8, (some 63),
  (.fld 2 (.t 62)), none⟩, ⟨9, none, (.store 1 (.t 63) (.c (.bool true)) [4, 6]), none⟩, ⟨10, (some 64), (.idx 7 (.t 59) (.t 60)), none⟩, ⟨11, (some 65),
  (.fld 3 (.t 64)), none⟩, ⟨12, none, (.store 4 (.t 65) (.t 61) []), none⟩])))) (.reg [] false [⟨0, (some 66), (.bin .add (.t 34) (.c (.int .i64 1))), none⟩,
  ⟨0, (some 34), (.mv (.t 66)), none⟩])))))
def x34l1 : XCode :=
  (.loop [7, 68, 69] (.seq (.reg [] false [⟨0, (some 70), (.bin .lss (.t 69) (.t 68)), none⟩]) (.seq (.cond (.t 70) .skip (.exit 3)) (.seq (.block 4 (.seq (.reg
  [] false [⟨0, (some 71), (.mv (.t 69)), none⟩, ⟨0, (some 10), (.alloc [(.int .i64 0)]), none⟩, ⟨0, none, (.store 1 (.t 10) (.t 71) []), none⟩]) (.seq (.reg
  [(7, true)] false [⟨0, (some 72), (.load true 2 (.t 7)), none⟩, ⟨0, (some 73), (.mkf (.func 64) [] [(.t 10)]), none⟩, ⟨0, (some 74), (.callf false (.c (.fn
  (.func 39) [] [])) [(.t 72), (.c (.int .i64 (-1))), (.t 73)] []), none⟩, ⟨0, (some 75), (.build [(.int .i64 0), (.int .i64 0), (.int .i64 0), (.int .i64 0)]
  []), none⟩, ⟨0, (some 76), (.eqag true [0, 0, 0, 0] (.t 74) (.t 75)), none⟩]) (.cond (.t 76) (.seq (.reg [] false [⟨0, (some 77), (.load false 1 (.t 10)),
  none⟩, ⟨0, (some 4), (.mv (.t 77)), none⟩, ⟨0, (some 5), (.mv (.c (.int .i64 19))), none⟩]) .ret) .skip)))) (.reg [] false [⟨0, (some 78), (.bin .add (.t
  69) (.c (.int .i64 1))), none⟩, ⟨0, (some 69), (.mv (.t 78)), none⟩])))))
/-- zafra/bulk.Verify -/
def x34 : XFn := ⟨79, [(4, none), (5, none)], false, false,
  (.seq (.reg [] false [⟨0, (some 2), (.box (.t 0)), none⟩, ⟨0, (some 4), (.mv (.c (.int .i64 0))), none⟩, ⟨0, (some 5), (.mv (.c (.int .i64 0))), none⟩]) (.seq
  (.seq (.reg [(2, true)] false [⟨0, (some 11), (.load true 2 (.t 2)), none⟩, ⟨0, (some 12), (.callf false (.c (.fn (.func 20) [] [])) [(.t 11)] []), none⟩,
  ⟨0, (some 6), (.mv (.t 12)), none⟩]) (.seq (.reg [] false [⟨0, (some 13), (.mv (.t 6)), none⟩, ⟨0, (some 14), (.bin .neq (.t 13) (.c (.int .i64 0))),
  none⟩]) (.cond (.t 14) (.seq (.reg [] false [⟨0, (some 15), (.mv (.t 6)), none⟩, ⟨0, (some 4), (.mv (.c (.int .i64 0))), none⟩, ⟨0, (some 5), (.mv (.t 15)),
  none⟩]) .ret) .skip))) (.seq (.block 0 (.seq (.reg [] false [⟨0, (some 17), (.mv (.t 1)), none⟩, ⟨0, (some 18), (.len false (.t 17)), none⟩, ⟨0, (some 19),
  (.fld 1 (.t 2)), none⟩, ⟨0, (some 20), (.load false 1 (.t 19)), none⟩, ⟨0, (some 21), (.len false (.t 20)), none⟩, ⟨0, (some 22), (.bin .neq (.t 18) (.t
  21)), none⟩, ⟨0, (some 16), (.mv (.t 22)), none⟩]) (.cond (.t 16) (.seq (.reg [] false [⟨0, (some 4), (.mv (.c (.int .i64 0))), none⟩, ⟨0, (some 5), (.mv
  (.c (.int .i64 3))), none⟩]) .ret) (.seq (.reg [(1, false)] false [⟨0, (some 24), (.mv (.t 1)), none⟩, ⟨0, (some 25), (.callf false (.c (.fn (.func 62) []
  [])) [(.t 24), (.c (.fn (.func 63) [] []))] []), none⟩, ⟨0, (some 23), (.mv (.t 25)), none⟩]) (.cond (.t 23) (.seq (.reg [] false [⟨0, (some 4), (.mv (.c
  (.int .i64 0))), none⟩, ⟨0, (some 5), (.mv (.c (.int .i64 2))), none⟩]) .ret) .skip))))) (.seq (.reg [] true [⟨0, (some 26), (.fld 0 (.t 2)), none⟩, ⟨1,
  (some 27), (.load false 1 (.t 26)), none⟩, ⟨2, (some 28), (.fld 1 (.t 2)), none⟩, ⟨3, (some 29), (.load false 1 (.t 28)), none⟩, ⟨4, (some 30), (.callf
  false (.c (.fn (.func 56) [] [])) [(.t 29)] [1]), none⟩, ⟨5, (some 31), (.build [(.int .i64 0), .nilsl] [(0, (1, (.t 27))), (1, (1, (.t 30)))]), none⟩, ⟨6,
  (some 7), (.alloc [(.int .i64 0), .nilsl]), none⟩, ⟨7, none, (.store 2 (.t 7) (.t 31) []), none⟩]) (.seq (.seq (.reg [] false [⟨0, (some 32), (.mv (.t 1)),
  none⟩, ⟨0, (some 33), (.len false (.t 32)), none⟩, ⟨0, (some 34), (.mv (.c (.int .i64 0))), none⟩]) (.block 1 x34l0)) (.seq (.seq (.reg [] false [⟨0, (some
  67), (.fld 0 (.t 2)), none⟩, ⟨0, (some 68), (.load false 1 (.t 67)), none⟩, ⟨0, (some 69), (.mv (.c (.int .i64 0))), none⟩]) (.block 3 x34l1)) (.seq (.reg
  [] false [⟨0, (some 4), (.mv (.c (.int .i64 0))), none⟩, ⟨0, (some 5), (.mv (.c (.int .i64 0))), none⟩]) .ret)))))))⟩
theorem is34 : FnIs prog 34 x34.fn := ⟨fun vs w => call34 vs w, _, _, func34, rfl, rfl, by kernel_rfl, by kernel_rfl⟩
theorem ok34 : okX x34.body = true := by kernel_rfl
theorem st34 : sitesP x34 x34.body := (sitesP_of rfl)

def x35l0 : XCode :=
  (.loop [7, 8] (.seq (.seq (.reg [] false [⟨0, (some 34), (.mv (.t 8)), none⟩, ⟨0, (some 35), (.mv (.t 7)), none⟩, ⟨0, (some 36), (.len false (.t 35)), none⟩,
  ⟨0, (some 37), (.bin .lss (.t 34) (.t 36)), none⟩]) (.cond (.t 37) .skip (.exit 0))) (.block 1 (.reg [] true [⟨0, (some 38), (.mv (.t 8)), none⟩, ⟨1, (some
  39), (.mv (.t 7)), none⟩, ⟨2, (some 40), (.mv (.t 8)), none⟩, ⟨3, (some 41), (.slsl 1 (.t 39) (some (.t 40)) none), none⟩, ⟨4, (some 42), (.mv (.t 7)),
  none⟩, ⟨5, (some 43), (.mv (.t 8)), none⟩, ⟨6, (some 44), (.slsl 1 (.t 42) none (some (.t 43))), none⟩, ⟨7, (some 45), (.copy 1 (.t 41) (.t 44)), none⟩, ⟨8,
  (some 46), (.bin .add (.t 38) (.t 45)), none⟩, ⟨9, (some 8), (.mv (.t 46)), none⟩]))))
/-- slices.Repeat of  of int,int -/
def x35 : XFn := ⟨48, [(4, none)], true, true,
  (.seq (.reg [] false [⟨0, (some 4), (.mv (.c .nilsl)), none⟩]) (.seq (.seq (.reg [] false [⟨0, (some 9), (.mv (.t 1)), none⟩, ⟨0, (some 10), (.bin .lss (.t 9)
  (.c (.int .i64 0))), none⟩]) (.cond (.t 10) (.reg [] false [⟨0, (some 11), (.mkifc 9 (.c (.str ⟨#[99, 97, 110, 110, 111, 116, 32, 98, 101, 32, 110, 101,
  103, 97, 116, 105, 118, 101]⟩))), none⟩, ⟨0, none, .stuck, none⟩]) .skip)) (.seq (.reg [] false [⟨0, (some 13), (.mv (.t 0)), none⟩, ⟨0, (some 14), (.len
  false (.t 13)), none⟩, ⟨0, (some 15), (.conv .u64 (.t 14)), none⟩, ⟨0, (some 16), (.mv (.t 1)), none⟩, ⟨0, (some 17), (.conv .u64 (.t 16)), none⟩, ⟨0, (some
  18), (.callf false (.c (.fn (.func 65) [] [])) [(.t 15), (.t 17)] []), none⟩, ⟨0, (some 12), (.mv (.t 18)), none⟩, ⟨0, (some 19), (.ext (.t 12) 0), none⟩,
  ⟨0, (some 20), (.ext (.t 12) 1), none⟩, ⟨0, (some 5), (.mv (.t 19)), none⟩, ⟨0, (some 6), (.mv (.t 20)), none⟩]) (.seq (.seq (.reg [] false [⟨0, (some 21),
  (.mv (.t 5)), none⟩, ⟨0, (some 22), (.bin .gtr (.t 21) (.c (.int .u64 0))), none⟩, ⟨0, (some 23), (.mv (.t 22)), none⟩, ⟨0, (some 24), (.mv (.t 6)), (some
  (23, false))⟩, ⟨0, (some 25), (.bin .gtr (.t 24) (.c (.int .u64 9223372036854775807))), (some (23, false))⟩, ⟨0, (some 26), (.pick (.t 23) (.c (.bool true))
  (.t 25)), none⟩]) (.cond (.t 26) (.reg [] false [⟨0, (some 27), (.mkifc 9 (.c (.str ⟨#[116, 104, 101, 32, 114, 101, 115, 117, 108, 116, 32, 111, 102, 32,
  40, 108, 101, 110, 40, 120, 41, 32, 42, 32, 99, 111, 117, 110, 116, 41, 32, 111, 118, 101, 114, 102, 108, 111, 119, 115]⟩))), none⟩, ⟨0, none, .stuck,
  none⟩]) .skip)) (.seq (.reg [] false [⟨0, (some 28), (.mv (.t 6)), none⟩, ⟨0, (some 29), (.conv .i64 (.t 28)), none⟩, ⟨0, (some 30), (.mksl 1 8 [(.int .i64
  0)] (.t 29) (.t 29)), none⟩, ⟨0, (some 7), (.mv (.t 30)), none⟩]) (.seq (.reg [] false [⟨0, (some 31), (.mv (.t 7)), none⟩, ⟨0, (some 32), (.mv (.t 0)),
  none⟩, ⟨0, (some 33), (.copy 1 (.t 31) (.t 32)), none⟩, ⟨0, (some 8), (.mv (.t 33)), none⟩]) (.seq (.block 0 x35l0) (.seq (.reg [] false [⟨0, (some 47),
  (.mv (.t 7)), none⟩, ⟨0, (some 4), (.mv (.t 47)), none⟩]) .ret))))))))⟩
theorem is35 : FnIs prog 35 x35.fn := ⟨fun vs w => call35 vs w, _, _, func35, rfl, rfl, by kernel_rfl, by kernel_rfl⟩
theorem ok35 : okX x35.body = true := by kernel_rfl
theorem st35 : sitesP x35 x35.body := (sitesP_of rfl)

/-- (zafra/bulk.Plant).parts -/
def x36 : XFn := ⟨4, [(2, none)], false, false,
  (.seq (.reg [] false [⟨0, (some 1), (.box (.t 0)), none⟩, ⟨0, (some 2), (.mv (.c .nilfn)), none⟩]) (.seq (.reg [] false [⟨0, (some 3), (.mkf (.func 66) []
  [(.t 1)]), none⟩, ⟨0, (some 2), (.mv (.t 3)), none⟩]) .ret))⟩
theorem is36 : FnIs prog 36 x36.fn := ⟨fun vs w => call36 vs w, _, _, func36, rfl, rfl, by kernel_rfl, by kernel_rfl⟩
theorem ok36 : okX x36.body = true := by kernel_rfl
theorem st36 : sitesP x36 x36.body := (sitesP_of rfl)

def x37l0 : XCode :=
  (.loop [1, 2, 5, 6] (.seq (.seq (.reg [] false [⟨0, (some 11), (.mv (.t 6)), none⟩, ⟨0, (some 12), (.fld 0 (.t 2)), none⟩, ⟨0, (some 13), (.load false 1 (.t
  12)), none⟩, ⟨0, (some 14), (.bin .leq (.t 11) (.t 13)), none⟩]) (.cond (.t 14) .skip (.exit 0))) (.seq (.block 1 (.reg [] false [⟨0, (some 17), (.mv (.t
  5)), none⟩, ⟨0, (some 18), (.mv (.t 6)), none⟩, ⟨0, (some 19), (.bslice 1 1 [(.int .i64 0)] [(0, (1, (.t 18)))]), none⟩, ⟨0, (some 20), (.app 1 8 (.t 17)
  (.t 19)), none⟩, ⟨0, (some 5), (.mv (.t 20)), none⟩])) (.reg [] false [⟨0, (some 15), (.mv (.t 6)), none⟩, ⟨0, (some 16), (.bin .add (.t 15) (.c (.int .i64
  1))), none⟩, ⟨0, (some 6), (.mv (.t 16)), none⟩]))))
def x37l1 : XCode :=
  (.loop [1, 2, 5, 7, 8, 9, 10] (.seq (.seq (.reg [] false [⟨0, (some 59), (.mv (.t 10)), none⟩, ⟨0, (some 60), (.mv (.t 5)), none⟩, ⟨0, (some 61), (.len false
  (.t 60)), none⟩, ⟨0, (some 62), (.bin .lss (.t 59) (.t 61)), none⟩]) (.cond (.t 62) .skip (.exit 4))) (.seq (.block 5 (.seq (.reg [] false [⟨0, (some 65),
  (.mv (.t 5)), none⟩, ⟨0, (some 66), (.mv (.t 10)), none⟩, ⟨0, (some 67), (.idx 1 (.t 65) (.t 66)), none⟩, ⟨0, (some 68), (.load false 1 (.t 67)), none⟩, ⟨0,
  (some 69), (.mv (.t 8)), none⟩, ⟨0, (some 70), (.mv (.t 9)), none⟩, ⟨0, (some 71), (.mm true (.t 69) (.t 70)), none⟩, ⟨0, (some 72), (.bin .eql (.t 68) (.t
  71)), none⟩]) (.cond (.t 72) (.reg [] false [⟨0, (some 73), (.mv (.t 5)), none⟩, ⟨0, (some 74), (.mv (.t 10)), none⟩, ⟨0, (some 75), (.mv (.t 8)), none⟩,
  ⟨0, (some 76), (.mv (.t 9)), none⟩, ⟨0, (some 77), (.mm false (.t 75) (.t 76)), none⟩, ⟨0, (some 78), (.idx 1 (.t 73) (.t 74)), none⟩, ⟨0, none, (.store 1
  (.t 78) (.t 77) []), none⟩]) .skip))) (.reg [] false [⟨0, (some 63), (.mv (.t 10)), none⟩, ⟨0, (some 64), (.bin .add (.t 63) (.c (.int .i64 1))), none⟩, ⟨0,
  (some 10), (.mv (.t 64)), none⟩]))))
def x37l2 : XCode :=
  (.loop [1, 2, 5, 7] (.seq (.seq (.reg [] false [⟨0, (some 21), (.mv (.t 7)), none⟩, ⟨0, (some 22), (.fld 1 (.t 2)), none⟩, ⟨0, (some 23), (.load false 1 (.t
  22)), none⟩, ⟨0, (some 24), (.len false (.t 23)), none⟩, ⟨0, (some 25), (.bin .lss (.t 21) (.t 24)), none⟩]) (.cond (.t 25) .skip (.exit 2))) (.seq (.block
  3 (.seq (.seq (.reg [] false [⟨0, (some 28), (.fld 1 (.t 2)), none⟩, ⟨0, (some 29), (.load false 1 (.t 28)), none⟩, ⟨0, (some 30), (.mv (.t 7)), none⟩, ⟨0,
  (some 31), (.idx 7 (.t 29) (.t 30)), none⟩, ⟨0, (some 32), (.fld 2 (.t 31)), none⟩, ⟨0, (some 33), (.load false 1 (.t 32)), none⟩, ⟨0, (some 34), (.mv (.t
  33)), none⟩, ⟨0, (some 35), (.mv (.t 7)), (some (34, false))⟩, ⟨0, (some 36), (.mv (.t 1)), (some (34, false))⟩, ⟨0, (some 37), (.bin .eql (.t 35) (.t 36)),
  (some (34, false))⟩, ⟨0, (some 38), (.pick (.t 34) (.c (.bool true)) (.t 37)), none⟩]) (.cond (.t 38) (.exit 3) .skip)) (.seq (.reg [] true [⟨0, (some 39),
  (.mv (.t 5)), none⟩, ⟨1, (some 40), (.fld 1 (.t 2)), none⟩, ⟨2, (some 41), (.load false 1 (.t 40)), none⟩, ⟨3, (some 42), (.mv (.t 7)), none⟩, ⟨4, (some
  43), (.idx 7 (.t 41) (.t 42)), none⟩, ⟨5, (some 44), (.fld 0 (.t 43)), none⟩, ⟨6, (some 45), (.load false 1 (.t 44)), none⟩, ⟨7, (some 46), (.bin .add (.t
  45) (.c (.int .i64 1))), none⟩, ⟨8, (some 47), (.idx 1 (.t 39) (.t 46)), none⟩, ⟨9, (some 48), (.load false 1 (.t 47)), none⟩, ⟨10, (some 49), (.mv (.t 5)),
  none⟩, ⟨11, (some 50), (.fld 1 (.t 2)), none⟩, ⟨12, (some 51), (.load false 1 (.t 50)), none⟩, ⟨13, (some 52), (.mv (.t 7)), none⟩, ⟨14, (some 53), (.idx 7
  (.t 51) (.t 52)), none⟩, ⟨15, (some 54), (.fld 1 (.t 53)), none⟩, ⟨16, (some 55), (.load false 1 (.t 54)), none⟩, ⟨17, (some 56), (.bin .add (.t 55) (.c
  (.int .i64 1))), none⟩, ⟨18, (some 57), (.idx 1 (.t 49) (.t 56)), none⟩, ⟨19, (some 58), (.load false 1 (.t 57)), none⟩, ⟨20, (some 8), (.mv (.t 48)),
  none⟩, ⟨21, (some 9), (.mv (.t 58)), none⟩]) (.seq (.reg [] false [⟨0, (some 10), (.mv (.c (.int .i64 0))), none⟩]) (.block 4 x37l1))))) (.reg [] false [⟨0,
  (some 26), (.mv (.t 7)), none⟩, ⟨0, (some 27), (.bin .add (.t 26) (.c (.int .i64 1))), none⟩, ⟨0, (some 7), (.mv (.t 27)), none⟩]))))
/-- zafra/zafraref01.joined -/
def x37 : XFn := ⟨80, [(4, none)], false, false,
  (.seq (.reg [] false [⟨0, (some 2), (.box (.t 0)), none⟩, ⟨0, (some 4), (.mv (.c .nilsl)), none⟩]) (.seq (.reg [] false [⟨0, (some 5), (.mv (.c .nilsl)),
  none⟩]) (.seq (.seq (.reg [] false [⟨0, (some 6), (.mv (.c (.int .i64 0))), none⟩]) (.block 0 x37l0)) (.seq (.seq (.reg [] false [⟨0, (some 7), (.mv (.c
  (.int .i64 0))), none⟩]) (.block 2 x37l2)) (.seq (.reg [] false [⟨0, (some 79), (.mv (.t 5)), none⟩, ⟨0, (some 4), (.mv (.t 79)), none⟩]) .ret)))))⟩
theorem is37 : FnIs prog 37 x37.fn := ⟨fun vs w => call37 vs w, _, _, func37, rfl, rfl, by kernel_rfl, by kernel_rfl⟩
theorem ok37 : okX x37.body = true := by kernel_rfl
theorem st37 : sitesP x37 x37.body := (sitesP_of rfl)

def x38l0 : XCode :=
  (.loop [2, 3, 7, 18, 19, 20] (.seq (.reg [] false [⟨0, (some 21), (.bin .lss (.t 20) (.t 19)), none⟩]) (.seq (.cond (.t 21) .skip (.exit 0)) (.seq (.block 1
  (.seq (.reg [] false [⟨0, (some 22), (.idx 1 (.t 18) (.t 20)), none⟩, ⟨0, (some 23), (.load false 1 (.t 22)), none⟩, ⟨0, (some 9), (.mv (.t 23)), none⟩])
  (.seq (.block 2 (.seq (.reg [] false [⟨0, (some 25), (.mv (.t 9)), none⟩, ⟨0, (some 26), (.fld 0 (.t 2)), none⟩, ⟨0, (some 27), (.load false 1 (.t 26)),
  none⟩, ⟨0, (some 28), (.bin .sub (.t 27) (.c (.int .i64 1))), none⟩, ⟨0, (some 29), (.callf false (.c (.fn (.func 42) [] [])) [(.c (.int .i64 0)), (.t 25),
  (.t 28)] []), none⟩, ⟨0, (some 30), (.not (.t 29)), none⟩, ⟨0, (some 24), (.mv (.t 30)), none⟩]) (.cond (.t 24) (.seq (.reg [] false [⟨0, (some 4), (.mv (.c
  .nilfn)), none⟩, ⟨0, (some 5), (.mv (.c (.int .i64 17))), none⟩]) .ret) (.seq (.reg [] false [⟨0, (some 32), (.mv (.t 9)), none⟩, ⟨0, (some 33), (.mv (.t
  7)), none⟩, ⟨0, (some 34), (.bin .leq (.t 32) (.t 33)), none⟩, ⟨0, (some 31), (.mv (.t 34)), none⟩]) (.cond (.t 31) (.seq (.reg [] false [⟨0, (some 4), (.mv
  (.c .nilfn)), none⟩, ⟨0, (some 5), (.mv (.c (.int .i64 7))), none⟩]) .ret) .skip))))) (.reg [] false [⟨0, (some 35), (.mv (.t 9)), none⟩, ⟨0, (some 7), (.mv
  (.t 35)), none⟩])))) (.reg [] false [⟨0, (some 36), (.bin .add (.t 20) (.c (.int .i64 1))), none⟩, ⟨0, (some 20), (.mv (.t 36)), none⟩])))))
/-- (zafra/bulk.Plant).chosen -/
def x38 : XFn := ⟨38, [(4, none), (5, none)], false, false,
  (.seq (.reg [] false [⟨0, (some 2), (.box (.t 0)), none⟩, ⟨0, (some 3), (.box (.t 1)), none⟩, ⟨0, (some 4), (.mv (.c .nilfn)), none⟩, ⟨0, (some 5), (.mv (.c
  (.int .i64 0))), none⟩]) (.seq (.seq (.reg [(2, true)] false [⟨0, (some 10), (.load true 2 (.t 2)), none⟩, ⟨0, (some 11), (.callf false (.c (.fn (.func 20)
  [] [])) [(.t 10)] []), none⟩, ⟨0, (some 6), (.mv (.t 11)), none⟩]) (.seq (.reg [] false [⟨0, (some 12), (.mv (.t 6)), none⟩, ⟨0, (some 13), (.bin .neq (.t
  12) (.c (.int .i64 0))), none⟩]) (.cond (.t 13) (.seq (.reg [] false [⟨0, (some 14), (.mv (.t 6)), none⟩, ⟨0, (some 4), (.mv (.c .nilfn)), none⟩, ⟨0, (some
  5), (.mv (.t 14)), none⟩]) .ret) .skip))) (.seq (.seq (.reg [] false [⟨0, (some 15), (.load false 1 (.t 3)), none⟩, ⟨0, (some 16), (.len false (.t 15)),
  none⟩, ⟨0, (some 17), (.bin .eql (.t 16) (.c (.int .i64 0))), none⟩]) (.cond (.t 17) (.seq (.reg [] false [⟨0, (some 4), (.mv (.c .nilfn)), none⟩, ⟨0, (some
  5), (.mv (.c (.int .i64 4))), none⟩]) .ret) .skip)) (.seq (.reg [] false [⟨0, (some 7), (.mv (.c (.int .i64 (-1)))), none⟩]) (.seq (.seq (.reg [] false [⟨0,
  (some 18), (.load false 1 (.t 3)), none⟩, ⟨0, (some 19), (.len false (.t 18)), none⟩, ⟨0, (some 20), (.mv (.c (.int .i64 0))), none⟩]) (.block 0 x38l0))
  (.seq (.reg [] false [⟨0, (some 37), (.mkf (.func 68) [] [(.t 3)]), none⟩, ⟨0, (some 4), (.mv (.t 37)), none⟩, ⟨0, (some 5), (.mv (.c (.int .i64 0))),
  none⟩]) .ret))))))⟩
theorem is38 : FnIs prog 38 x38.fn := ⟨fun vs w => call38 vs w, _, _, func38, rfl, rfl, by kernel_rfl, by kernel_rfl⟩
theorem ok38 : okX x38.body = true := by kernel_rfl
theorem st38 : sitesP x38 x38.body := (sitesP_of rfl)

def x39l0 : XCode :=
  (.loop [1, 2, 6, 7, 13, 14, 15] (.seq (.reg [] false [⟨0, (some 16), (.bin .lss (.t 15) (.t 14)), none⟩]) (.seq (.cond (.t 16) .skip (.exit 0)) (.seq (.block
  1 (.seq (.reg [] false [⟨0, (some 17), (.mv (.t 15)), none⟩, ⟨0, (some 18), (.idx 7 (.t 13) (.t 15)), none⟩, ⟨0, (some 19), (.load true 7 (.t 18)), none⟩,
  ⟨0, (some 9), (.alloc [(.int .i64 0), (.int .i64 0), (.bool false), (.int .i64 0), (.int .i64 0), (.int .i64 0), (.int .i64 0)]), none⟩, ⟨0, (some 8), (.mv
  (.t 17)), none⟩, ⟨0, none, (.store 7 (.t 9) (.t 19) []), none⟩]) (.seq (.reg [(9, true)] true [⟨0, (some 20), (.mv (.t 2)), none⟩, ⟨1, (some 21), (.fld 1
  (.t 9)), none⟩, ⟨2, (some 22), (.load false 1 (.t 21)), none⟩, ⟨4, (some 24), (.mv (.t 2)), none⟩, ⟨5, (some 25), (.fld 0 (.t 9)), none⟩, ⟨6, (some 26),
  (.load false 1 (.t 25)), none⟩, ⟨3, (some 23), (.callf false (.t 20) [(.t 22)] [6]), none⟩, ⟨7, (some 27), (.callf false (.t 24) [(.t 26)] []), none⟩, ⟨8,
  (some 10), (.mv (.t 23)), none⟩, ⟨9, (some 11), (.mv (.t 27)), none⟩]) (.block 2 (.seq (.reg [] false [⟨0, (some 33), (.fld 2 (.t 9)), none⟩, ⟨0, (some 34),
  (.load false 1 (.t 33)), none⟩, ⟨0, (some 35), (.not (.t 34)), none⟩, ⟨0, (some 36), (.mv (.t 35)), none⟩, ⟨0, (some 37), (.mv (.t 8)), (some (36, false))⟩,
  ⟨0, (some 38), (.mv (.t 1)), (some (36, false))⟩, ⟨0, (some 39), (.bin .eql (.t 37) (.t 38)), (some (36, false))⟩, ⟨0, (some 40), (.pick (.t 36) (.c (.bool
  true)) (.t 39)), none⟩, ⟨0, (some 41), (.mv (.t 40)), none⟩, ⟨0, (some 42), (.mv (.t 10)), (some (41, false))⟩, ⟨0, (some 43), (.mv (.t 11)), (some (41,
  false))⟩, ⟨0, (some 44), (.binb false (.t 42) (.t 43)), (some (41, false))⟩, ⟨0, (some 45), (.pick (.t 41) (.c (.bool true)) (.t 44)), none⟩, ⟨0, (some 32),
  (.mv (.t 45)), none⟩]) (.cond (.t 32) .skip (.seq (.reg [] false [⟨0, (some 47), (.mv (.t 10)), none⟩, ⟨0, (some 46), (.mv (.t 47)), none⟩]) (.cond (.t 46)
  (.reg [(7, true), (9, true)] false [⟨0, (some 48), (.load true 4 (.t 7)), none⟩, ⟨0, (some 49), (.fld 3 (.t 9)), none⟩, ⟨0, (some 50), (.load true 4 (.t
  49)), none⟩, ⟨0, (some 51), (.callf false (.c (.fn (.func 61) [] [])) [(.t 48), (.c (.int .i64 1)), (.t 50)] []), none⟩, ⟨0, none, (.store 4 (.t 7) (.t 51)
  []), none⟩]) (.reg [(7, true), (9, true)] false [⟨0, (some 28), (.load true 4 (.t 7)), none⟩, ⟨0, (some 29), (.fld 3 (.t 9)), none⟩, ⟨0, (some 30), (.load
  true 4 (.t 29)), none⟩, ⟨0, (some 31), (.callf false (.c (.fn (.func 61) [] [])) [(.t 28), (.c (.int .i64 (-1))), (.t 30)] []), none⟩, ⟨0, none, (.store 4
  (.t 7) (.t 31) []), none⟩]))))))))) (.reg [] false [⟨0, (some 52), (.bin .add (.t 15) (.c (.int .i64 1))), none⟩, ⟨0, (some 15), (.mv (.t 52)), none⟩])))))
/-- (zafra/bulk.Plant).excess -/
def x39 : XFn := ⟨54, [(6, (some (true, 4)))], false, false,
  (.seq (.reg [] false [⟨0, (some 3), (.box (.t 0)), none⟩, ⟨0, (some 6), (.alloc [(.int .i64 0), (.int .i64 0), (.int .i64 0), (.int .i64 0)]), none⟩]) (.seq
  (.reg [] false [⟨0, (some 7), (.alloc [(.int .i64 0), (.int .i64 0), (.int .i64 0), (.int .i64 0)]), none⟩]) (.seq (.seq (.reg [] false [⟨0, (some 12),
  (.fld 1 (.t 3)), none⟩, ⟨0, (some 13), (.load false 1 (.t 12)), none⟩, ⟨0, (some 14), (.len false (.t 13)), none⟩, ⟨0, (some 15), (.mv (.c (.int .i64 0))),
  none⟩]) (.block 0 x39l0)) (.seq (.reg [] false [⟨0, (some 53), (.load true 4 (.t 7)), none⟩, ⟨0, none, (.store 4 (.t 6) (.t 53) []), none⟩]) .ret))))⟩
theorem is39 : FnIs prog 39 x39.fn := ⟨fun vs w => call39 vs w, _, _, func39, rfl, rfl, by kernel_rfl, by kernel_rfl⟩
theorem ok39 : okX x39.body = true := by kernel_rfl
theorem st39 : sitesP x39 x39.body := (sitesP_of rfl)

def x40l0 : XCode :=
  (.loop [1, 2, 7, 8] (.seq (.seq (.reg [] false [⟨0, (some 21), (.mv (.t 8)), none⟩, ⟨0, (some 22), (.mv (.t 1)), none⟩, ⟨0, (some 23), (.len false (.t 22)),
  none⟩, ⟨0, (some 24), (.bin .lss (.t 21) (.t 23)), none⟩]) (.cond (.t 24) .skip (.exit 0))) (.seq (.block 1 (.seq (.seq (.reg [] true [⟨0, (some 27), (.mv
  (.t 1)), none⟩, ⟨1, (some 28), (.mv (.t 8)), none⟩, ⟨2, (some 29), (.idx 1 (.t 27) (.t 28)), none⟩, ⟨3, (some 30), (.load false 1 (.t 29)), none⟩, ⟨4, (some
  31), (.fld 0 (.t 2)), none⟩, ⟨5, (some 32), (.load false 1 (.t 31)), none⟩, ⟨6, (some 33), (.bin .sub (.t 32) (.c (.int .i64 1))), none⟩, ⟨7, (some 34),
  (.callf false (.c (.fn (.func 45) [] [])) [(.t 30), (.c (.int .i64 0)), (.t 33)] []), none⟩, ⟨8, (some 35), (.not (.t 34)), none⟩]) (.cond (.t 35) (.seq
  (.reg [] false [⟨0, (some 4), (.mv (.c .nilsl)), none⟩, ⟨0, (some 5), (.mv (.c (.int .i64 17))), none⟩]) .ret) .skip)) (.seq (.seq (.reg [] true [⟨0, (some
  36), (.mv (.t 8)), none⟩, ⟨1, (some 37), (.bin .gtr (.t 36) (.c (.int .i64 0))), none⟩, ⟨2, (some 38), (.mv (.t 37)), none⟩, ⟨3, (some 39), (.mv (.t 1)),
  (some (38, true))⟩, ⟨4, (some 40), (.mv (.t 8)), (some (38, true))⟩, ⟨5, (some 41), (.idx 1 (.t 39) (.t 40)), (some (38, true))⟩, ⟨6, (some 42), (.load
  false 1 (.t 41)), (some (38, true))⟩, ⟨7, (some 43), (.mv (.t 1)), (some (38, true))⟩, ⟨8, (some 44), (.mv (.t 8)), (some (38, true))⟩, ⟨9, (some 45), (.bin
  .sub (.t 44) (.c (.int .i64 1))), (some (38, true))⟩, ⟨10, (some 46), (.idx 1 (.t 43) (.t 45)), (some (38, true))⟩, ⟨11, (some 47), (.load false 1 (.t 46)),
  (some (38, true))⟩, ⟨12, (some 48), (.bin .leq (.t 42) (.t 47)), (some (38, true))⟩, ⟨13, (some 49), (.pick (.t 38) (.t 48) (.c (.bool false))), none⟩])
  (.cond (.t 49) (.seq (.reg [] false [⟨0, (some 4), (.mv (.c .nilsl)), none⟩, ⟨0, (some 5), (.mv (.c (.int .i64 7))), none⟩]) .ret) .skip)) (.reg [] false
  [⟨0, (some 50), (.mv (.t 7)), none⟩, ⟨0, (some 51), (.mv (.t 1)), none⟩, ⟨0, (some 52), (.mv (.t 8)), none⟩, ⟨0, (some 53), (.idx 1 (.t 51) (.t 52)), none⟩,
  ⟨0, (some 54), (.load false 1 (.t 53)), none⟩, ⟨0, (some 55), (.bin .add (.t 54) (.c (.int .i64 1))), none⟩, ⟨0, (some 56), (.idx 1 (.t 50) (.t 55)), none⟩,
  ⟨0, none, (.store 1 (.t 56) (.c (.bool true)) []), none⟩])))) (.reg [] false [⟨0, (some 25), (.mv (.t 8)), none⟩, ⟨0, (some 26), (.bin .add (.t 25) (.c
  (.int .i64 1))), none⟩, ⟨0, (some 8), (.mv (.t 26)), none⟩]))))
/-- zafra/zafraref01.set -/
def x40 : XFn := ⟨58, [(4, none), (5, none)], false, false,
  (.seq (.reg [] false [⟨0, (some 2), (.box (.t 0)), none⟩, ⟨0, (some 4), (.mv (.c .nilsl)), none⟩, ⟨0, (some 5), (.mv (.c (.int .i64 0))), none⟩]) (.seq (.reg
  [(2, true)] false [⟨0, (some 9), (.load true 2 (.t 2)), none⟩, ⟨0, (some 10), (.callf false (.c (.fn (.func 21) [] [])) [(.t 9)] []), none⟩, ⟨0, (some 6),
  (.mv (.t 10)), none⟩]) (.seq (.seq (.reg [] false [⟨0, (some 11), (.mv (.t 6)), none⟩, ⟨0, (some 12), (.bin .neq (.t 11) (.c (.int .i64 0))), none⟩]) (.cond
  (.t 12) (.seq (.reg [] false [⟨0, (some 13), (.mv (.t 6)), none⟩, ⟨0, (some 4), (.mv (.c .nilsl)), none⟩, ⟨0, (some 5), (.mv (.t 13)), none⟩]) .ret) .skip))
  (.seq (.seq (.reg [] false [⟨0, (some 14), (.mv (.t 1)), none⟩, ⟨0, (some 15), (.len false (.t 14)), none⟩, ⟨0, (some 16), (.bin .eql (.t 15) (.c (.int .i64
  0))), none⟩]) (.cond (.t 16) (.seq (.reg [] false [⟨0, (some 4), (.mv (.c .nilsl)), none⟩, ⟨0, (some 5), (.mv (.c (.int .i64 4))), none⟩]) .ret) .skip))
  (.seq (.reg [] false [⟨0, (some 17), (.fld 0 (.t 2)), none⟩, ⟨0, (some 18), (.load false 1 (.t 17)), none⟩, ⟨0, (some 19), (.bin .add (.t 18) (.c (.int .i64
  1))), none⟩, ⟨0, (some 20), (.mksl 1 1 [(.bool false)] (.t 19) (.t 19)), none⟩, ⟨0, (some 7), (.mv (.t 20)), none⟩]) (.seq (.seq (.reg [] false [⟨0, (some
  8), (.mv (.c (.int .i64 0))), none⟩]) (.block 0 x40l0)) (.seq (.reg [] false [⟨0, (some 57), (.mv (.t 7)), none⟩, ⟨0, (some 4), (.mv (.t 57)), none⟩, ⟨0,
  (some 5), (.mv (.c (.int .i64 0))), none⟩]) .ret)))))))⟩
theorem is40 : FnIs prog 40 x40.fn := ⟨fun vs w => call40 vs w, _, _, func40, rfl, rfl, by kernel_rfl, by kernel_rfl⟩
theorem ok40 : okX x40.body = true := by kernel_rfl
theorem st40 : sitesP x40 x40.body := (sitesP_of rfl)

def x41l0 : XCode :=
  (.loop [1, 2, 4, 5, 6] (.seq (.seq (.reg [] false [⟨0, (some 8), (.mv (.t 6)), none⟩, ⟨0, (some 9), (.fld 1 (.t 2)), none⟩, ⟨0, (some 10), (.load false 1 (.t
  9)), none⟩, ⟨0, (some 11), (.len false (.t 10)), none⟩, ⟨0, (some 12), (.bin .lss (.t 8) (.t 11)), none⟩]) (.cond (.t 12) .skip (.exit 0))) (.seq (.block 1
  (.seq (.reg [] false [⟨0, (some 15), (.fld 1 (.t 2)), none⟩, ⟨0, (some 16), (.load false 1 (.t 15)), none⟩, ⟨0, (some 17), (.mv (.t 6)), none⟩, ⟨0, (some
  18), (.idx 7 (.t 16) (.t 17)), none⟩, ⟨0, (some 19), (.load true 7 (.t 18)), none⟩, ⟨0, (some 7), (.alloc [(.int .i64 0), (.int .i64 0), (.bool false),
  (.int .i64 0), (.int .i64 0), (.int .i64 0), (.int .i64 0)]), none⟩, ⟨0, none, (.store 7 (.t 7) (.t 19) []), none⟩]) (.seq (.seq (.reg [] false [⟨0, (some
  20), (.fld 2 (.t 7)), none⟩, ⟨0, (some 21), (.load false 1 (.t 20)), none⟩, ⟨0, (some 22), (.mv (.t 21)), none⟩, ⟨0, (some 23), (.mv (.t 1)), (some (22,
  true))⟩, ⟨0, (some 24), (.fld 1 (.t 7)), (some (22, true))⟩, ⟨0, (some 25), (.load false 1 (.t 24)), (some (22, true))⟩, ⟨0, (some 26), (.bin .add (.t 25)
  (.c (.int .i64 1))), (some (22, true))⟩, ⟨0, (some 27), (.idx 1 (.t 23) (.t 26)), (some (22, true))⟩, ⟨0, (some 28), (.load false 1 (.t 27)), (some (22,
  true))⟩, ⟨0, (some 29), (.pick (.t 22) (.t 28) (.c (.bool false))), none⟩, ⟨0, (some 30), (.mv (.t 29)), none⟩, ⟨0, (some 31), (.mv (.t 1)), (some (30,
  true))⟩, ⟨0, (some 32), (.fld 0 (.t 7)), (some (30, true))⟩, ⟨0, (some 33), (.load false 1 (.t 32)), (some (30, true))⟩, ⟨0, (some 34), (.bin .add (.t 33)
  (.c (.int .i64 1))), (some (30, true))⟩, ⟨0, (some 35), (.idx 1 (.t 31) (.t 34)), (some (30, true))⟩, ⟨0, (some 36), (.load false 1 (.t 35)), (some (30,
  true))⟩, ⟨0, (some 37), (.not (.t 36)), (some (30, true))⟩, ⟨0, (some 38), (.pick (.t 30) (.t 37) (.c (.bool false))), none⟩]) (.cond (.t 38) (.reg [(5,
  true), (7, true)] false [⟨0, (some 39), (.load true 4 (.t 5)), none⟩, ⟨0, (some 40), (.fld 3 (.t 7)), none⟩, ⟨0, (some 41), (.load true 4 (.t 40)), none⟩,
  ⟨0, (some 42), (.callf false (.c (.fn (.func 51) [] [])) [(.t 39), (.c (.int .i64 1)), (.t 41)] []), none⟩, ⟨0, none, (.store 4 (.t 5) (.t 42) []), none⟩])
  .skip)) (.seq (.reg [] false [⟨0, (some 43), (.fld 2 (.t 7)), none⟩, ⟨0, (some 44), (.load false 1 (.t 43)), none⟩, ⟨0, (some 45), (.mv (.t 44)), none⟩, ⟨0,
  (some 46), (.mv (.t 1)), (some (45, true))⟩, ⟨0, (some 47), (.fld 0 (.t 7)), (some (45, true))⟩, ⟨0, (some 48), (.load false 1 (.t 47)), (some (45, true))⟩,
  ⟨0, (some 49), (.bin .add (.t 48) (.c (.int .i64 1))), (some (45, true))⟩, ⟨0, (some 50), (.idx 1 (.t 46) (.t 49)), (some (45, true))⟩, ⟨0, (some 51),
  (.load false 1 (.t 50)), (some (45, true))⟩, ⟨0, (some 52), (.pick (.t 45) (.t 51) (.c (.bool false))), none⟩, ⟨0, (some 53), (.mv (.t 52)), none⟩, ⟨0,
  (some 54), (.mv (.t 1)), (some (53, true))⟩, ⟨0, (some 55), (.fld 1 (.t 7)), (some (53, true))⟩, ⟨0, (some 56), (.load false 1 (.t 55)), (some (53, true))⟩,
  ⟨0, (some 57), (.bin .add (.t 56) (.c (.int .i64 1))), (some (53, true))⟩, ⟨0, (some 58), (.idx 1 (.t 54) (.t 57)), (some (53, true))⟩, ⟨0, (some 59),
  (.load false 1 (.t 58)), (some (53, true))⟩, ⟨0, (some 60), (.not (.t 59)), (some (53, true))⟩, ⟨0, (some 61), (.pick (.t 53) (.t 60) (.c (.bool false))),
  none⟩]) (.cond (.t 61) (.reg [(5, true), (7, true)] false [⟨0, (some 62), (.load true 4 (.t 5)), none⟩, ⟨0, (some 63), (.fld 3 (.t 7)), none⟩, ⟨0, (some
  64), (.load true 4 (.t 63)), none⟩, ⟨0, (some 65), (.callf false (.c (.fn (.func 51) [] [])) [(.t 62), (.c (.int .i64 (-1))), (.t 64)] []), none⟩, ⟨0, none,
  (.store 4 (.t 5) (.t 65) []), none⟩]) .skip))))) (.reg [] false [⟨0, (some 13), (.mv (.t 6)), none⟩, ⟨0, (some 14), (.bin .add (.t 13) (.c (.int .i64 1))),
  none⟩, ⟨0, (some 6), (.mv (.t 14)), none⟩]))))
/-- zafra/zafraref01.excess -/
def x41 : XFn := ⟨67, [(4, (some (true, 4)))], false, false,
  (.seq (.reg [] false [⟨0, (some 2), (.box (.t 0)), none⟩, ⟨0, (some 4), (.alloc [(.int .i64 0), (.int .i64 0), (.int .i64 0), (.int .i64 0)]), none⟩]) (.seq
  (.reg [] false [⟨0, (some 5), (.alloc [(.int .i64 0), (.int .i64 0), (.int .i64 0), (.int .i64 0)]), none⟩]) (.seq (.seq (.reg [] false [⟨0, (some 6), (.mv
  (.c (.int .i64 0))), none⟩]) (.block 0 x41l0)) (.seq (.reg [] false [⟨0, (some 66), (.load true 4 (.t 5)), none⟩, ⟨0, none, (.store 4 (.t 4) (.t 66) []),
  none⟩]) .ret))))⟩
theorem is41 : FnIs prog 41 x41.fn := ⟨fun vs w => call41 vs w, _, _, func41, rfl, rfl, by kernel_rfl, by kernel_rfl⟩
theorem ok41 : okX x41.body = true := by kernel_rfl
theorem st41 : sitesP x41 x41.body := (sitesP_of rfl)

/-- zafra/bulk.between -/
def x42 : XFn := ⟨15, [(6, none)], false, false,
  (.seq (.reg [] false [⟨0, (some 6), (.mv (.c (.bool false))), none⟩]) (.seq (.reg [] false [⟨0, (some 7), (.mv (.t 0)), none⟩, ⟨0, (some 8), (.mv (.t 1)),
  none⟩, ⟨0, (some 9), (.bin .leq (.t 7) (.t 8)), none⟩, ⟨0, (some 10), (.mv (.t 9)), none⟩, ⟨0, (some 11), (.mv (.t 1)), (some (10, true))⟩, ⟨0, (some 12),
  (.mv (.t 2)), (some (10, true))⟩, ⟨0, (some 13), (.bin .leq (.t 11) (.t 12)), (some (10, true))⟩, ⟨0, (some 14), (.pick (.t 10) (.t 13) (.c (.bool false))),
  none⟩, ⟨0, (some 6), (.mv (.t 14)), none⟩]) .ret))⟩
theorem is42 : FnIs prog 42 x42.fn := ⟨fun vs w => call42 vs w, _, _, func42, rfl, rfl, by kernel_rfl, by kernel_rfl⟩
theorem ok42 : okX x42.body = true := by kernel_rfl
theorem st42 : sitesP x42 x42.body := (sitesP_of rfl)

def x43l0 : XCode :=
  (.loop [1, 8, 9, 10] (.seq (.reg [] false [⟨0, (some 11), (.bin .lss (.t 10) (.t 9)), none⟩]) (.seq (.cond (.t 11) .skip (.exit 0)) (.seq (.block 1 (.seq
  (.reg [] false [⟨0, (some 12), (.idx 7 (.t 8) (.t 10)), none⟩, ⟨0, (some 13), (.load true 7 (.t 12)), none⟩, ⟨0, (some 6), (.alloc [(.int .i64 0), (.int
  .i64 0), (.bool false), (.int .i64 0), (.int .i64 0), (.int .i64 0), (.int .i64 0)]), none⟩, ⟨0, none, (.store 7 (.t 6) (.t 13) []), none⟩]) (.seq (.reg
  [(6, true)] false [⟨0, (some 14), (.mv (.t 1)), none⟩, ⟨0, (some 15), (.load true 7 (.t 6)), none⟩, ⟨0, (some 16), (.callf false (.t 14) [(.t 15)] []),
  none⟩, ⟨0, (some 7), (.mv (.t 16)), none⟩]) (.seq (.reg [] false [⟨0, (some 17), (.mv (.t 7)), none⟩, ⟨0, (some 18), (.bin .neq (.t 17) (.c (.int .i64 0))),
  none⟩]) (.cond (.t 18) (.seq (.reg [] false [⟨0, (some 19), (.mv (.t 7)), none⟩, ⟨0, (some 4), (.mv (.t 19)), none⟩]) .ret) .skip))))) (.reg [] false [⟨0,
  (some 20), (.bin .add (.t 10) (.c (.int .i64 1))), none⟩, ⟨0, (some 10), (.mv (.t 20)), none⟩])))))
/-- zafra/bulk.first of zafra/bulk.Flow -/
def x43 : XFn := ⟨21, [(4, none)], false, false,
  (.seq (.reg [] false [⟨0, (some 4), (.mv (.c (.int .i64 0))), none⟩]) (.seq (.seq (.reg [] false [⟨0, (some 8), (.mv (.t 0)), none⟩, ⟨0, (some 9), (.len false
  (.t 8)), none⟩, ⟨0, (some 10), (.mv (.c (.int .i64 0))), none⟩]) (.block 0 x43l0)) (.seq (.reg [] false [⟨0, (some 4), (.mv (.c (.int .i64 0))), none⟩])
  .ret)))⟩
theorem is43 : FnIs prog 43 x43.fn := ⟨fun vs w => call43 vs w, _, _, func43, rfl, rfl, by kernel_rfl, by kernel_rfl⟩
theorem ok43 : okX x43.body = true := by kernel_rfl
theorem st43 : sitesP x43 x43.body := (sitesP_of rfl)

/-- (zafra/bulk.Plant).check -/
def x44 : XFn := ⟨37, [(4, none)], false, false,
  (.seq (.reg [] false [⟨0, (some 2), (.box (.t 0)), none⟩, ⟨0, (some 3), (.box (.t 1)), none⟩, ⟨0, (some 4), (.mv (.c (.int .i64 0))), none⟩]) (.seq (.block 0
  (.seq (.reg [(3, true)] false [⟨0, (some 6), (.fld 0 (.t 3)), none⟩, ⟨0, (some 7), (.load false 1 (.t 6)), none⟩, ⟨0, (some 8), (.fld 0 (.t 2)), none⟩, ⟨0,
  (some 9), (.load false 1 (.t 8)), none⟩, ⟨0, (some 10), (.bin .sub (.t 9) (.c (.int .i64 1))), none⟩, ⟨0, (some 11), (.callf false (.c (.fn (.func 42) []
  [])) [(.c (.int .i64 (-1))), (.t 7), (.t 10)] []), none⟩, ⟨0, (some 12), (.not (.t 11)), none⟩, ⟨0, (some 13), (.mv (.t 12)), none⟩, ⟨0, (some 14), (.fld 1
  (.t 3)), (some (13, false))⟩, ⟨0, (some 15), (.load false 1 (.t 14)), (some (13, false))⟩, ⟨0, (some 16), (.fld 0 (.t 2)), (some (13, false))⟩, ⟨0, (some
  17), (.load false 1 (.t 16)), (some (13, false))⟩, ⟨0, (some 18), (.bin .sub (.t 17) (.c (.int .i64 1))), (some (13, false))⟩, ⟨0, (some 19), (.callf false
  (.c (.fn (.func 42) [] [])) [(.c (.int .i64 (-1))), (.t 15), (.t 18)] []), (some (13, false))⟩, ⟨0, (some 20), (.not (.t 19)), (some (13, false))⟩, ⟨0,
  (some 21), (.pick (.t 13) (.c (.bool true)) (.t 20)), none⟩, ⟨0, (some 5), (.mv (.t 21)), none⟩]) (.cond (.t 5) (.seq (.reg [] false [⟨0, (some 4), (.mv (.c
  (.int .i64 17))), none⟩]) .ret) (.seq (.reg [] false [⟨0, (some 23), (.fld 0 (.t 3)), none⟩, ⟨0, (some 24), (.load false 1 (.t 23)), none⟩, ⟨0, (some 25),
  (.fld 1 (.t 3)), none⟩, ⟨0, (some 26), (.load false 1 (.t 25)), none⟩, ⟨0, (some 27), (.bin .eql (.t 24) (.t 26)), none⟩, ⟨0, (some 22), (.mv (.t 27)),
  none⟩]) (.cond (.t 22) (.seq (.reg [] false [⟨0, (some 4), (.mv (.c (.int .i64 22))), none⟩]) .ret) (.seq (.reg [(3, true)] false [⟨0, (some 29), (.fld 2
  (.t 3)), none⟩, ⟨0, (some 30), (.load false 1 (.t 29)), none⟩, ⟨0, (some 31), (.mv (.t 30)), none⟩, ⟨0, (some 32), (.fld 3 (.t 3)), (some (31, true))⟩, ⟨0,
  (some 33), (.load true 4 (.t 32)), (some (31, true))⟩, ⟨0, (some 34), (.callf false (.c (.fn (.func 55) [] [])) [(.t 33), (.c (.int .i64 0)), (.c (.int .i64
  1000000000))] []), (some (31, true))⟩, ⟨0, (some 35), (.not (.t 34)), (some (31, true))⟩, ⟨0, (some 36), (.pick (.t 31) (.t 35) (.c (.bool false))), none⟩,
  ⟨0, (some 28), (.mv (.t 36)), none⟩]) (.cond (.t 28) (.seq (.reg [] false [⟨0, (some 4), (.mv (.c (.int .i64 2))), none⟩]) .ret) .skip))))))) (.seq (.reg []
  false [⟨0, (some 4), (.mv (.c (.int .i64 0))), none⟩]) .ret)))⟩
theorem is44 : FnIs prog 44 x44.fn := ⟨fun vs w => call44 vs w, _, _, func44, rfl, rfl, by kernel_rfl, by kernel_rfl⟩
theorem ok44 : okX x44.body = true := by kernel_rfl
theorem st44 : sitesP x44 x44.body := (sitesP_of rfl)

/-- zafra/zafraref01.Is -/
def x45 : XFn := ⟨15, [(6, none)], false, false,
  (.seq (.reg [] false [⟨0, (some 6), (.mv (.c (.bool false))), none⟩]) (.seq (.reg [] false [⟨0, (some 7), (.mv (.t 0)), none⟩, ⟨0, (some 8), (.mv (.t 1)),
  none⟩, ⟨0, (some 9), (.bin .geq (.t 7) (.t 8)), none⟩, ⟨0, (some 10), (.mv (.t 9)), none⟩, ⟨0, (some 11), (.mv (.t 0)), (some (10, true))⟩, ⟨0, (some 12),
  (.mv (.t 2)), (some (10, true))⟩, ⟨0, (some 13), (.bin .leq (.t 11) (.t 12)), (some (10, true))⟩, ⟨0, (some 14), (.pick (.t 10) (.t 13) (.c (.bool false))),
  none⟩, ⟨0, (some 6), (.mv (.t 14)), none⟩]) .ret))⟩
theorem is45 : FnIs prog 45 x45.fn := ⟨fun vs w => call45 vs w, _, _, func45, rfl, rfl, by kernel_rfl, by kernel_rfl⟩
theorem ok45 : okX x45.body = true := by kernel_rfl
theorem st45 : sitesP x45 x45.body := (sitesP_of rfl)

def x46l0 : XCode :=
  (.loop [1, 2, 3, 7] (.seq (.seq (.reg [] false [⟨0, (some 8), (.mv (.t 7)), none⟩, ⟨0, (some 9), (.bin .lss (.t 8) (.c (.int .i64 4))), none⟩]) (.cond (.t 9)
  .skip (.exit 0))) (.seq (.block 1 (.seq (.reg [(1, false), (2, false)] false [⟨0, (some 12), (.mv (.t 7)), none⟩, ⟨0, (some 13), (.idxa 4 1 (.t 3) (.t 12)),
  none⟩, ⟨0, (some 14), (.load false 1 (.t 13)), none⟩, ⟨0, (some 15), (.mv (.t 1)), none⟩, ⟨0, (some 16), (.mv (.t 2)), none⟩, ⟨0, (some 17), (.callf false
  (.c (.fn (.func 45) [] [])) [(.t 14), (.t 15), (.t 16)] []), none⟩, ⟨0, (some 18), (.not (.t 17)), none⟩]) (.cond (.t 18) (.seq (.reg [] false [⟨0, (some
  6), (.mv (.c (.bool false))), none⟩]) .ret) .skip))) (.reg [] false [⟨0, (some 10), (.mv (.t 7)), none⟩, ⟨0, (some 11), (.bin .add (.t 10) (.c (.int .i64
  1))), none⟩, ⟨0, (some 7), (.mv (.t 11)), none⟩]))))
/-- zafra/zafraref01.each -/
def x46 : XFn := ⟨19, [(6, none)], false, false,
  (.seq (.reg [] false [⟨0, (some 3), (.box (.t 0)), none⟩, ⟨0, (some 6), (.mv (.c (.bool false))), none⟩]) (.seq (.seq (.reg [] false [⟨0, (some 7), (.mv (.c
  (.int .i64 0))), none⟩]) (.block 0 x46l0)) (.seq (.reg [] false [⟨0, (some 6), (.mv (.c (.bool true))), none⟩]) .ret)))⟩
theorem is46 : FnIs prog 46 x46.fn := ⟨fun vs w => call46 vs w, _, _, func46, rfl, rfl, by kernel_rfl, by kernel_rfl⟩
theorem ok46 : okX x46.body = true := by kernel_rfl
theorem st46 : sitesP x46 x46.body := (sitesP_of rfl)

def x47l0 : XCode :=
  (.loop [2, 3, 4, 5, 18, 19] (.seq (.reg [] false [⟨0, (some 20), (.bin .lss (.t 19) (.c (.int .i64 4))), none⟩]) (.seq (.cond (.t 20) .skip (.exit 2)) (.seq
  (.block 3 (.seq (.reg [] false [⟨0, (some 21), (.mv (.t 19)), none⟩, ⟨0, (some 22), (.idxv false 4 1 (.t 18) (.t 19)), none⟩, ⟨0, (some 7), (.mv (.t 21)),
  none⟩, ⟨0, (some 8), (.mv (.t 22)), none⟩]) (.seq (.reg [] false [⟨0, (some 23), (.mv (.t 8)), none⟩, ⟨0, (some 24), (.bin .neq (.t 23) (.c (.int .i64 0))),
  none⟩]) (.cond (.t 24) (.seq (.reg [] false [⟨0, (some 25), (.load false 1 (.t 5)), none⟩, ⟨0, (some 26), (.mv (.t 7)), none⟩, ⟨0, none, (.store 1 (.t 2)
  (.t 25) []), none⟩, ⟨0, none, (.store 1 (.t 3) (.t 26) []), none⟩, ⟨0, none, (.store 1 (.t 4) (.c (.bool true)) []), none⟩]) .ret) .skip)))) (.reg [] false
  [⟨0, (some 27), (.bin .add (.t 19) (.c (.int .i64 1))), none⟩, ⟨0, (some 19), (.mv (.t 27)), none⟩])))))
/-- (zafra/bulk.Plant).clash -/
def x47 : XFn := ⟨28, [(2, (some (false, 1))), (3, (some (false, 1))), (4, (some (false, 1)))], false, false,
  (.seq (.reg [] false [⟨0, (some 1), (.box (.t 0)), none⟩, ⟨0, (some 2), (.alloc [.nilsl]), none⟩, ⟨0, (some 3), (.alloc [(.int .i64 0)]), none⟩, ⟨0, (some 4),
  (.alloc [(.bool false)]), none⟩]) (.scope (.seq .skip (.seq (.seq (.reg [(1, true)] false [⟨0, (some 9), (.load true 2 (.t 1)), none⟩, ⟨0, (some 10),
  (.callf false (.c (.fn (.func 36) [] [])) [(.t 9)] []), none⟩]) (.block 0 (.rng 0 [1, 2, 3, 4] (.t 10) [11] (.reg [] false [⟨0, (some 5), (.alloc [.nilsl]),
  none⟩, ⟨0, none, (.store 1 (.t 5) (.t 11) []), none⟩]) (.block 1 (.seq (.reg [(1, true)] false [⟨0, (some 12), (.load true 2 (.t 1)), none⟩, ⟨0, (some 13),
  (.mkf (.func 70) [] [(.t 5)]), none⟩, ⟨0, (some 14), (.callf false (.c (.fn (.func 39) [] [])) [(.t 12), (.c (.int .i64 (-1))), (.t 13)] []), none⟩, ⟨0,
  (some 6), (.alloc [(.int .i64 0), (.int .i64 0), (.int .i64 0), (.int .i64 0)]), none⟩, ⟨0, none, (.store 4 (.t 6) (.t 14) []), none⟩]) (.seq (.seq (.reg []
  false [⟨0, (some 15), (.load true 4 (.t 6)), none⟩, ⟨0, (some 16), (.build [(.int .i64 0), (.int .i64 0), (.int .i64 0), (.int .i64 0)] []), none⟩, ⟨0,
  (some 17), (.eqag false [0, 0, 0, 0] (.t 15) (.t 16)), none⟩]) (.cond (.t 17) (.exit 1) .skip)) (.seq (.reg [] false [⟨0, (some 18), (.load true 4 (.t 6)),
  none⟩, ⟨0, (some 19), (.mv (.c (.int .i64 0))), none⟩]) (.block 2 x47l0)))))))) (.seq (.reg [] false [⟨0, none, (.store 1 (.t 2) (.c .nilsl) []), none⟩, ⟨0,
  none, (.store 1 (.t 3) (.c (.int .i64 0)) []), none⟩, ⟨0, none, (.store 1 (.t 4) (.c (.bool false)) []), none⟩]) .ret)))))⟩
theorem is47 : FnIs prog 47 x47.fn := ⟨fun vs w => call47 vs w, _, _, func47, rfl, rfl, by kernel_rfl, by kernel_rfl⟩
theorem ok47 : okX x47.body = true := by kernel_rfl
theorem st47 : sitesP x47 x47.body := ⟨(sitesP_of rfl), ⟨(sitesP_of rfl), ⟨⟨(sitesP_of rfl), ⟨by kernel_rfl, (sitesP_of rfl), (sitesP_of rfl)⟩⟩, (sitesP_of rfl)⟩⟩⟩

/-- (zafra/bulk.Plant).found -/
def x48 : XFn := ⟨44, [(4, (some (true, 4))), (5, none)], false, false,
  (.seq (.reg [] false [⟨0, (some 2), (.box (.t 0)), none⟩, ⟨0, (some 4), (.alloc [(.int .i64 0), (.int .i64 0), (.int .i64 0), (.int .i64 0)]), none⟩, ⟨0,
  (some 5), (.mv (.c (.bool false))), none⟩]) (.seq (.reg [(2, true)] true [⟨0, (some 10), (.fld 1 (.t 2)), none⟩, ⟨1, (some 11), (.load false 1 (.t 10)),
  none⟩, ⟨2, (some 12), (.mv (.t 1)), none⟩, ⟨3, (some 13), (.idx 7 (.t 11) (.t 12)), none⟩, ⟨4, (some 14), (.load true 7 (.t 13)), none⟩, ⟨5, (some 15),
  (.load true 2 (.t 2)), none⟩, ⟨6, (some 16), (.mv (.t 1)), none⟩, ⟨7, (some 17), (.callf false (.c (.fn (.func 67) [] [])) [(.t 15), (.t 16)] [1, 4]),
  none⟩, ⟨8, (some 6), (.alloc [(.int .i64 0), (.int .i64 0), (.bool false), (.int .i64 0), (.int .i64 0), (.int .i64 0), (.int .i64 0)]), none⟩, ⟨9, (some
  7), (.alloc [.nilmap]), none⟩, ⟨10, none, (.store 7 (.t 6) (.t 14) []), none⟩, ⟨11, none, (.store 1 (.t 7) (.t 17) []), none⟩]) (.seq (.reg [(7, true), (6,
  true)] true [⟨0, (some 18), (.load false 1 (.t 7)), none⟩, ⟨1, (some 19), (.fld 0 (.t 6)), none⟩, ⟨2, (some 20), (.load false 1 (.t 19)), none⟩, ⟨4, (some
  22), (.load false 1 (.t 7)), none⟩, ⟨5, (some 23), (.fld 1 (.t 6)), none⟩, ⟨6, (some 24), (.load false 1 (.t 23)), none⟩, ⟨3, (some 21), (.callf false (.c
  (.fn (.func 57) [] [])) [(.t 18), (.t 20)] [4, 6]), none⟩, ⟨7, (some 25), (.callf false (.c (.fn (.func 57) [] [])) [(.t 22), (.t 24)] []), none⟩, ⟨8, (some
  8), (.alloc [(.int .i64 0)]), none⟩, ⟨9, (some 9), (.alloc [(.int .i64 0)]), none⟩, ⟨10, none, (.store 1 (.t 8) (.t 21) []), none⟩, ⟨11, none, (.store 1 (.t
  9) (.t 25) []), none⟩]) (.seq (.block 0 (.seq (.reg [] false [⟨0, (some 27), (.load false 1 (.t 8)), none⟩, ⟨0, (some 28), (.load false 1 (.t 9)), none⟩,
  ⟨0, (some 29), (.bin .eql (.t 27) (.t 28)), none⟩, ⟨0, (some 26), (.mv (.t 29)), none⟩]) (.cond (.t 26) (.seq (.reg [] false [⟨0, (some 30), (.build [(.int
  .i64 0), (.int .i64 0), (.int .i64 0), (.int .i64 0)] []), none⟩, ⟨0, none, (.store 4 (.t 4) (.t 30) []), none⟩, ⟨0, (some 5), (.mv (.c (.bool false))),
  none⟩]) .ret) (.seq (.reg [] false [⟨0, (some 32), (.load false 1 (.t 8)), none⟩, ⟨0, (some 33), (.bin .neq (.t 32) (.c (.int .i64 (-1)))), none⟩, ⟨0, (some
  31), (.mv (.t 33)), none⟩]) (.cond (.t 31) (.seq (.reg [(2, true)] false [⟨0, (some 34), (.load true 2 (.t 2)), none⟩, ⟨0, (some 35), (.mv (.t 1)), none⟩,
  ⟨0, (some 36), (.mkf (.func 71) [] [(.t 7), (.t 8)]), none⟩, ⟨0, (some 37), (.callf false (.c (.fn (.func 39) [] [])) [(.t 34), (.t 35), (.t 36)] []),
  none⟩, ⟨0, none, (.store 4 (.t 4) (.t 37) []), none⟩, ⟨0, (some 5), (.mv (.c (.bool true))), none⟩]) .ret) .skip))))) (.seq (.reg [(2, true)] false [⟨0,
  (some 38), (.build [(.int .i64 0), (.int .i64 0), (.int .i64 0), (.int .i64 0)] []), none⟩, ⟨0, (some 39), (.load true 2 (.t 2)), none⟩, ⟨0, (some 40), (.mv
  (.t 1)), none⟩, ⟨0, (some 41), (.mkf (.func 72) [] [(.t 7), (.t 9)]), none⟩, ⟨0, (some 42), (.callf false (.c (.fn (.func 39) [] [])) [(.t 39), (.t 40), (.t
  41)] []), none⟩, ⟨0, (some 43), (.callf false (.c (.fn (.func 61) [] [])) [(.t 38), (.c (.int .i64 (-1))), (.t 42)] []), none⟩, ⟨0, none, (.store 4 (.t 4)
  (.t 43) []), none⟩, ⟨0, (some 5), (.mv (.c (.bool true))), none⟩]) .ret)))))⟩
theorem is48 : FnIs prog 48 x48.fn := ⟨fun vs w => call48 vs w, _, _, func48, rfl, rfl, by kernel_rfl, by kernel_rfl⟩
theorem ok48 : okX x48.body = true := by kernel_rfl
theorem st48 : sitesP x48 x48.body := (sitesP_of rfl)

def x49l0 : XCode :=
  (.loop [1, 6, 8, 9, 10] (.seq (.seq (.reg [] false [⟨0, (some 40), (.mv (.t 10)), none⟩, ⟨0, (some 41), (.fld 0 (.t 1)), none⟩, ⟨0, (some 42), (.load false 1
  (.t 41)), none⟩, ⟨0, (some 43), (.bin .lss (.t 40) (.t 42)), none⟩]) (.cond (.t 43) .skip (.exit 4))) (.seq (.block 5 (.seq (.reg [] false [⟨0, (some 46),
  (.mv (.t 6)), none⟩, ⟨0, (some 47), (.mv (.t 10)), none⟩, ⟨0, (some 48), (.bin .add (.t 47) (.c (.int .i64 1))), none⟩, ⟨0, (some 49), (.idx 1 (.t 46) (.t
  48)), none⟩, ⟨0, (some 50), (.load false 1 (.t 49)), none⟩]) (.cond (.t 50) (.reg [] false [⟨0, (some 51), (.mv (.t 9)), none⟩, ⟨0, (some 52), (.mv (.t
  10)), none⟩, ⟨0, (some 53), (.bslice 1 1 [(.int .i64 0)] [(0, (1, (.t 52)))]), none⟩, ⟨0, (some 54), (.app 1 8 (.t 51) (.t 53)), none⟩, ⟨0, (some 9), (.mv
  (.t 54)), none⟩]) .skip))) (.reg [] false [⟨0, (some 44), (.mv (.t 10)), none⟩, ⟨0, (some 45), (.bin .add (.t 44) (.c (.int .i64 1))), none⟩, ⟨0, (some 10),
  (.mv (.t 45)), none⟩]))))
def x49l1 : XCode :=
  (.loop [1, 4, 5, 6, 7, 8] (.seq (.seq (.reg [] false [⟨0, (some 25), (.mv (.t 8)), none⟩, ⟨0, (some 26), (.bin .lss (.t 25) (.c (.int .i64 4))), none⟩])
  (.cond (.t 26) .skip (.exit 2))) (.seq (.block 3 (.seq (.seq (.reg [] false [⟨0, (some 29), (.mv (.t 6)), none⟩, ⟨0, (some 30), (.mv (.t 5)), none⟩, ⟨0,
  (some 31), (.idx 1 (.t 29) (.t 30)), none⟩, ⟨0, (some 32), (.load false 1 (.t 31)), none⟩, ⟨0, (some 33), (.not (.t 32)), none⟩, ⟨0, (some 34), (.mv (.t
  33)), none⟩, ⟨0, (some 35), (.mv (.t 8)), (some (34, false))⟩, ⟨0, (some 36), (.idxa 4 1 (.t 7) (.t 35)), (some (34, false))⟩, ⟨0, (some 37), (.load false 1
  (.t 36)), (some (34, false))⟩, ⟨0, (some 38), (.bin .eql (.t 37) (.c (.int .i64 0))), (some (34, false))⟩, ⟨0, (some 39), (.pick (.t 34) (.c (.bool true))
  (.t 38)), none⟩]) (.cond (.t 39) (.exit 3) .skip)) (.seq (.reg [] false [⟨0, (some 9), (.mv (.c .nilsl)), none⟩]) (.seq (.seq (.reg [] false [⟨0, (some 10),
  (.mv (.c (.int .i64 0))), none⟩]) (.block 4 x49l0)) (.seq (.reg [] false [⟨0, (some 55), (.mv (.t 9)), none⟩, ⟨0, (some 56), (.mv (.t 8)), none⟩, ⟨0, (some
  2), (.mv (.t 55)), none⟩, ⟨0, (some 3), (.mv (.t 56)), none⟩]) .ret))))) (.reg [] false [⟨0, (some 27), (.mv (.t 8)), none⟩, ⟨0, (some 28), (.bin .add (.t
  27) (.c (.int .i64 1))), none⟩, ⟨0, (some 8), (.mv (.t 28)), none⟩]))))
def x49l2 : XCode :=
  (.loop [1, 4, 5] (.seq (.seq (.reg [] false [⟨0, (some 13), (.mv (.t 5)), none⟩, ⟨0, (some 14), (.fld 0 (.t 1)), none⟩, ⟨0, (some 15), (.load false 1 (.t
  14)), none⟩, ⟨0, (some 16), (.bin .leq (.t 13) (.t 15)), none⟩]) (.cond (.t 16) .skip (.exit 0))) (.seq (.block 1 (.seq (.reg [(4, false)] false [⟨0, (some
  19), (.mv (.t 4)), none⟩, ⟨0, (some 20), (.mv (.t 5)), none⟩, ⟨0, (some 21), (.callf false (.c (.fn (.func 50) [] [])) [(.t 19), (.t 20)] []), none⟩, ⟨0,
  (some 6), (.mv (.t 21)), none⟩]) (.seq (.reg [(1, true), (6, false)] false [⟨0, (some 22), (.load true 2 (.t 1)), none⟩, ⟨0, (some 23), (.mv (.t 6)), none⟩,
  ⟨0, (some 24), (.callf false (.c (.fn (.func 41) [] [])) [(.t 22), (.t 23)] []), none⟩, ⟨0, (some 7), (.alloc [(.int .i64 0), (.int .i64 0), (.int .i64 0),
  (.int .i64 0)]), none⟩, ⟨0, none, (.store 4 (.t 7) (.t 24) []), none⟩]) (.seq (.reg [] false [⟨0, (some 8), (.mv (.c (.int .i64 0))), none⟩]) (.block 2
  x49l1))))) (.reg [] false [⟨0, (some 17), (.mv (.t 5)), none⟩, ⟨0, (some 18), (.bin .add (.t 17) (.c (.int .i64 1))), none⟩, ⟨0, (some 5), (.mv (.t 18)),
  none⟩]))))
/-- zafra/zafraref01.clash -/
def x49 : XFn := ⟨57, [(2, none), (3, none)], false, false,
  (.seq (.reg [] false [⟨0, (some 1), (.box (.t 0)), none⟩, ⟨0, (some 2), (.mv (.c .nilsl)), none⟩, ⟨0, (some 3), (.mv (.c (.int .i64 0))), none⟩]) (.seq (.reg
  [(1, true)] false [⟨0, (some 11), (.load true 2 (.t 1)), none⟩, ⟨0, (some 12), (.callf false (.c (.fn (.func 37) [] [])) [(.t 11), (.c (.int .i64 (-1)))]
  []), none⟩, ⟨0, (some 4), (.mv (.t 12)), none⟩]) (.seq (.seq (.reg [] false [⟨0, (some 5), (.mv (.c (.int .i64 1))), none⟩]) (.block 0 x49l2)) (.seq (.reg
  [] false [⟨0, (some 2), (.mv (.c .nilsl)), none⟩, ⟨0, (some 3), (.mv (.c (.int .i64 0))), none⟩]) .ret))))⟩
theorem is49 : FnIs prog 49 x49.fn := ⟨fun vs w => call49 vs w, _, _, func49, rfl, rfl, by kernel_rfl, by kernel_rfl⟩
theorem ok49 : okX x49.body = true := by kernel_rfl
theorem st49 : sitesP x49 x49.body := (sitesP_of rfl)

def x50l0 : XCode :=
  (.loop [0, 1, 5, 6] (.seq (.seq (.reg [] false [⟨0, (some 7), (.mv (.t 6)), none⟩, ⟨0, (some 8), (.mv (.t 0)), none⟩, ⟨0, (some 9), (.len false (.t 8)),
  none⟩, ⟨0, (some 10), (.bin .lss (.t 7) (.t 9)), none⟩]) (.cond (.t 10) .skip (.exit 0))) (.seq (.block 1 (.reg [] false [⟨0, (some 13), (.mv (.t 5)),
  none⟩, ⟨0, (some 14), (.mv (.t 0)), none⟩, ⟨0, (some 15), (.mv (.t 6)), none⟩, ⟨0, (some 16), (.idx 1 (.t 14) (.t 15)), none⟩, ⟨0, (some 17), (.load false 1
  (.t 16)), none⟩, ⟨0, (some 18), (.mv (.t 1)), none⟩, ⟨0, (some 19), (.bin .eql (.t 17) (.t 18)), none⟩, ⟨0, (some 20), (.bslice 1 1 [(.bool false)] [(0, (1,
  (.t 19)))]), none⟩, ⟨0, (some 21), (.app 1 1 (.t 13) (.t 20)), none⟩, ⟨0, (some 5), (.mv (.t 21)), none⟩])) (.reg [] false [⟨0, (some 11), (.mv (.t 6)),
  none⟩, ⟨0, (some 12), (.bin .add (.t 11) (.c (.int .i64 1))), none⟩, ⟨0, (some 6), (.mv (.t 12)), none⟩]))))
/-- zafra/zafraref01.side -/
def x50 : XFn := ⟨23, [(4, none)], false, false,
  (.seq (.reg [] false [⟨0, (some 4), (.mv (.c .nilsl)), none⟩]) (.seq (.reg [] false [⟨0, (some 5), (.mv (.c .nilsl)), none⟩]) (.seq (.seq (.reg [] false [⟨0,
  (some 6), (.mv (.c (.int .i64 0))), none⟩]) (.block 0 x50l0)) (.seq (.reg [] false [⟨0, (some 22), (.mv (.t 5)), none⟩, ⟨0, (some 4), (.mv (.t 22)), none⟩])
  .ret))))⟩
theorem is50 : FnIs prog 50 x50.fn := ⟨fun vs w => call50 vs w, _, _, func50, rfl, rfl, by kernel_rfl, by kernel_rfl⟩
theorem ok50 : okX x50.body = true := by kernel_rfl
theorem st50 : sitesP x50 x50.body := (sitesP_of rfl)

def x51l0 : XCode :=
  (.loop [1, 3, 5, 6, 7] (.seq (.seq (.reg [] false [⟨0, (some 8), (.mv (.t 7)), none⟩, ⟨0, (some 9), (.bin .lss (.t 8) (.c (.int .i64 4))), none⟩]) (.cond (.t
  9) .skip (.exit 0))) (.seq (.block 1 (.reg [] true [⟨0, (some 12), (.mv (.t 7)), none⟩, ⟨1, (some 13), (.idxa 4 1 (.t 3) (.t 12)), none⟩, ⟨2, (some 14),
  (.load false 1 (.t 13)), none⟩, ⟨3, (some 15), (.mv (.t 1)), none⟩, ⟨4, (some 16), (.mv (.t 7)), none⟩, ⟨5, (some 17), (.idxa 4 1 (.t 5) (.t 16)), none⟩,
  ⟨6, (some 18), (.load false 1 (.t 17)), none⟩, ⟨7, (some 19), (.bin .mul (.t 15) (.t 18)), none⟩, ⟨8, (some 20), (.bin .add (.t 14) (.t 19)), none⟩, ⟨9,
  (some 21), (.idxa 4 1 (.t 3) (.t 12)), none⟩, ⟨10, none, (.store 1 (.t 21) (.t 20) []), none⟩])) (.reg [] false [⟨0, (some 10), (.mv (.t 7)), none⟩, ⟨0,
  (some 11), (.bin .add (.t 10) (.c (.int .i64 1))), none⟩, ⟨0, (some 7), (.mv (.t 11)), none⟩]))))
/-- zafra/zafraref01.add -/
def x51 : XFn := ⟨23, [(6, (some (true, 4)))], false, false,
  (.seq (.reg [] false [⟨0, (some 3), (.box (.t 0)), none⟩, ⟨0, (some 5), (.box (.t 2)), none⟩, ⟨0, (some 6), (.alloc [(.int .i64 0), (.int .i64 0), (.int .i64
  0), (.int .i64 0)]), none⟩]) (.seq (.seq (.reg [] false [⟨0, (some 7), (.mv (.c (.int .i64 0))), none⟩]) (.block 0 x51l0)) (.seq (.reg [] false [⟨0, (some
  22), (.load true 4 (.t 3)), none⟩, ⟨0, none, (.store 4 (.t 6) (.t 22) []), none⟩]) .ret)))⟩
theorem is51 : FnIs prog 51 x51.fn := ⟨fun vs w => call51 vs w, _, _, func51, rfl, rfl, by kernel_rfl, by kernel_rfl⟩
theorem ok51 : okX x51.body = true := by kernel_rfl
theorem st51 : sitesP x51 x51.body := (sitesP_of rfl)

/-- slices.ContainsFunc of  of zafra/bulk.Flow,zafra/bulk.Flow -/
def x52 : XFn := ⟨9, [(4, none)], false, false,
  (.seq (.reg [] false [⟨0, (some 4), (.mv (.c (.bool false))), none⟩]) (.seq (.reg [(0, false), (1, false)] false [⟨0, (some 5), (.mv (.t 0)), none⟩, ⟨0, (some
  6), (.mv (.t 1)), none⟩, ⟨0, (some 7), (.callf false (.c (.fn (.func 73) [] [])) [(.t 5), (.t 6)] []), none⟩, ⟨0, (some 8), (.bin .geq (.t 7) (.c (.int .i64
  0))), none⟩, ⟨0, (some 4), (.mv (.t 8)), none⟩]) .ret))⟩
theorem is52 : FnIs prog 52 x52.fn := ⟨fun vs w => call52 vs w, _, _, func52, rfl, rfl, by kernel_rfl, by kernel_rfl⟩
theorem ok52 : okX x52.body = true := by kernel_rfl
theorem st52 : sitesP x52 x52.body := (sitesP_of rfl)

/-- zafra/bulk.Refutes$1 -/
def x53 : XFn := ⟨18, [(3, none)], false, false,
  (.seq (.reg [] false [⟨0, (some 2), (.box (.t 0)), none⟩, ⟨0, (some 3), (.mv (.c (.bool false))), none⟩]) (.seq (.reg [(2, true)] true [⟨0, (some 4), (.fld 2
  (.t 2)), none⟩, ⟨1, (some 5), (.load false 1 (.t 4)), none⟩, ⟨2, (some 6), (.not (.t 5)), none⟩, ⟨3, (some 7), (.mv (.t 6)), none⟩, ⟨4, (some 8), (.load
  false 1 (.t 1)), (some (7, true))⟩, ⟨5, (some 9), (.fld 0 (.t 2)), (some (7, true))⟩, ⟨6, (some 10), (.load false 1 (.t 9)), (some (7, true))⟩, ⟨8, (some
  12), (.load false 1 (.t 1)), (some (7, true))⟩, ⟨9, (some 13), (.fld 1 (.t 2)), (some (7, true))⟩, ⟨10, (some 14), (.load false 1 (.t 13)), (some (7,
  true))⟩, ⟨7, (some 11), (.callf false (.t 8) [(.t 10)] [8, 10]), (some (7, true))⟩, ⟨11, (some 15), (.callf false (.t 12) [(.t 14)] []), (some (7, true))⟩,
  ⟨12, (some 16), (.binb true (.t 11) (.t 15)), (some (7, true))⟩, ⟨13, (some 17), (.pick (.t 7) (.t 16) (.c (.bool false))), none⟩, ⟨14, (some 3), (.mv (.t
  17)), none⟩]) .ret))⟩
theorem is53 : FnIs prog 53 x53.fn := ⟨fun vs w => call53 vs w, _, _, func53, rfl, rfl, by kernel_rfl, by kernel_rfl⟩
theorem ok53 : okX x53.body = true := by kernel_rfl
theorem st53 : sitesP x53 x53.body := (sitesP_of rfl)

/-- (zafra/zafralaw01.Mill).made$1 -/
def x54 : XFn := ⟨23, [(5, none)], false, false,
  (.seq (.reg [] false [⟨0, (some 5), (.mv (.c (.int .i64 0))), none⟩]) (.seq (.seq (.reg [] false [⟨0, (some 6), (.fld 2 (.t 2)), none⟩, ⟨0, (some 7), (.load
  false 1 (.t 6)), none⟩, ⟨0, (some 8), (.len false (.t 7)), none⟩, ⟨0, (some 9), (.bin .eql (.t 8) (.c (.int .i64 0))), none⟩]) (.cond (.t 9) (.seq (.reg []
  false [⟨0, (some 5), (.mv (.c (.int .i64 1))), none⟩]) .ret) .skip)) (.seq (.reg [] true [⟨0, (some 10), (.fld 2 (.t 2)), none⟩, ⟨1, (some 11), (.load false
  1 (.t 10)), none⟩, ⟨2, (some 12), (.mv (.t 0)), none⟩, ⟨3, (some 13), (.bin .mul (.c (.int .i64 4)) (.t 12)), none⟩, ⟨4, (some 14), (.mv (.t 1)), none⟩, ⟨5,
  (some 15), (.bin .add (.t 13) (.t 14)), none⟩, ⟨6, (some 16), (.fld 2 (.t 2)), none⟩, ⟨7, (some 17), (.load false 1 (.t 16)), none⟩, ⟨8, (some 18), (.len
  false (.t 17)), none⟩, ⟨9, (some 19), (.bin .rem (.t 15) (.t 18)), none⟩, ⟨10, (some 20), (.idx 1 (.t 11) (.t 19)), none⟩, ⟨11, (some 21), (.load false 1
  (.t 20)), none⟩, ⟨12, (some 22), (.conv .i64 (.t 21)), none⟩, ⟨13, (some 5), (.mv (.t 22)), none⟩]) .ret)))⟩
theorem is54 : FnIs prog 54 x54.fn := ⟨fun vs w => call54 vs w, _, _, func54, rfl, rfl, by kernel_rfl, by kernel_rfl⟩
theorem ok54 : okX x54.body = true := by kernel_rfl
theorem st54 : sitesP x54 x54.body := (sitesP_of rfl)

/-- (zafra/bulk.Masses).within -/
def x55 : XFn := ⟨11, [(6, none)], false, false,
  (.seq (.reg [] false [⟨0, (some 3), (.box (.t 0)), none⟩, ⟨0, (some 4), (.box (.t 1)), none⟩, ⟨0, (some 5), (.box (.t 2)), none⟩, ⟨0, (some 6), (.mv (.c
  (.bool false))), none⟩]) (.seq (.reg [] false [⟨0, (some 7), (.slarr 4 1 (.t 3) none none), none⟩, ⟨0, (some 8), (.mkf (.func 75) [] [(.t 4), (.t 5)]),
  none⟩, ⟨0, (some 9), (.callf false (.c (.fn (.func 74) [] [])) [(.t 7), (.t 8)] []), none⟩, ⟨0, (some 10), (.not (.t 9)), none⟩, ⟨0, (some 6), (.mv (.t
  10)), none⟩]) .ret))⟩
theorem is55 : FnIs prog 55 x55.fn := ⟨fun vs w => call55 vs w, _, _, func55, rfl, rfl, by kernel_rfl, by kernel_rfl⟩
theorem ok55 : okX x55.body = true := by kernel_rfl
theorem st55 : sitesP x55 x55.body := (sitesP_of rfl)

/-- slices.Clone of  of zafra/bulk.Flow,zafra/bulk.Flow -/
def x56 : XFn := ⟨8, [(2, none)], true, true,
  (.seq (.reg [] false [⟨0, (some 2), (.mv (.c .nilsl)), none⟩]) (.seq (.seq (.reg [] false [⟨0, (some 3), (.mv (.t 0)), none⟩, ⟨0, (some 4), (.eqn 0 false (.t
  3) (.c .nilsl)), none⟩]) (.cond (.t 4) (.seq (.reg [] false [⟨0, (some 2), (.mv (.c .nilsl)), none⟩]) .ret) .skip)) (.seq (.reg [] false [⟨0, (some 5),
  (.bslice 7 0 [(.int .i64 0), (.int .i64 0), (.bool false), (.int .i64 0), (.int .i64 0), (.int .i64 0), (.int .i64 0)] []), none⟩, ⟨0, (some 6), (.mv (.t
  0)), none⟩, ⟨0, (some 7), (.app 7 56 (.t 5) (.t 6)), none⟩, ⟨0, (some 2), (.mv (.t 7)), none⟩]) .ret)))⟩
theorem is56 : FnIs prog 56 x56.fn := ⟨fun vs w => call56 vs w, _, _, func56, rfl, rfl, by kernel_rfl, by kernel_rfl⟩
theorem ok56 : okX x56.body = true := by kernel_rfl
theorem st56 : sitesP x56 x56.body := (sitesP_of rfl)

def x57l0 : XCode :=
  (.loop [0, 1] (.block 1 (.seq (.reg [] false [⟨0, (some 8), (.mv (.t 0)), none⟩, ⟨0, (some 9), (.mv (.t 1)), none⟩, ⟨0, (some 10), (.lookup false true (.int
  .i64 0) (.t 8) (.t 9)), none⟩, ⟨0, (some 7), (.mv (.t 10)), none⟩, ⟨0, (some 11), (.ext (.t 7) 0), none⟩, ⟨0, (some 12), (.ext (.t 7) 1), none⟩, ⟨0, (some
  5), (.mv (.t 11)), none⟩, ⟨0, (some 6), (.mv (.t 12)), none⟩]) (.seq (.seq (.reg [] false [⟨0, (some 13), (.mv (.t 6)), none⟩, ⟨0, (some 14), (.not (.t
  13)), none⟩, ⟨0, (some 15), (.mv (.t 14)), none⟩, ⟨0, (some 16), (.mv (.t 5)), (some (15, false))⟩, ⟨0, (some 17), (.mv (.t 1)), (some (15, false))⟩, ⟨0,
  (some 18), (.bin .eql (.t 16) (.t 17)), (some (15, false))⟩, ⟨0, (some 19), (.pick (.t 15) (.c (.bool true)) (.t 18)), none⟩]) (.cond (.t 19) (.seq (.reg []
  false [⟨0, (some 20), (.mv (.t 1)), none⟩, ⟨0, (some 4), (.mv (.t 20)), none⟩]) .ret) .skip)) (.reg [] false [⟨0, (some 21), (.mv (.t 5)), none⟩, ⟨0, (some
  1), (.mv (.t 21)), none⟩])))))
/-- (zafra/bulk.heads of int).of -/
def x57 : XFn := ⟨22, [(4, none)], false, false,
  (.seq (.reg [] false [⟨0, (some 4), (.mv (.c (.int .i64 0))), none⟩]) (.block 0 x57l0))⟩
theorem is57 : FnIs prog 57 x57.fn := ⟨fun vs w => call57 vs w, _, _, func57, rfl, rfl, by kernel_rfl, by kernel_rfl⟩
theorem ok57 : okX x57.body = true := by kernel_rfl
theorem st57 : sitesP x57 x57.body := (sitesP_of rfl)

/-- (zafra/bulk.heads of int).join -/
def x58 : XFn := ⟨21, [], false, false,
  (.seq (.reg [(0, false), (1, false), (2, false)] false [⟨0, (some 8), (.mv (.t 0)), none⟩, ⟨0, (some 9), (.mv (.t 1)), none⟩, ⟨0, (some 10), (.callf false (.c
  (.fn (.func 57) [] [])) [(.t 8), (.t 9)] []), none⟩, ⟨0, (some 11), (.mv (.t 0)), none⟩, ⟨0, (some 12), (.mv (.t 2)), none⟩, ⟨0, (some 13), (.callf false
  (.c (.fn (.func 57) [] [])) [(.t 11), (.t 12)] []), none⟩, ⟨0, (some 6), (.mv (.t 10)), none⟩, ⟨0, (some 7), (.mv (.t 13)), none⟩]) (.reg [] false [⟨0,
  (some 14), (.mv (.t 0)), none⟩, ⟨0, (some 15), (.mv (.t 6)), none⟩, ⟨0, (some 16), (.mv (.t 7)), none⟩, ⟨0, (some 17), (.mm true (.t 15) (.t 16)), none⟩,
  ⟨0, (some 18), (.mv (.t 6)), none⟩, ⟨0, (some 19), (.mv (.t 7)), none⟩, ⟨0, (some 20), (.mm false (.t 18) (.t 19)), none⟩, ⟨0, none, (.mapup false (.t 14)
  (.t 17) (.t 20)), none⟩]))⟩
theorem is58 : FnIs prog 58 x58.fn := ⟨fun vs w => call58 vs w, _, _, func58, rfl, rfl, by kernel_rfl, by kernel_rfl⟩
theorem ok58 : okX x58.body = true := by kernel_rfl
theorem st58 : sitesP x58 x58.body := (sitesP_of rfl)

def x59l0 : XCode :=
  (.loop [1, 3, 4, 5, 7, 8, 16, 17, 18] (.seq (.reg [] false [⟨0, (some 19), (.bin .lss (.t 18) (.t 17)), none⟩]) (.seq (.cond (.t 19) .skip (.exit 0)) (.seq
  (.block 1 (.seq (.reg [] false [⟨0, (some 20), (.mv (.t 18)), none⟩, ⟨0, (some 21), (.idx 7 (.t 16) (.t 18)), none⟩, ⟨0, (some 22), (.load true 7 (.t 21)),
  none⟩, ⟨0, (some 10), (.alloc [(.int .i64 0), (.int .i64 0), (.bool false), (.int .i64 0), (.int .i64 0), (.int .i64 0), (.int .i64 0)]), none⟩, ⟨0, (some
  9), (.mv (.t 20)), none⟩, ⟨0, none, (.store 7 (.t 10) (.t 22) []), none⟩]) (.seq (.seq (.reg [] false [⟨0, (some 23), (.fld 2 (.t 10)), none⟩, ⟨0, (some
  24), (.load false 1 (.t 23)), none⟩, ⟨0, (some 25), (.mv (.t 24)), none⟩, ⟨0, (some 26), (.mv (.t 9)), (some (25, false))⟩, ⟨0, (some 27), (.mv (.t 1)),
  (some (25, false))⟩, ⟨0, (some 28), (.bin .eql (.t 26) (.t 27)), (some (25, false))⟩, ⟨0, (some 29), (.pick (.t 25) (.c (.bool true)) (.t 28)), none⟩, ⟨0,
  (some 30), (.mv (.t 29)), none⟩, ⟨0, (some 31), (.fld 0 (.t 10)), (some (30, false))⟩, ⟨0, (some 32), (.load false 1 (.t 31)), (some (30, false))⟩, ⟨0,
  (some 33), (.load false 1 (.t 5)), (some (30, false))⟩, ⟨0, (some 34), (.bin .neq (.t 32) (.t 33)), (some (30, false))⟩, ⟨0, (some 35), (.mv (.t 34)), (some
  (30, false))⟩, ⟨0, (some 36), (.fld 1 (.t 10)), (some (35, true))⟩, ⟨0, (some 37), (.load false 1 (.t 36)), (some (35, true))⟩, ⟨0, (some 38), (.load false
  1 (.t 5)), (some (35, true))⟩, ⟨0, (some 39), (.bin .neq (.t 37) (.t 38)), (some (35, true))⟩, ⟨0, (some 40), (.pick (.t 35) (.t 39) (.c (.bool false))),
  (some (30, false))⟩, ⟨0, (some 41), (.pick (.t 30) (.c (.bool true)) (.t 40)), none⟩]) (.cond (.t 41) (.exit 1) .skip)) (.seq (.seq (.reg [] false [⟨0,
  (some 42), (.fld 0 (.t 10)), none⟩, ⟨0, (some 43), (.load false 1 (.t 42)), none⟩, ⟨0, (some 44), (.load false 1 (.t 5)), none⟩, ⟨0, (some 45), (.bin .eql
  (.t 43) (.t 44)), none⟩]) (.cond (.t 45) (.seq (.reg [(10, true)] false [⟨0, (some 46), (.load false 1 (.t 3)), none⟩, ⟨0, (some 47), (.fld 1 (.t 10)),
  none⟩, ⟨0, (some 48), (.load false 1 (.t 47)), none⟩, ⟨0, (some 49), (.mv (.t 9)), none⟩, ⟨0, (some 50), (.callf false (.t 46) [(.t 48), (.t 49)] []),
  none⟩, ⟨0, (some 11), (.alloc [(.int .i64 0), (.int .i64 0), (.int .i64 0), (.int .i64 0)]), none⟩, ⟨0, none, (.store 4 (.t 11) (.t 50) []), none⟩]) (.reg
  [(11, true)] true [⟨0, (some 51), (.load false 1 (.t 4)), none⟩, ⟨1, (some 52), (.mv (.t 9)), none⟩, ⟨2, (some 53), (.build [(.int .i64 0), (.int .i64 0),
  (.int .i64 0), (.int .i64 0)] []), none⟩, ⟨3, (some 54), (.load true 4 (.t 11)), none⟩, ⟨4, (some 55), (.callf false (.c (.fn (.func 61) [] [])) [(.t 53),
  (.c (.int .i64 (-1))), (.t 54)] [0]), none⟩, ⟨5, (some 56), (.idx 4 (.t 51) (.t 52)), none⟩, ⟨6, none, (.store 4 (.t 56) (.t 55) []), none⟩])) (.reg [(10,
  true)] true [⟨0, (some 57), (.load false 1 (.t 4)), none⟩, ⟨1, (some 58), (.mv (.t 9)), none⟩, ⟨2, (some 59), (.load false 1 (.t 3)), none⟩, ⟨3, (some 60),
  (.fld 0 (.t 10)), none⟩, ⟨4, (some 61), (.load false 1 (.t 60)), none⟩, ⟨5, (some 62), (.mv (.t 9)), none⟩, ⟨6, (some 63), (.callf false (.t 59) [(.t 61),
  (.t 62)] [0]), none⟩, ⟨7, (some 64), (.idx 4 (.t 57) (.t 58)), none⟩, ⟨8, none, (.store 4 (.t 64) (.t 63) []), none⟩]))) (.seq (.reg [] false [⟨0, (some
  65), (.fld 0 (.t 10)), none⟩, ⟨0, (some 66), (.load false 1 (.t 65)), none⟩, ⟨0, (some 67), (.load false 1 (.t 5)), none⟩, ⟨0, (some 68), (.bin .eql (.t 66)
  (.t 67)), none⟩]) (.cond (.t 68) (.reg [(8, true)] true [⟨0, (some 69), (.load true 4 (.t 8)), none⟩, ⟨1, (some 70), (.load false 1 (.t 4)), none⟩, ⟨2,
  (some 71), (.mv (.t 9)), none⟩, ⟨3, (some 72), (.idx 4 (.t 70) (.t 71)), none⟩, ⟨4, (some 73), (.load true 4 (.t 72)), none⟩, ⟨5, (some 74), (.callf false
  (.c (.fn (.func 61) [] [])) [(.t 69), (.c (.int .i64 (-1))), (.t 73)] []), none⟩, ⟨6, none, (.store 4 (.t 8) (.t 74) []), none⟩]) (.reg [(8, true)] true
  [⟨0, (some 75), (.load true 4 (.t 8)), none⟩, ⟨1, (some 76), (.load false 1 (.t 4)), none⟩, ⟨2, (some 77), (.mv (.t 9)), none⟩, ⟨3, (some 78), (.idx 4 (.t
  76) (.t 77)), none⟩, ⟨4, (some 79), (.load true 4 (.t 78)), none⟩, ⟨5, (some 80), (.callf false (.c (.fn (.func 61) [] [])) [(.t 75), (.c (.int .i64 1)),
  (.t 79)] []), none⟩, ⟨6, none, (.store 4 (.t 8) (.t 80) []), none⟩]))))))) (.reg [] false [⟨0, (some 81), (.bin .add (.t 18) (.c (.int .i64 1))), none⟩, ⟨0,
  (some 18), (.mv (.t 81)), none⟩])))))
/-- zafra/bulk.Fill$1 -/
def x59 : XFn := ⟨83, [(7, (some (true, 4)))], false, false,
  (.seq (.reg [] false [⟨0, (some 5), (.box (.t 0)), none⟩, ⟨0, (some 7), (.alloc [(.int .i64 0), (.int .i64 0), (.int .i64 0), (.int .i64 0)]), none⟩]) (.seq
  (.reg [(2, true)] false [⟨0, (some 12), (.load true 2 (.t 2)), none⟩, ⟨0, (some 13), (.mkf (.func 60) [] [(.t 5)]), none⟩, ⟨0, (some 14), (.callf false (.c
  (.fn (.func 39) [] [])) [(.t 12), (.c (.int .i64 (-1))), (.t 13)] []), none⟩, ⟨0, (some 8), (.alloc [(.int .i64 0), (.int .i64 0), (.int .i64 0), (.int .i64
  0)]), none⟩, ⟨0, none, (.store 4 (.t 8) (.t 14) []), none⟩]) (.seq (.seq (.reg [] false [⟨0, (some 15), (.fld 1 (.t 2)), none⟩, ⟨0, (some 16), (.load false
  1 (.t 15)), none⟩, ⟨0, (some 17), (.len false (.t 16)), none⟩, ⟨0, (some 18), (.mv (.c (.int .i64 0))), none⟩]) (.block 0 x59l0)) (.seq (.reg [] false [⟨0,
  (some 82), (.load true 4 (.t 8)), none⟩, ⟨0, none, (.store 4 (.t 7) (.t 82) []), none⟩]) .ret))))⟩
theorem is59 : FnIs prog 59 x59.fn := ⟨fun vs w => call59 vs w, _, _, func59, rfl, rfl, by kernel_rfl, by kernel_rfl⟩
theorem ok59 : okX x59.body = true := by kernel_rfl
theorem st59 : sitesP x59 x59.body := (sitesP_of rfl)

/-- zafra/bulk.Fill$1$1 -/
def x60 : XFn := ⟨7, [(3, none)], false, false,
  (.seq (.reg [] false [⟨0, (some 3), (.mv (.c (.bool false))), none⟩]) (.seq (.reg [] false [⟨0, (some 4), (.mv (.t 0)), none⟩, ⟨0, (some 5), (.load false 1
  (.t 1)), none⟩, ⟨0, (some 6), (.bin .eql (.t 4) (.t 5)), none⟩, ⟨0, (some 3), (.mv (.t 6)), none⟩]) .ret))⟩
theorem is60 : FnIs prog 60 x60.fn := ⟨fun vs w => call60 vs w, _, _, func60, rfl, rfl, by kernel_rfl, by kernel_rfl⟩
theorem ok60 : okX x60.body = true := by kernel_rfl
theorem st60 : sitesP x60 x60.body := (sitesP_of rfl)

def x61l0 : XCode :=
  (.loop [1, 3, 5, 6, 8] (.seq (.reg [] false [⟨0, (some 9), (.bin .lss (.t 8) (.c (.int .i64 4))), none⟩]) (.seq (.cond (.t 9) .skip (.exit 0)) (.seq (.block 1
  (.seq (.reg [] false [⟨0, (some 10), (.mv (.t 8)), none⟩, ⟨0, (some 7), (.mv (.t 10)), none⟩]) (.reg [] true [⟨0, (some 11), (.mv (.t 7)), none⟩, ⟨1, (some
  12), (.idxa 4 1 (.t 3) (.t 11)), none⟩, ⟨2, (some 13), (.load false 1 (.t 12)), none⟩, ⟨3, (some 14), (.mv (.t 1)), none⟩, ⟨4, (some 15), (.mv (.t 7)),
  none⟩, ⟨5, (some 16), (.idxa 4 1 (.t 5) (.t 15)), none⟩, ⟨6, (some 17), (.load false 1 (.t 16)), none⟩, ⟨7, (some 18), (.bin .mul (.t 14) (.t 17)), none⟩,
  ⟨8, (some 19), (.bin .add (.t 13) (.t 18)), none⟩, ⟨9, (some 20), (.idxa 4 1 (.t 3) (.t 11)), none⟩, ⟨10, none, (.store 1 (.t 20) (.t 19) []), none⟩])))
  (.reg [] false [⟨0, (some 21), (.bin .add (.t 8) (.c (.int .i64 1))), none⟩, ⟨0, (some 8), (.mv (.t 21)), none⟩])))))
/-- (zafra/bulk.Masses).plus -/
def x61 : XFn := ⟨23, [(6, (some (true, 4)))], false, false,
  (.seq (.reg [] false [⟨0, (some 3), (.box (.t 0)), none⟩, ⟨0, (some 5), (.box (.t 2)), none⟩, ⟨0, (some 6), (.alloc [(.int .i64 0), (.int .i64 0), (.int .i64
  0), (.int .i64 0)]), none⟩]) (.seq (.seq (.reg [] false [⟨0, (some 8), (.mv (.c (.int .i64 0))), none⟩]) (.block 0 x61l0)) (.seq (.reg [] false [⟨0, (some
  22), (.load true 4 (.t 3)), none⟩, ⟨0, none, (.store 4 (.t 6) (.t 22) []), none⟩]) .ret)))⟩
theorem is61 : FnIs prog 61 x61.fn := ⟨fun vs w => call61 vs w, _, _, func61, rfl, rfl, by kernel_rfl, by kernel_rfl⟩
theorem ok61 : okX x61.body = true := by kernel_rfl
theorem st61 : sitesP x61 x61.body := (sitesP_of rfl)

/-- slices.ContainsFunc of  of zafra/bulk.Masses,zafra/bulk.Masses -/
def x62 : XFn := ⟨9, [(4, none)], false, false,
  (.seq (.reg [] false [⟨0, (some 4), (.mv (.c (.bool false))), none⟩]) (.seq (.reg [(0, false), (1, false)] false [⟨0, (some 5), (.mv (.t 0)), none⟩, ⟨0, (some
  6), (.mv (.t 1)), none⟩, ⟨0, (some 7), (.callf false (.c (.fn (.func 76) [] [])) [(.t 5), (.t 6)] []), none⟩, ⟨0, (some 8), (.bin .geq (.t 7) (.c (.int .i64
  0))), none⟩, ⟨0, (some 4), (.mv (.t 8)), none⟩]) .ret))⟩
theorem is62 : FnIs prog 62 x62.fn := ⟨fun vs w => call62 vs w, _, _, func62, rfl, rfl, by kernel_rfl, by kernel_rfl⟩
theorem ok62 : okX x62.body = true := by kernel_rfl
theorem st62 : sitesP x62 x62.body := (sitesP_of rfl)

/-- zafra/bulk.Verify$1 -/
def x63 : XFn := ⟨6, [(2, none)], false, false,
  (.seq (.reg [] false [⟨0, (some 1), (.box (.t 0)), none⟩, ⟨0, (some 2), (.mv (.c (.bool false))), none⟩]) (.seq (.reg [(1, true)] false [⟨0, (some 3), (.load
  true 4 (.t 1)), none⟩, ⟨0, (some 4), (.callf false (.c (.fn (.func 55) [] [])) [(.t 3), (.c (.int .i64 (-1000000000000))), (.c (.int .i64 1000000000000))]
  []), none⟩, ⟨0, (some 5), (.not (.t 4)), none⟩, ⟨0, (some 2), (.mv (.t 5)), none⟩]) .ret))⟩
theorem is63 : FnIs prog 63 x63.fn := ⟨fun vs w => call63 vs w, _, _, func63, rfl, rfl, by kernel_rfl, by kernel_rfl⟩
theorem ok63 : okX x63.body = true := by kernel_rfl
theorem st63 : sitesP x63 x63.body := (sitesP_of rfl)

/-- zafra/bulk.Verify$2 -/
def x64 : XFn := ⟨7, [(3, none)], false, false,
  (.seq (.reg [] false [⟨0, (some 3), (.mv (.c (.bool false))), none⟩]) (.seq (.reg [] false [⟨0, (some 4), (.mv (.t 0)), none⟩, ⟨0, (some 5), (.load false 1
  (.t 1)), none⟩, ⟨0, (some 6), (.bin .eql (.t 4) (.t 5)), none⟩, ⟨0, (some 3), (.mv (.t 6)), none⟩]) .ret))⟩
theorem is64 : FnIs prog 64 x64.fn := ⟨fun vs w => call64 vs w, _, _, func64, rfl, rfl, by kernel_rfl, by kernel_rfl⟩
theorem ok64 : okX x64.body = true := by kernel_rfl
theorem st64 : sitesP x64 x64.body := (sitesP_of rfl)

/-- math/bits.Mul -/
def x65 : XFn := ⟨30, [(4, none), (5, none)], false, false,
  (.seq (.reg [] false [⟨0, (some 4), (.mv (.c (.int .u64 0))), none⟩, ⟨0, (some 5), (.mv (.c (.int .u64 0))), none⟩]) (.seq (.cond (.c (.bool false)) (.seq
  (.reg [] false [⟨0, (some 11), (.mv (.t 0)), none⟩, ⟨0, (some 12), (.conv .u32 (.t 11)), none⟩, ⟨0, (some 13), (.mv (.t 1)), none⟩, ⟨0, (some 14), (.conv
  .u32 (.t 13)), none⟩, ⟨0, (some 15), (.callf false (.c (.fn (.func 77) [] [])) [(.t 12), (.t 14)] []), none⟩, ⟨0, (some 10), (.mv (.t 15)), none⟩, ⟨0, (some
  16), (.ext (.t 10) 0), none⟩, ⟨0, (some 17), (.ext (.t 10) 1), none⟩, ⟨0, (some 6), (.mv (.t 16)), none⟩, ⟨0, (some 7), (.mv (.t 17)), none⟩]) (.seq (.reg
  [] false [⟨0, (some 18), (.mv (.t 6)), none⟩, ⟨0, (some 19), (.conv .u64 (.t 18)), none⟩, ⟨0, (some 20), (.mv (.t 7)), none⟩, ⟨0, (some 21), (.conv .u64 (.t
  20)), none⟩, ⟨0, (some 4), (.mv (.t 19)), none⟩, ⟨0, (some 5), (.mv (.t 21)), none⟩]) .ret)) .skip) (.seq (.reg [] false [⟨0, (some 23), (.mv (.t 0)),
  none⟩, ⟨0, (some 24), (.mv (.t 1)), none⟩, ⟨0, (some 25), (.callf false (.c (.fn (.func 78) [] [])) [(.t 23), (.t 24)] []), none⟩, ⟨0, (some 22), (.mv (.t
  25)), none⟩, ⟨0, (some 26), (.ext (.t 22) 0), none⟩, ⟨0, (some 27), (.ext (.t 22) 1), none⟩, ⟨0, (some 8), (.mv (.t 26)), none⟩, ⟨0, (some 9), (.mv (.t
  27)), none⟩]) (.seq (.reg [] false [⟨0, (some 28), (.mv (.t 8)), none⟩, ⟨0, (some 29), (.mv (.t 9)), none⟩, ⟨0, (some 4), (.mv (.t 28)), none⟩, ⟨0, (some
  5), (.mv (.t 29)), none⟩]) .ret))))⟩
theorem is65 : FnIs prog 65 x65.fn := ⟨fun vs w => call65 vs w, _, _, func65, rfl, rfl, by kernel_rfl, by kernel_rfl⟩
theorem ok65 : okX x65.body = true := by kernel_rfl
theorem st65 : sitesP x65 x65.body := (sitesP_of rfl)

def x66l0 : XCode :=
  (.loop [0, 1, 3, 4, 5, 10, 11, 20, 21] (.seq (.reg [] false [⟨0, (some 22), (.bin .lss (.t 21) (.t 20)), none⟩]) (.seq (.cond (.t 22) .skip (.exit 2)) (.seq
  (.block 3 (.seq (.reg [] false [⟨0, (some 23), (.mv (.t 21)), none⟩, ⟨0, (some 6), (.mv (.t 23)), none⟩]) (.seq (.reg [(3, false)] false [⟨0, (some 24),
  (.mv (.t 3)), none⟩, ⟨0, (some 25), (.mv (.t 6)), none⟩, ⟨0, (some 26), (.callf false (.c (.fn (.func 57) [] [])) [(.t 24), (.t 25)] []), none⟩, ⟨0, (some
  27), (.mv (.t 4)), none⟩, ⟨0, (some 28), (.bin .eql (.t 26) (.t 27)), none⟩]) (.cond (.t 28) (.reg [] false [⟨0, (some 29), (.mv (.t 5)), none⟩, ⟨0, (some
  30), (.mv (.t 6)), none⟩, ⟨0, (some 31), (.bslice 1 1 [(.int .i64 0)] [(0, (1, (.t 30)))]), none⟩, ⟨0, (some 32), (.app 1 8 (.t 29) (.t 31)), none⟩, ⟨0,
  (some 5), (.mv (.t 32)), none⟩]) .skip)))) (.reg [] false [⟨0, (some 33), (.bin .add (.t 21) (.c (.int .i64 1))), none⟩, ⟨0, (some 21), (.mv (.t 33)),
  none⟩])))))
def x66l1 : XCode :=
  (.loop [0, 1, 3, 10, 11] (.seq (.reg [] false [⟨0, (some 12), (.bin .lss (.t 11) (.t 10)), none⟩]) (.seq (.cond (.t 12) .skip (.exit 0)) (.seq (.block 1 (.seq
  (.reg [] false [⟨0, (some 13), (.mv (.t 11)), none⟩, ⟨0, (some 4), (.mv (.t 13)), none⟩]) (.seq (.seq (.reg [(3, false)] false [⟨0, (some 14), (.mv (.t 3)),
  none⟩, ⟨0, (some 15), (.mv (.t 4)), none⟩, ⟨0, (some 16), (.callf false (.c (.fn (.func 57) [] [])) [(.t 14), (.t 15)] []), none⟩, ⟨0, (some 17), (.mv (.t
  4)), none⟩, ⟨0, (some 18), (.bin .neq (.t 16) (.t 17)), none⟩]) (.cond (.t 18) (.exit 1) .skip)) (.seq (.reg [] false [⟨0, (some 5), (.mv (.c .nilsl)),
  none⟩]) (.seq (.seq (.reg [] false [⟨0, (some 19), (.fld 0 (.t 1)), none⟩, ⟨0, (some 20), (.load false 1 (.t 19)), none⟩, ⟨0, (some 21), (.mv (.c (.int .i64
  0))), none⟩]) (.block 2 x66l0)) (.seq (.reg [(5, false)] false [⟨0, (some 34), (.mv (.t 0)), none⟩, ⟨0, (some 35), (.mv (.t 5)), none⟩, ⟨0, (some 36),
  (.callf false (.t 34) [(.t 35)] []), none⟩, ⟨0, (some 37), (.not (.t 36)), none⟩]) (.cond (.t 37) .ret .skip))))))) (.reg [] false [⟨0, (some 38), (.bin
  .add (.t 11) (.c (.int .i64 1))), none⟩, ⟨0, (some 11), (.mv (.t 38)), none⟩])))))
/-- (zafra/bulk.Plant).parts$1 -/
def x66 : XFn := ⟨39, [], false, false,
  (.seq (.reg [(1, true)] false [⟨0, (some 7), (.load true 2 (.t 1)), none⟩, ⟨0, (some 8), (.callf false (.c (.fn (.func 67) [] [])) [(.t 7), (.c (.int .i64
  (-1)))] []), none⟩, ⟨0, (some 3), (.mv (.t 8)), none⟩]) (.seq (.reg [] false [⟨0, (some 9), (.fld 0 (.t 1)), none⟩, ⟨0, (some 10), (.load false 1 (.t 9)),
  none⟩, ⟨0, (some 11), (.mv (.c (.int .i64 0))), none⟩]) (.block 0 x66l1)))⟩
theorem is66 : FnIs prog 66 x66.fn := ⟨fun vs w => call66 vs w, _, _, func66, rfl, rfl, by kernel_rfl, by kernel_rfl⟩
theorem ok66 : okX x66.body = true := by kernel_rfl
theorem st66 : sitesP x66 x66.body := (sitesP_of rfl)

def x67l0 : XCode :=
  (.loop [1, 5, 10, 11, 12] (.seq (.reg [] false [⟨0, (some 13), (.bin .lss (.t 12) (.t 11)), none⟩]) (.seq (.cond (.t 13) .skip (.exit 0)) (.seq (.block 1
  (.seq (.reg [] false [⟨0, (some 14), (.mv (.t 12)), none⟩, ⟨0, (some 15), (.idx 7 (.t 10) (.t 12)), none⟩, ⟨0, (some 16), (.load true 7 (.t 15)), none⟩, ⟨0,
  (some 7), (.alloc [(.int .i64 0), (.int .i64 0), (.bool false), (.int .i64 0), (.int .i64 0), (.int .i64 0), (.int .i64 0)]), none⟩, ⟨0, (some 6), (.mv (.t
  14)), none⟩, ⟨0, none, (.store 7 (.t 7) (.t 16) []), none⟩]) (.seq (.reg [] false [⟨0, (some 17), (.fld 2 (.t 7)), none⟩, ⟨0, (some 18), (.load false 1 (.t
  17)), none⟩, ⟨0, (some 19), (.not (.t 18)), none⟩, ⟨0, (some 20), (.mv (.t 19)), none⟩, ⟨0, (some 21), (.mv (.t 6)), (some (20, true))⟩, ⟨0, (some 22), (.mv
  (.t 1)), (some (20, true))⟩, ⟨0, (some 23), (.bin .neq (.t 21) (.t 22)), (some (20, true))⟩, ⟨0, (some 24), (.pick (.t 20) (.t 23) (.c (.bool false))),
  none⟩]) (.cond (.t 24) (.reg [(5, false), (7, true)] false [⟨0, (some 25), (.mv (.t 5)), none⟩, ⟨0, (some 26), (.fld 0 (.t 7)), none⟩, ⟨0, (some 27), (.load
  false 1 (.t 26)), none⟩, ⟨0, (some 28), (.fld 1 (.t 7)), none⟩, ⟨0, (some 29), (.load false 1 (.t 28)), none⟩, ⟨0, (some 30), (.callf false (.c (.fn (.func
  58) [] [])) [(.t 25), (.t 27), (.t 29)] []), none⟩]) .skip)))) (.reg [] false [⟨0, (some 31), (.bin .add (.t 12) (.c (.int .i64 1))), none⟩, ⟨0, (some 12),
  (.mv (.t 31)), none⟩])))))
/-- (zafra/bulk.Plant).joined -/
def x67 : XFn := ⟨33, [(4, none)], false, false,
  (.seq (.reg [] false [⟨0, (some 2), (.box (.t 0)), none⟩, ⟨0, (some 4), (.mv (.c .nilmap)), none⟩]) (.seq (.reg [] false [⟨0, (some 8), .mkmap, none⟩, ⟨0,
  (some 5), (.mv (.t 8)), none⟩]) (.seq (.seq (.reg [] false [⟨0, (some 9), (.fld 1 (.t 2)), none⟩, ⟨0, (some 10), (.load false 1 (.t 9)), none⟩, ⟨0, (some
  11), (.len false (.t 10)), none⟩, ⟨0, (some 12), (.mv (.c (.int .i64 0))), none⟩]) (.block 0 x67l0)) (.seq (.reg [] false [⟨0, (some 32), (.mv (.t 5)),
  none⟩, ⟨0, (some 4), (.mv (.t 32)), none⟩]) .ret))))⟩
theorem is67 : FnIs prog 67 x67.fn := ⟨fun vs w => call67 vs w, _, _, func67, rfl, rfl, by kernel_rfl, by kernel_rfl⟩
theorem ok67 : okX x67.body = true := by kernel_rfl
theorem st67 : sitesP x67 x67.body := (sitesP_of rfl)

/-- (zafra/bulk.Plant).chosen$1 -/
def x68 : XFn := ⟨7, [(3, none)], false, false,
  (.seq (.reg [] false [⟨0, (some 3), (.mv (.c (.bool false))), none⟩]) (.seq (.reg [(1, true), (0, false)] false [⟨0, (some 4), (.load false 1 (.t 1)), none⟩,
  ⟨0, (some 5), (.mv (.t 0)), none⟩, ⟨0, (some 6), (.callf false (.c (.fn (.func 69) [] [])) [(.t 4), (.t 5)] []), none⟩, ⟨0, (some 3), (.mv (.t 6)), none⟩])
  .ret))⟩
theorem is68 : FnIs prog 68 x68.fn := ⟨fun vs w => call68 vs w, _, _, func68, rfl, rfl, by kernel_rfl, by kernel_rfl⟩
theorem ok68 : okX x68.body = true := by kernel_rfl
theorem st68 : sitesP x68 x68.body := (sitesP_of rfl)

/-- slices.Contains of  of int,int -/
def x69 : XFn := ⟨9, [(4, none)], false, false,
  (.seq (.reg [] false [⟨0, (some 4), (.mv (.c (.bool false))), none⟩]) (.seq (.reg [(0, false), (1, false)] false [⟨0, (some 5), (.mv (.t 0)), none⟩, ⟨0, (some
  6), (.mv (.t 1)), none⟩, ⟨0, (some 7), (.callf false (.c (.fn (.func 79) [] [])) [(.t 5), (.t 6)] []), none⟩, ⟨0, (some 8), (.bin .geq (.t 7) (.c (.int .i64
  0))), none⟩, ⟨0, (some 4), (.mv (.t 8)), none⟩]) .ret))⟩
theorem is69 : FnIs prog 69 x69.fn := ⟨fun vs w => call69 vs w, _, _, func69, rfl, rfl, by kernel_rfl, by kernel_rfl⟩
theorem ok69 : okX x69.body = true := by kernel_rfl
theorem st69 : sitesP x69 x69.body := (sitesP_of rfl)

/-- (zafra/bulk.Plant).clash$1 -/
def x70 : XFn := ⟨7, [(3, none)], false, false,
  (.seq (.reg [] false [⟨0, (some 3), (.mv (.c (.bool false))), none⟩]) (.seq (.reg [(1, true), (0, false)] false [⟨0, (some 4), (.load false 1 (.t 1)), none⟩,
  ⟨0, (some 5), (.mv (.t 0)), none⟩, ⟨0, (some 6), (.callf false (.c (.fn (.func 69) [] [])) [(.t 4), (.t 5)] []), none⟩, ⟨0, (some 3), (.mv (.t 6)), none⟩])
  .ret))⟩
theorem is70 : FnIs prog 70 x70.fn := ⟨fun vs w => call70 vs w, _, _, func70, rfl, rfl, by kernel_rfl, by kernel_rfl⟩
theorem ok70 : okX x70.body = true := by kernel_rfl
theorem st70 : sitesP x70 x70.body := (sitesP_of rfl)

/-- (zafra/bulk.Plant).found$1 -/
def x71 : XFn := ⟨10, [(4, none)], false, false,
  (.seq (.reg [] false [⟨0, (some 4), (.mv (.c (.bool false))), none⟩]) (.seq (.reg [(1, true), (0, false)] true [⟨0, (some 5), (.load false 1 (.t 1)), none⟩,
  ⟨1, (some 6), (.mv (.t 0)), none⟩, ⟨3, (some 8), (.load false 1 (.t 2)), none⟩, ⟨2, (some 7), (.callf false (.c (.fn (.func 57) [] [])) [(.t 5), (.t 6)]
  [3]), none⟩, ⟨4, (some 9), (.bin .eql (.t 7) (.t 8)), none⟩, ⟨5, (some 4), (.mv (.t 9)), none⟩]) .ret))⟩
theorem is71 : FnIs prog 71 x71.fn := ⟨fun vs w => call71 vs w, _, _, func71, rfl, rfl, by kernel_rfl, by kernel_rfl⟩
theorem ok71 : okX x71.body = true := by kernel_rfl
theorem st71 : sitesP x71 x71.body := (sitesP_of rfl)

/-- (zafra/bulk.Plant).found$2 -/
def x72 : XFn := ⟨10, [(4, none)], false, false,
  (.seq (.reg [] false [⟨0, (some 4), (.mv (.c (.bool false))), none⟩]) (.seq (.reg [(1, true), (0, false)] true [⟨0, (some 5), (.load false 1 (.t 1)), none⟩,
  ⟨1, (some 6), (.mv (.t 0)), none⟩, ⟨3, (some 8), (.load false 1 (.t 2)), none⟩, ⟨2, (some 7), (.callf false (.c (.fn (.func 57) [] [])) [(.t 5), (.t 6)]
  [3]), none⟩, ⟨4, (some 9), (.bin .eql (.t 7) (.t 8)), none⟩, ⟨5, (some 4), (.mv (.t 9)), none⟩]) .ret))⟩
theorem is72 : FnIs prog 72 x72.fn := ⟨fun vs w => call72 vs w, _, _, func72, rfl, rfl, by kernel_rfl, by kernel_rfl⟩
theorem ok72 : okX x72.body = true := by kernel_rfl
theorem st72 : sitesP x72 x72.body := (sitesP_of rfl)

def x73l0 : XCode :=
  (.loop [0, 1, 7, 8] (.seq (.reg [] false [⟨0, (some 9), (.bin .lss (.t 8) (.t 7)), none⟩]) (.seq (.cond (.t 9) .skip (.exit 0)) (.seq (.block 1 (.seq (.reg []
  false [⟨0, (some 10), (.mv (.t 8)), none⟩, ⟨0, (some 5), (.mv (.t 10)), none⟩]) (.seq (.reg [] false [⟨0, (some 11), (.mv (.t 1)), none⟩, ⟨0, (some 12),
  (.mv (.t 0)), none⟩, ⟨0, (some 13), (.mv (.t 5)), none⟩, ⟨0, (some 14), (.idx 7 (.t 12) (.t 13)), none⟩, ⟨0, (some 15), (.load true 7 (.t 14)), none⟩, ⟨0,
  (some 16), (.callf false (.t 11) [(.t 15)] []), none⟩]) (.cond (.t 16) (.seq (.reg [] false [⟨0, (some 17), (.mv (.t 5)), none⟩, ⟨0, (some 4), (.mv (.t
  17)), none⟩]) .ret) .skip)))) (.reg [] false [⟨0, (some 18), (.bin .add (.t 8) (.c (.int .i64 1))), none⟩, ⟨0, (some 8), (.mv (.t 18)), none⟩])))))
/-- slices.IndexFunc of  of zafra/bulk.Flow,zafra/bulk.Flow -/
def x73 : XFn := ⟨19, [(4, none)], false, false,
  (.seq (.reg [] false [⟨0, (some 4), (.mv (.c (.int .i64 0))), none⟩]) (.seq (.seq (.reg [] false [⟨0, (some 6), (.mv (.t 0)), none⟩, ⟨0, (some 7), (.len false
  (.t 6)), none⟩, ⟨0, (some 8), (.mv (.c (.int .i64 0))), none⟩]) (.block 0 x73l0)) (.seq (.reg [] false [⟨0, (some 4), (.mv (.c (.int .i64 (-1)))), none⟩])
  .ret)))⟩
theorem is73 : FnIs prog 73 x73.fn := ⟨fun vs w => call73 vs w, _, _, func73, rfl, rfl, by kernel_rfl, by kernel_rfl⟩
theorem ok73 : okX x73.body = true := by kernel_rfl
theorem st73 : sitesP x73 x73.body := (sitesP_of rfl)

end Go.Proofs.Ytdbikamciedfdaa
end
section
set_option maxRecDepth 100000
namespace Go.Proofs.Ytdbikamciedfdaa
open Go Go.DL Go.Proofs.Try

/-- slices.ContainsFunc of  of int,int -/
def x74 : XFn := ⟨9, [(4, none)], false, false,
  (.seq (.reg [] false [⟨0, (some 4), (.mv (.c (.bool false))), none⟩]) (.seq (.reg [(0, false), (1, false)] false [⟨0, (some 5), (.mv (.t 0)), none⟩, ⟨0, (some
  6), (.mv (.t 1)), none⟩, ⟨0, (some 7), (.callf false (.c (.fn (.func 80) [] [])) [(.t 5), (.t 6)] []), none⟩, ⟨0, (some 8), (.bin .geq (.t 7) (.c (.int .i64
  0))), none⟩, ⟨0, (some 4), (.mv (.t 8)), none⟩]) .ret))⟩
theorem is74 : FnIs prog 74 x74.fn := ⟨fun vs w => call74 vs w, _, _, func74, rfl, rfl, by kernel_rfl, by kernel_rfl⟩
theorem ok74 : okX x74.body = true := by kernel_rfl
theorem st74 : sitesP x74 x74.body := (sitesP_of rfl)

/-- (zafra/bulk.Masses).within$1 -/
def x75 : XFn := ⟨10, [(4, none)], false, false,
  (.seq (.reg [] false [⟨0, (some 4), (.mv (.c (.bool false))), none⟩]) (.seq (.reg [(1, true), (0, false), (2, true)] false [⟨0, (some 5), (.load false 1 (.t
  1)), none⟩, ⟨0, (some 6), (.mv (.t 0)), none⟩, ⟨0, (some 7), (.load false 1 (.t 2)), none⟩, ⟨0, (some 8), (.callf false (.c (.fn (.func 42) [] [])) [(.t 5),
  (.t 6), (.t 7)] []), none⟩, ⟨0, (some 9), (.not (.t 8)), none⟩, ⟨0, (some 4), (.mv (.t 9)), none⟩]) .ret))⟩
theorem is75 : FnIs prog 75 x75.fn := ⟨fun vs w => call75 vs w, _, _, func75, rfl, rfl, by kernel_rfl, by kernel_rfl⟩
theorem ok75 : okX x75.body = true := by kernel_rfl
theorem st75 : sitesP x75 x75.body := (sitesP_of rfl)

def x76l0 : XCode :=
  (.loop [0, 1, 7, 8] (.seq (.reg [] false [⟨0, (some 9), (.bin .lss (.t 8) (.t 7)), none⟩]) (.seq (.cond (.t 9) .skip (.exit 0)) (.seq (.block 1 (.seq (.reg []
  false [⟨0, (some 10), (.mv (.t 8)), none⟩, ⟨0, (some 5), (.mv (.t 10)), none⟩]) (.seq (.reg [] false [⟨0, (some 11), (.mv (.t 1)), none⟩, ⟨0, (some 12),
  (.mv (.t 0)), none⟩, ⟨0, (some 13), (.mv (.t 5)), none⟩, ⟨0, (some 14), (.idx 4 (.t 12) (.t 13)), none⟩, ⟨0, (some 15), (.load true 4 (.t 14)), none⟩, ⟨0,
  (some 16), (.callf false (.t 11) [(.t 15)] []), none⟩]) (.cond (.t 16) (.seq (.reg [] false [⟨0, (some 17), (.mv (.t 5)), none⟩, ⟨0, (some 4), (.mv (.t
  17)), none⟩]) .ret) .skip)))) (.reg [] false [⟨0, (some 18), (.bin .add (.t 8) (.c (.int .i64 1))), none⟩, ⟨0, (some 8), (.mv (.t 18)), none⟩])))))
/-- slices.IndexFunc of  of zafra/bulk.Masses,zafra/bulk.Masses -/
def x76 : XFn := ⟨19, [(4, none)], false, false,
  (.seq (.reg [] false [⟨0, (some 4), (.mv (.c (.int .i64 0))), none⟩]) (.seq (.seq (.reg [] false [⟨0, (some 6), (.mv (.t 0)), none⟩, ⟨0, (some 7), (.len false
  (.t 6)), none⟩, ⟨0, (some 8), (.mv (.c (.int .i64 0))), none⟩]) (.block 0 x76l0)) (.seq (.reg [] false [⟨0, (some 4), (.mv (.c (.int .i64 (-1)))), none⟩])
  .ret)))⟩
theorem is76 : FnIs prog 76 x76.fn := ⟨fun vs w => call76 vs w, _, _, func76, rfl, rfl, by kernel_rfl, by kernel_rfl⟩
theorem ok76 : okX x76.body = true := by kernel_rfl
theorem st76 : sitesP x76 x76.body := (sitesP_of rfl)

/-- math/bits.Mul32 -/
def x77 : XFn := ⟨17, [(4, none), (5, none)], false, false,
  (.seq (.reg [] false [⟨0, (some 4), (.mv (.c (.int .u32 0))), none⟩, ⟨0, (some 5), (.mv (.c (.int .u32 0))), none⟩]) (.seq (.reg [] false [⟨0, (some 7), (.mv
  (.t 0)), none⟩, ⟨0, (some 8), (.conv .u64 (.t 7)), none⟩, ⟨0, (some 9), (.mv (.t 1)), none⟩, ⟨0, (some 10), (.conv .u64 (.t 9)), none⟩, ⟨0, (some 11), (.bin
  .mul (.t 8) (.t 10)), none⟩, ⟨0, (some 6), (.mv (.t 11)), none⟩]) (.seq (.reg [] false [⟨0, (some 12), (.mv (.t 6)), none⟩, ⟨0, (some 13), (.bin .shr (.t
  12) (.c (.int .u64 32))), none⟩, ⟨0, (some 14), (.conv .u32 (.t 13)), none⟩, ⟨0, (some 15), (.mv (.t 6)), none⟩, ⟨0, (some 16), (.conv .u32 (.t 15)), none⟩,
  ⟨0, (some 4), (.mv (.t 14)), none⟩, ⟨0, (some 5), (.mv (.t 16)), none⟩]) .ret)))⟩
theorem is77 : FnIs prog 77 x77.fn := ⟨fun vs w => call77 vs w, _, _, func77, rfl, rfl, by kernel_rfl, by kernel_rfl⟩
theorem ok77 : okX x77.body = true := by kernel_rfl
theorem st77 : sitesP x77 x77.body := (sitesP_of rfl)

/-- math/bits.Mul64 -/
def x78 : XFn := ⟨51, [(4, none), (5, none)], false, false,
  (.seq (.reg [] false [⟨0, (some 4), (.mv (.c (.int .u64 0))), none⟩, ⟨0, (some 5), (.mv (.c (.int .u64 0))), none⟩]) (.seq (.reg [] false [⟨0, (some 14), (.mv
  (.t 0)), none⟩, ⟨0, (some 15), (.bin .and (.t 14) (.c (.int .u64 4294967295))), none⟩, ⟨0, (some 6), (.mv (.t 15)), none⟩]) (.seq (.reg [] false [⟨0, (some
  16), (.mv (.t 0)), none⟩, ⟨0, (some 17), (.bin .shr (.t 16) (.c (.int .u64 32))), none⟩, ⟨0, (some 7), (.mv (.t 17)), none⟩]) (.seq (.reg [] false [⟨0,
  (some 18), (.mv (.t 1)), none⟩, ⟨0, (some 19), (.bin .and (.t 18) (.c (.int .u64 4294967295))), none⟩, ⟨0, (some 8), (.mv (.t 19)), none⟩]) (.seq (.reg []
  false [⟨0, (some 20), (.mv (.t 1)), none⟩, ⟨0, (some 21), (.bin .shr (.t 20) (.c (.int .u64 32))), none⟩, ⟨0, (some 9), (.mv (.t 21)), none⟩]) (.seq (.reg
  [] false [⟨0, (some 22), (.mv (.t 6)), none⟩, ⟨0, (some 23), (.mv (.t 8)), none⟩, ⟨0, (some 24), (.bin .mul (.t 22) (.t 23)), none⟩, ⟨0, (some 10), (.mv (.t
  24)), none⟩]) (.seq (.reg [] false [⟨0, (some 25), (.mv (.t 7)), none⟩, ⟨0, (some 26), (.mv (.t 8)), none⟩, ⟨0, (some 27), (.bin .mul (.t 25) (.t 26)),
  none⟩, ⟨0, (some 28), (.mv (.t 10)), none⟩, ⟨0, (some 29), (.bin .shr (.t 28) (.c (.int .u64 32))), none⟩, ⟨0, (some 30), (.bin .add (.t 27) (.t 29)),
  none⟩, ⟨0, (some 11), (.mv (.t 30)), none⟩]) (.seq (.reg [] false [⟨0, (some 31), (.mv (.t 11)), none⟩, ⟨0, (some 32), (.bin .and (.t 31) (.c (.int .u64
  4294967295))), none⟩, ⟨0, (some 12), (.mv (.t 32)), none⟩]) (.seq (.reg [] false [⟨0, (some 33), (.mv (.t 11)), none⟩, ⟨0, (some 34), (.bin .shr (.t 33) (.c
  (.int .u64 32))), none⟩, ⟨0, (some 13), (.mv (.t 34)), none⟩]) (.seq (.reg [] false [⟨0, (some 35), (.mv (.t 12)), none⟩, ⟨0, (some 36), (.mv (.t 6)),
  none⟩, ⟨0, (some 37), (.mv (.t 9)), none⟩, ⟨0, (some 38), (.bin .mul (.t 36) (.t 37)), none⟩, ⟨0, (some 39), (.bin .add (.t 35) (.t 38)), none⟩, ⟨0, (some
  12), (.mv (.t 39)), none⟩]) (.seq (.reg [] false [⟨0, (some 40), (.mv (.t 7)), none⟩, ⟨0, (some 41), (.mv (.t 9)), none⟩, ⟨0, (some 42), (.bin .mul (.t 40)
  (.t 41)), none⟩, ⟨0, (some 43), (.mv (.t 13)), none⟩, ⟨0, (some 44), (.bin .add (.t 42) (.t 43)), none⟩, ⟨0, (some 45), (.mv (.t 12)), none⟩, ⟨0, (some 46),
  (.bin .shr (.t 45) (.c (.int .u64 32))), none⟩, ⟨0, (some 47), (.bin .add (.t 44) (.t 46)), none⟩, ⟨0, (some 4), (.mv (.t 47)), none⟩]) (.seq (.reg [] false
  [⟨0, (some 48), (.mv (.t 0)), none⟩, ⟨0, (some 49), (.mv (.t 1)), none⟩, ⟨0, (some 50), (.bin .mul (.t 48) (.t 49)), none⟩, ⟨0, (some 5), (.mv (.t 50)),
  none⟩]) .ret))))))))))))⟩
theorem is78 : FnIs prog 78 x78.fn := ⟨fun vs w => call78 vs w, _, _, func78, rfl, rfl, by kernel_rfl, by kernel_rfl⟩
theorem ok78 : okX x78.body = true := by kernel_rfl
theorem st78 : sitesP x78 x78.body := (sitesP_of rfl)

def x79l0 : XCode :=
  (.loop [0, 1, 7, 8] (.seq (.reg [] false [⟨0, (some 9), (.bin .lss (.t 8) (.t 7)), none⟩]) (.seq (.cond (.t 9) .skip (.exit 0)) (.seq (.block 1 (.seq (.reg []
  false [⟨0, (some 10), (.mv (.t 8)), none⟩, ⟨0, (some 5), (.mv (.t 10)), none⟩]) (.seq (.reg [] false [⟨0, (some 11), (.mv (.t 1)), none⟩, ⟨0, (some 12),
  (.mv (.t 0)), none⟩, ⟨0, (some 13), (.mv (.t 5)), none⟩, ⟨0, (some 14), (.idx 1 (.t 12) (.t 13)), none⟩, ⟨0, (some 15), (.load false 1 (.t 14)), none⟩, ⟨0,
  (some 16), (.bin .eql (.t 11) (.t 15)), none⟩]) (.cond (.t 16) (.seq (.reg [] false [⟨0, (some 17), (.mv (.t 5)), none⟩, ⟨0, (some 4), (.mv (.t 17)),
  none⟩]) .ret) .skip)))) (.reg [] false [⟨0, (some 18), (.bin .add (.t 8) (.c (.int .i64 1))), none⟩, ⟨0, (some 8), (.mv (.t 18)), none⟩])))))
/-- slices.Index of  of int,int -/
def x79 : XFn := ⟨19, [(4, none)], false, false,
  (.seq (.reg [] false [⟨0, (some 4), (.mv (.c (.int .i64 0))), none⟩]) (.seq (.seq (.reg [] false [⟨0, (some 6), (.mv (.t 0)), none⟩, ⟨0, (some 7), (.len false
  (.t 6)), none⟩, ⟨0, (some 8), (.mv (.c (.int .i64 0))), none⟩]) (.block 0 x79l0)) (.seq (.reg [] false [⟨0, (some 4), (.mv (.c (.int .i64 (-1)))), none⟩])
  .ret)))⟩
theorem is79 : FnIs prog 79 x79.fn := ⟨fun vs w => call79 vs w, _, _, func79, rfl, rfl, by kernel_rfl, by kernel_rfl⟩
theorem ok79 : okX x79.body = true := by kernel_rfl
theorem st79 : sitesP x79 x79.body := (sitesP_of rfl)

def x80l0 : XCode :=
  (.loop [0, 1, 7, 8] (.seq (.reg [] false [⟨0, (some 9), (.bin .lss (.t 8) (.t 7)), none⟩]) (.seq (.cond (.t 9) .skip (.exit 0)) (.seq (.block 1 (.seq (.reg []
  false [⟨0, (some 10), (.mv (.t 8)), none⟩, ⟨0, (some 5), (.mv (.t 10)), none⟩]) (.seq (.reg [] false [⟨0, (some 11), (.mv (.t 1)), none⟩, ⟨0, (some 12),
  (.mv (.t 0)), none⟩, ⟨0, (some 13), (.mv (.t 5)), none⟩, ⟨0, (some 14), (.idx 1 (.t 12) (.t 13)), none⟩, ⟨0, (some 15), (.load false 1 (.t 14)), none⟩, ⟨0,
  (some 16), (.callf false (.t 11) [(.t 15)] []), none⟩]) (.cond (.t 16) (.seq (.reg [] false [⟨0, (some 17), (.mv (.t 5)), none⟩, ⟨0, (some 4), (.mv (.t
  17)), none⟩]) .ret) .skip)))) (.reg [] false [⟨0, (some 18), (.bin .add (.t 8) (.c (.int .i64 1))), none⟩, ⟨0, (some 8), (.mv (.t 18)), none⟩])))))
/-- slices.IndexFunc of  of int,int -/
def x80 : XFn := ⟨19, [(4, none)], false, false,
  (.seq (.reg [] false [⟨0, (some 4), (.mv (.c (.int .i64 0))), none⟩]) (.seq (.seq (.reg [] false [⟨0, (some 6), (.mv (.t 0)), none⟩, ⟨0, (some 7), (.len false
  (.t 6)), none⟩, ⟨0, (some 8), (.mv (.c (.int .i64 0))), none⟩]) (.block 0 x80l0)) (.seq (.reg [] false [⟨0, (some 4), (.mv (.c (.int .i64 (-1)))), none⟩])
  .ret)))⟩
theorem is80 : FnIs prog 80 x80.fn := ⟨fun vs w => call80 vs w, _, _, func80, rfl, rfl, by kernel_rfl, by kernel_rfl⟩
theorem ok80 : okX x80.body = true := by kernel_rfl
theorem st80 : sitesP x80 x80.body := (sitesP_of rfl)

end Go.Proofs.Ytdbikamciedfdaa
end
