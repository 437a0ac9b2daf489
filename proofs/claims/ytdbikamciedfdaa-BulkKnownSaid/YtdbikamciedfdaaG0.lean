/- The functions of the program as they are read, with remarks, part 0. No statement of the seed is proved here. -/
import Derived.KernelRfl
import Derived.Test.YtdbikamciedfdaaXE
import Derived.Test.YtdbikamciedfdaaProg
set_option maxRecDepth 100000
namespace Go.Proofs.Ytdbikamciedfdaa
open Go Go.DL Go.Proofs.Try

/-- zafra/zafralaw01.BulkPlants -/
def x3 : XFn := ⟨90, [(6, none)], false, false,
  (.seq (.reg [] false [⟨0, (some 4), (.box (.t 1)), none⟩, ⟨0, (some 6), (.mv (.c (.bool false))), none⟩]) (.seq (.seq (.reg [] false [⟨0, (some 15), (.mv (.t
  0)), none⟩, ⟨0, (some 16), (.len true (.t 15)), none⟩, ⟨0, (some 17), (.bin .gtr (.t 16) (.c (.int .i64 100))), none⟩, ⟨0, (some 18), (.mv (.t 17)), none⟩,
  ⟨0, (some 19), (.fld 1 (.t 4)), (some (18, false))⟩, ⟨0, (some 20), (.load false 1 (.t 19)), (some (18, false))⟩, ⟨0, (some 21), (.len false (.t 20)), (some
  (18, false))⟩, ⟨0, (some 22), (.bin .gtr (.t 21) (.c (.int .i64 40))), (some (18, false))⟩, ⟨0, (some 23), (.pick (.t 18) (.c (.bool true)) (.t 22)), none⟩,
  ⟨0, (some 24), (.mv (.t 23)), none⟩, ⟨0, (some 25), (.mv (.t 2)), (some (24, false))⟩, ⟨0, (some 26), (.len false (.t 25)), (some (24, false))⟩, ⟨0, (some
  27), (.bin .gtr (.t 26) (.c (.int .i64 40))), (some (24, false))⟩, ⟨0, (some 28), (.pick (.t 24) (.c (.bool true)) (.t 27)), none⟩]) (.cond (.t 28) (.seq
  (.reg [] false [⟨0, (some 29), (.callf false (.c (.fn (.func 12) [] [])) [] []), none⟩, ⟨0, (some 6), (.mv (.t 29)), none⟩]) .ret) .skip)) (.seq (.reg [(4,
  true)] false [⟨0, (some 31), (.load true 2 (.t 4)), none⟩, ⟨0, (some 32), (.callf false (.c (.fn (.func 13) [] [])) [(.t 31)] []), none⟩, ⟨0, (some 30),
  (.mv (.t 32)), none⟩, ⟨0, (some 33), (.ext (.t 30) 0), none⟩, ⟨0, (some 34), (.ext (.t 30) 1), none⟩, ⟨0, (some 7), (.mv (.t 33)), none⟩, ⟨0, (some 8), (.mv
  (.t 34)), none⟩]) (.seq (.reg [(4, true)] false [⟨0, (some 36), (.load true 2 (.t 4)), none⟩, ⟨0, (some 37), (.callf false (.c (.fn (.func 15) [] [])) [(.t
  36)] []), none⟩, ⟨0, (some 38), (.callf false (.c (.fn (.func 14) [] [])) [(.t 37)] []), none⟩, ⟨0, (some 35), (.mv (.t 38)), none⟩, ⟨0, (some 39), (.ext
  (.t 35) 0), none⟩, ⟨0, (some 40), (.ext (.t 35) 1), none⟩, ⟨0, (some 9), (.mv (.t 39)), none⟩, ⟨0, (some 10), (.mv (.t 40)), none⟩]) (.seq (.reg [(4, true),
  (2, false)] false [⟨0, (some 42), (.load true 2 (.t 4)), none⟩, ⟨0, (some 43), (.mv (.t 2)), none⟩, ⟨0, (some 44), (.callf false (.c (.fn (.func 16) [] []))
  [(.t 42), (.t 43)] []), none⟩, ⟨0, (some 41), (.mv (.t 44)), none⟩, ⟨0, (some 45), (.ext (.t 41) 0), none⟩, ⟨0, (some 46), (.ext (.t 41) 1), none⟩, ⟨0,
  (some 11), (.alloc [(.int .i64 0), (.int .i64 0), (.int .i64 0), (.int .i64 0)]), none⟩, ⟨0, none, (.store 4 (.t 11) (.t 45) []), none⟩, ⟨0, (some 12), (.mv
  (.t 46)), none⟩]) (.seq (.reg [(4, true), (2, false)] false [⟨0, (some 48), (.load true 2 (.t 4)), none⟩, ⟨0, (some 49), (.callf false (.c (.fn (.func 15)
  [] [])) [(.t 48)] []), none⟩, ⟨0, (some 50), (.mv (.t 2)), none⟩, ⟨0, (some 51), (.callf false (.c (.fn (.func 17) [] [])) [(.t 49), (.t 50)] []), none⟩,
  ⟨0, (some 47), (.mv (.t 51)), none⟩, ⟨0, (some 52), (.ext (.t 47) 0), none⟩, ⟨0, (some 53), (.ext (.t 47) 1), none⟩, ⟨0, (some 13), (.alloc [(.int .i64 0),
  (.int .i64 0), (.int .i64 0), (.int .i64 0)]), none⟩, ⟨0, none, (.store 4 (.t 13) (.t 52) []), none⟩, ⟨0, (some 14), (.mv (.t 53)), none⟩]) (.seq (.reg [(0,
  false), (4, true), (7, false), (9, false)] true [⟨0, (some 54), (.mv (.t 0)), none⟩, ⟨2, (some 56), (.mv (.t 0)), none⟩, ⟨1, (some 55), (.callf false (.c
  (.fn (.func 18) [] [])) [(.t 54)] []), none⟩, ⟨3, (some 57), (.callf false (.c (.fn (.func 19) [] [])) [(.t 56)] []), none⟩, ⟨4, (some 58), (.binb false (.t
  55) (.t 57)), none⟩, ⟨5, (some 59), (.mv (.t 58)), none⟩, ⟨6, (some 60), (.load true 2 (.t 4)), (some (59, true))⟩, ⟨8, (some 62), (.load true 2 (.t 4)),
  (some (59, true))⟩, ⟨7, (some 61), (.callf false (.c (.fn (.func 20) [] [])) [(.t 60)] [8]), (some (59, true))⟩, ⟨9, (some 63), (.callf false (.c (.fn
  (.func 15) [] [])) [(.t 62)] []), (some (59, true))⟩, ⟨10, (some 64), (.callf false (.c (.fn (.func 21) [] [])) [(.t 63)] []), (some (59, true))⟩, ⟨11,
  (some 65), (.bin .eql (.t 61) (.t 64)), (some (59, true))⟩, ⟨12, (some 66), (.pick (.t 59) (.t 65) (.c (.bool false))), none⟩, ⟨13, (some 67), (.mv (.t
  66)), none⟩, ⟨14, (some 68), (.mv (.t 7)), (some (67, true))⟩, ⟨15, (some 69), (.mv (.t 9)), (some (67, true))⟩, ⟨16, (some 70), (.callf false (.c (.fn
  (.func 22) [] [])) [(.t 68), (.t 69)] []), (some (67, true))⟩, ⟨17, (some 71), (.pick (.t 67) (.t 70) (.c (.bool false))), none⟩, ⟨18, (some 72), (.mv (.t
  71)), none⟩, ⟨19, (some 73), (.mv (.t 8)), (some (72, true))⟩, ⟨20, (some 74), (.mv (.t 10)), (some (72, true))⟩, ⟨21, (some 75), (.bin .eql (.t 73) (.t
  74)), (some (72, true))⟩, ⟨22, (some 76), (.pick (.t 72) (.t 75) (.c (.bool false))), none⟩, ⟨23, (some 77), (.mv (.t 76)), none⟩, ⟨24, (some 78), (.load
  true 4 (.t 11)), (some (77, true))⟩, ⟨25, (some 79), (.load true 4 (.t 13)), (some (77, true))⟩, ⟨26, (some 80), (.eqag false [0, 0, 0, 0] (.t 78) (.t 79)),
  (some (77, true))⟩, ⟨27, (some 81), (.pick (.t 77) (.t 80) (.c (.bool false))), none⟩, ⟨28, (some 82), (.mv (.t 81)), none⟩, ⟨29, (some 83), (.mv (.t 12)),
  (some (82, true))⟩, ⟨30, (some 84), (.mv (.t 14)), (some (82, true))⟩, ⟨31, (some 85), (.bin .eql (.t 83) (.t 84)), (some (82, true))⟩, ⟨32, (some 86),
  (.pick (.t 82) (.t 85) (.c (.bool false))), none⟩, ⟨33, (some 87), (.mv (.t 86)), none⟩, ⟨34, (some 88), (.callf false (.c (.fn (.func 12) [] [])) [] []),
  (some (87, true))⟩, ⟨35, (some 89), (.pick (.t 87) (.t 88) (.c (.bool false))), none⟩, ⟨36, (some 6), (.mv (.t 89)), none⟩]) .ret)))))))⟩
theorem is3 : FnIs prog 3 x3.fn := ⟨fun vs w => call3 vs w, _, _, func3, rfl, rfl, by kernel_rfl, by kernel_rfl⟩
theorem ok3 : okX x3.body = true := by kernel_rfl
theorem st3 : sitesP x3 x3.body := (sitesP_of rfl)

/-- zafra/zafralaw01.BulkCloses -/
def x4 : XFn := ⟨65, [(2, none)], false, false,
  (.seq (.reg [] false [⟨0, (some 1), (.box (.t 0)), none⟩, ⟨0, (some 2), (.mv (.c (.bool false))), none⟩]) (.seq (.seq (.reg [] false [⟨0, (some 8), (.fld 1
  (.t 1)), none⟩, ⟨0, (some 9), (.load false 1 (.t 8)), none⟩, ⟨0, (some 10), (.len false (.t 9)), none⟩, ⟨0, (some 11), (.bin .gtr (.t 10) (.c (.int .i64
  40))), none⟩]) (.cond (.t 11) (.seq (.reg [] false [⟨0, (some 12), (.callf false (.c (.fn (.func 12) [] [])) [] []), none⟩, ⟨0, (some 2), (.mv (.t 12)),
  none⟩]) .ret) .skip)) (.seq (.reg [(1, true)] false [⟨0, (some 14), (.load true 2 (.t 1)), none⟩, ⟨0, (some 15), (.callf false (.c (.fn (.func 23) [] []))
  [(.t 14)] []), none⟩, ⟨0, (some 13), (.mv (.t 15)), none⟩, ⟨0, (some 16), (.ext (.t 13) 0), none⟩, ⟨0, (some 17), (.ext (.t 13) 1), none⟩, ⟨0, (some 3),
  (.mv (.t 16)), none⟩, ⟨0, (some 4), (.mv (.t 17)), none⟩]) (.seq (.reg [(1, true)] false [⟨0, (some 19), (.load true 2 (.t 1)), none⟩, ⟨0, (some 20),
  (.callf false (.c (.fn (.func 15) [] [])) [(.t 19)] []), none⟩, ⟨0, (some 21), (.callf false (.c (.fn (.func 24) [] [])) [(.t 20)] []), none⟩, ⟨0, (some
  18), (.mv (.t 21)), none⟩, ⟨0, (some 22), (.ext (.t 18) 0), none⟩, ⟨0, (some 23), (.ext (.t 18) 1), none⟩, ⟨0, (some 5), (.mv (.t 22)), none⟩, ⟨0, (some 6),
  (.mv (.t 23)), none⟩]) (.seq (.seq (.reg [] false [⟨0, (some 24), (.mv (.t 3)), none⟩, ⟨0, (some 25), (.len false (.t 24)), none⟩, ⟨0, (some 26), (.mv (.t
  5)), none⟩, ⟨0, (some 27), (.len false (.t 26)), none⟩, ⟨0, (some 28), (.bin .neq (.t 25) (.t 27)), none⟩, ⟨0, (some 29), (.mv (.t 28)), none⟩, ⟨0, (some
  30), (.mv (.t 4)), (some (29, false))⟩, ⟨0, (some 31), (.mv (.t 6)), (some (29, false))⟩, ⟨0, (some 32), (.bin .neq (.t 30) (.t 31)), (some (29, false))⟩,
  ⟨0, (some 33), (.pick (.t 29) (.c (.bool true)) (.t 32)), none⟩]) (.cond (.t 33) (.seq (.reg [] false [⟨0, (some 2), (.mv (.c (.bool false))), none⟩]) .ret)
  .skip)) (.seq (.seq (.reg [] false [⟨0, (some 7), (.mv (.c (.int .i64 0))), none⟩]) (.block 0 (.loop [3, 5, 7] (.seq (.seq (.reg [] false [⟨0, (some 34),
  (.mv (.t 7)), none⟩, ⟨0, (some 35), (.mv (.t 3)), none⟩, ⟨0, (some 36), (.len false (.t 35)), none⟩, ⟨0, (some 37), (.bin .lss (.t 34) (.t 36)), none⟩])
  (.cond (.t 37) .skip (.exit 0))) (.seq (.block 1 (.seq (.reg [] true [⟨0, (some 40), (.mv (.t 3)), none⟩, ⟨1, (some 41), (.mv (.t 7)), none⟩, ⟨2, (some 42),
  (.idx 5 (.t 40) (.t 41)), none⟩, ⟨3, (some 43), (.fld 0 (.t 42)), none⟩, ⟨4, (some 44), (.load false 1 (.t 43)), none⟩, ⟨5, (some 45), (.mv (.t 5)), none⟩,
  ⟨6, (some 46), (.mv (.t 7)), none⟩, ⟨7, (some 47), (.idx 5 (.t 45) (.t 46)), none⟩, ⟨8, (some 48), (.fld 0 (.t 47)), none⟩, ⟨9, (some 49), (.load false 1
  (.t 48)), none⟩, ⟨10, (some 50), (.bin .neq (.t 44) (.t 49)), none⟩, ⟨11, (some 51), (.mv (.t 50)), none⟩, ⟨12, (some 52), (.mv (.t 3)), (some (51,
  false))⟩, ⟨13, (some 53), (.mv (.t 7)), (some (51, false))⟩, ⟨14, (some 54), (.idx 5 (.t 52) (.t 53)), (some (51, false))⟩, ⟨15, (some 55), (.fld 1 (.t
  54)), (some (51, false))⟩, ⟨16, (some 56), (.load true 4 (.t 55)), (some (51, false))⟩, ⟨17, (some 57), (.mv (.t 5)), (some (51, false))⟩, ⟨18, (some 58),
  (.mv (.t 7)), (some (51, false))⟩, ⟨19, (some 59), (.idx 5 (.t 57) (.t 58)), (some (51, false))⟩, ⟨20, (some 60), (.fld 1 (.t 59)), (some (51, false))⟩,
  ⟨21, (some 61), (.load true 4 (.t 60)), (some (51, false))⟩, ⟨22, (some 62), (.eqag true [0, 0, 0, 0] (.t 56) (.t 61)), (some (51, false))⟩, ⟨23, (some 63),
  (.pick (.t 51) (.c (.bool true)) (.t 62)), none⟩]) (.cond (.t 63) (.seq (.reg [] false [⟨0, (some 2), (.mv (.c (.bool false))), none⟩]) .ret) .skip))) (.reg
  [] false [⟨0, (some 38), (.mv (.t 7)), none⟩, ⟨0, (some 39), (.bin .add (.t 38) (.c (.int .i64 1))), none⟩, ⟨0, (some 7), (.mv (.t 39)), none⟩])))))) (.seq
  (.reg [] false [⟨0, (some 64), (.callf false (.c (.fn (.func 12) [] [])) [] []), none⟩, ⟨0, (some 2), (.mv (.t 64)), none⟩]) .ret)))))))⟩
theorem is4 : FnIs prog 4 x4.fn := ⟨fun vs w => call4 vs w, _, _, func4, rfl, rfl, by kernel_rfl, by kernel_rfl⟩
theorem ok4 : okX x4.body = true := by kernel_rfl
theorem st4 : sitesP x4 x4.body := (sitesP_of rfl)

/-- zafra/zafralaw01.BulkProves -/
def x5 : XFn := ⟨77, [(6, none)], false, false,
  (.seq (.reg [] false [⟨0, (some 3), (.box (.t 0)), none⟩, ⟨0, (some 6), (.mv (.c (.bool false))), none⟩]) (.seq (.seq (.reg [] false [⟨0, (some 14), (.fld 1
  (.t 3)), none⟩, ⟨0, (some 15), (.load false 1 (.t 14)), none⟩, ⟨0, (some 16), (.len false (.t 15)), none⟩, ⟨0, (some 17), (.bin .gtr (.t 16) (.c (.int .i64
  40))), none⟩, ⟨0, (some 18), (.mv (.t 17)), none⟩, ⟨0, (some 19), (.mv (.t 1)), (some (18, false))⟩, ⟨0, (some 20), (.len false (.t 19)), (some (18,
  false))⟩, ⟨0, (some 21), (.bin .gtr (.t 20) (.c (.int .i64 40))), (some (18, false))⟩, ⟨0, (some 22), (.pick (.t 18) (.c (.bool true)) (.t 21)), none⟩])
  (.cond (.t 22) (.seq (.reg [] false [⟨0, (some 23), (.callf false (.c (.fn (.func 12) [] [])) [] []), none⟩, ⟨0, (some 6), (.mv (.t 23)), none⟩]) .ret)
  .skip)) (.seq (.reg [(3, true)] false [⟨0, (some 24), (.load true 2 (.t 3)), none⟩, ⟨0, (some 25), (.callf false (.c (.fn (.func 15) [] [])) [(.t 24)] []),
  none⟩, ⟨0, (some 7), (.alloc [(.int .i64 0), .nilsl]), none⟩, ⟨0, none, (.store 2 (.t 7) (.t 25) []), none⟩]) (.seq (.reg [(3, true)] false [⟨0, (some 27),
  (.load true 2 (.t 3)), none⟩, ⟨0, (some 28), (.callf false (.c (.fn (.func 25) [] [])) [(.t 27)] []), none⟩, ⟨0, (some 26), (.mv (.t 28)), none⟩, ⟨0, (some
  29), (.ext (.t 26) 0), none⟩, ⟨0, (some 30), (.ext (.t 26) 1), none⟩, ⟨0, (some 31), (.ext (.t 26) 2), none⟩, ⟨0, (some 8), (.mv (.t 29)), none⟩, ⟨0, (some
  9), (.mv (.t 30)), none⟩, ⟨0, (some 10), (.mv (.t 31)), none⟩]) (.seq (.reg [(7, true)] false [⟨0, (some 33), (.load true 2 (.t 7)), none⟩, ⟨0, (some 34),
  (.callf false (.c (.fn (.func 26) [] [])) [(.t 33)] []), none⟩, ⟨0, (some 32), (.mv (.t 34)), none⟩, ⟨0, (some 35), (.ext (.t 32) 0), none⟩, ⟨0, (some 36),
  (.ext (.t 32) 1), none⟩, ⟨0, (some 37), (.ext (.t 32) 2), none⟩, ⟨0, (some 11), (.mv (.t 35)), none⟩, ⟨0, (some 12), (.mv (.t 36)), none⟩, ⟨0, (some 13),
  (.mv (.t 37)), none⟩]) (.seq (.seq (.reg [(7, true), (8, false)] false [⟨0, (some 38), (.mv (.t 10)), none⟩, ⟨0, (some 39), (.mv (.t 13)), none⟩, ⟨0, (some
  40), (.bin .neq (.t 38) (.t 39)), none⟩, ⟨0, (some 41), (.mv (.t 40)), none⟩, ⟨0, (some 42), (.mv (.t 10)), (some (41, false))⟩, ⟨0, (some 43), (.bin .neq
  (.t 42) (.c (.int .i64 0))), (some (41, false))⟩, ⟨0, (some 44), (.mv (.t 43)), (some (41, false))⟩, ⟨0, (some 45), (.mv (.t 8)), (some (44, true))⟩, ⟨0,
  (some 46), (.len false (.t 45)), (some (44, true))⟩, ⟨0, (some 47), (.bin .gtr (.t 46) (.c (.int .i64 0))), (some (44, true))⟩, ⟨0, (some 48), (.mv (.t
  47)), (some (44, true))⟩, ⟨0, (some 49), (.mv (.t 9)), (some (48, false))⟩, ⟨0, (some 50), (.bin .neq (.t 49) (.c (.int .i64 0))), (some (48, false))⟩, ⟨0,
  (some 51), (.pick (.t 48) (.c (.bool true)) (.t 50)), (some (44, true))⟩, ⟨0, (some 52), (.pick (.t 44) (.t 51) (.c (.bool false))), (some (41, false))⟩,
  ⟨0, (some 53), (.pick (.t 41) (.c (.bool true)) (.t 52)), none⟩, ⟨0, (some 54), (.mv (.t 53)), none⟩, ⟨0, (some 55), (.mv (.t 10)), (some (54, false))⟩, ⟨0,
  (some 56), (.bin .eql (.t 55) (.c (.int .i64 0))), (some (54, false))⟩, ⟨0, (some 57), (.mv (.t 56)), (some (54, false))⟩, ⟨0, (some 58), (.load true 2 (.t
  7)), (some (57, true))⟩, ⟨0, (some 59), (.mv (.t 8)), (some (57, true))⟩, ⟨0, (some 60), (.mv (.t 9)), (some (57, true))⟩, ⟨0, (some 61), (.callf false (.c
  (.fn (.func 27) [] [])) [(.t 58), (.t 59), (.t 60)] []), (some (57, true))⟩, ⟨0, (some 62), (.bin .neq (.t 61) (.c (.int .i64 0))), (some (57, true))⟩, ⟨0,
  (some 63), (.pick (.t 57) (.t 62) (.c (.bool false))), (some (54, false))⟩, ⟨0, (some 64), (.pick (.t 54) (.c (.bool true)) (.t 63)), none⟩]) (.cond (.t 64)
  (.seq (.reg [] false [⟨0, (some 6), (.mv (.c (.bool false))), none⟩]) .ret) .skip)) (.seq (.reg [(3, true), (1, false), (2, false), (7, true)] true [⟨0,
  (some 65), (.load true 2 (.t 3)), none⟩, ⟨1, (some 66), (.mv (.t 1)), none⟩, ⟨2, (some 67), (.mv (.t 2)), none⟩, ⟨4, (some 69), (.load true 2 (.t 7)),
  none⟩, ⟨5, (some 70), (.mv (.t 1)), none⟩, ⟨6, (some 71), (.mv (.t 2)), none⟩, ⟨3, (some 68), (.callf false (.c (.fn (.func 28) [] [])) [(.t 65), (.t 66),
  (.t 67)] [4]), none⟩, ⟨7, (some 72), (.callf false (.c (.fn (.func 27) [] [])) [(.t 69), (.t 70), (.t 71)] []), none⟩, ⟨8, (some 73), (.bin .eql (.t 68) (.t
  72)), none⟩, ⟨9, (some 74), (.mv (.t 73)), none⟩, ⟨10, (some 75), (.callf false (.c (.fn (.func 12) [] [])) [] []), (some (74, true))⟩, ⟨11, (some 76),
  (.pick (.t 74) (.t 75) (.c (.bool false))), none⟩, ⟨12, (some 6), (.mv (.t 76)), none⟩]) .ret)))))))⟩
theorem is5 : FnIs prog 5 x5.fn := ⟨fun vs w => call5 vs w, _, _, func5, rfl, rfl, by kernel_rfl, by kernel_rfl⟩
theorem ok5 : okX x5.body = true := by kernel_rfl
theorem st5 : sitesP x5 x5.body := (sitesP_of rfl)

/-- zafra/zafralaw01.BulkClash -/
def x6 : XFn := ⟨215, [(6, none)], false, false,
  (.seq (.reg [] false [⟨0, (some 3), (.box (.t 0)), none⟩, ⟨0, (some 6), (.mv (.c (.bool false))), none⟩]) (.seq (.reg [(3, true)] false [⟨0, (some 28), (.load
  true 4 (.t 3)), none⟩, ⟨0, (some 29), (.callf false (.c (.fn (.func 29) [] [])) [(.t 28)] []), none⟩, ⟨0, (some 27), (.mv (.t 29)), none⟩, ⟨0, (some 30),
  (.ext (.t 27) 0), none⟩, ⟨0, (some 31), (.ext (.t 27) 1), none⟩, ⟨0, (some 7), (.alloc [(.int .i64 0), .nilsl]), none⟩, ⟨0, none, (.store 2 (.t 7) (.t 30)
  []), none⟩, ⟨0, (some 8), (.mv (.t 31)), none⟩]) (.seq (.reg [] false [⟨0, (some 32), (.mv (.t 1)), none⟩, ⟨0, (some 33), (.conv .i64 (.t 32)), none⟩, ⟨0,
  (some 34), (.fld 1 (.t 7)), none⟩, ⟨0, (some 35), (.load false 1 (.t 34)), none⟩, ⟨0, (some 36), (.len false (.t 35)), none⟩, ⟨0, (some 37), (.bin .rem (.t
  33) (.t 36)), none⟩, ⟨0, (some 9), (.mv (.t 37)), none⟩]) (.seq (.seq (.reg [] false [⟨0, (some 38), (.fld 1 (.t 7)), none⟩, ⟨0, (some 39), (.load false 1
  (.t 38)), none⟩, ⟨0, (some 40), (.mv (.t 9)), none⟩, ⟨0, (some 41), (.idx 7 (.t 39) (.t 40)), none⟩, ⟨0, (some 42), (.fld 2 (.t 41)), none⟩, ⟨0, (some 43),
  (.load false 1 (.t 42)), none⟩]) (.cond (.t 43) (.reg [] true [⟨0, (some 44), (.fld 1 (.t 7)), none⟩, ⟨1, (some 45), (.load false 1 (.t 44)), none⟩, ⟨2,
  (some 46), (.mv (.t 9)), none⟩, ⟨3, (some 47), (.mv (.t 2)), none⟩, ⟨4, (some 48), (.conv .i64 (.t 47)), none⟩, ⟨5, (some 49), (.bin .rem (.t 48) (.c (.int
  .i64 4))), none⟩, ⟨6, (some 50), (.idx 7 (.t 45) (.t 46)), none⟩, ⟨7, (some 51), (.fld 3 (.t 50)), none⟩, ⟨8, (some 52), (.idxa 4 1 (.t 51) (.t 49)), none⟩,
  ⟨9, (some 53), (.load false 1 (.t 52)), none⟩, ⟨10, (some 54), (.mv (.t 2)), none⟩, ⟨11, (some 55), (.conv .i64 (.t 54)), none⟩, ⟨12, (some 56), (.bin .quo
  (.t 55) (.c (.int .i64 4))), none⟩, ⟨13, (some 57), (.bin .add (.c (.int .i64 1)) (.t 56)), none⟩, ⟨14, (some 58), (.bin .add (.t 53) (.t 57)), none⟩, ⟨15,
  (some 59), (.idx 7 (.t 45) (.t 46)), none⟩, ⟨16, (some 60), (.fld 3 (.t 59)), none⟩, ⟨17, (some 61), (.idxa 4 1 (.t 60) (.t 49)), none⟩, ⟨18, none, (.store
  1 (.t 61) (.t 58) []), none⟩]) .skip)) (.seq (.reg [(7, true)] false [⟨0, (some 63), (.load true 2 (.t 7)), none⟩, ⟨0, (some 64), (.callf false (.c (.fn
  (.func 13) [] [])) [(.t 63)] []), none⟩, ⟨0, (some 62), (.mv (.t 64)), none⟩, ⟨0, (some 65), (.ext (.t 62) 0), none⟩, ⟨0, (some 66), (.ext (.t 62) 1),
  none⟩, ⟨0, (some 10), (.mv (.t 65)), none⟩, ⟨0, (some 11), (.mv (.t 66)), none⟩]) (.seq (.seq (.reg [] false [⟨0, (some 67), (.mv (.t 11)), none⟩, ⟨0, (some
  68), (.bin .neq (.t 67) (.c (.int .i64 0))), none⟩, ⟨0, (some 69), (.mv (.t 68)), none⟩, ⟨0, (some 70), (.mv (.t 10)), (some (69, false))⟩, ⟨0, (some 71),
  (.len false (.t 70)), (some (69, false))⟩, ⟨0, (some 72), (.fld 0 (.t 7)), (some (69, false))⟩, ⟨0, (some 73), (.load false 1 (.t 72)), (some (69, false))⟩,
  ⟨0, (some 74), (.bin .neq (.t 71) (.t 73)), (some (69, false))⟩, ⟨0, (some 75), (.pick (.t 69) (.c (.bool true)) (.t 74)), none⟩]) (.cond (.t 75) (.seq
  (.reg [] false [⟨0, (some 6), (.mv (.c (.bool false))), none⟩]) .ret) .skip)) (.seq (.reg [] false [⟨0, (some 12), (.mv (.c (.bool false))), none⟩]) (.seq
  (.reg [] false [⟨0, (some 13), (.mv (.c (.int .i64 0))), none⟩]) (.seq (.seq (.reg [] false [⟨0, (some 14), (.mv (.c (.int .i64 0))), none⟩]) (.block 0
  (.loop [7, 10, 12, 13, 14] (.seq (.seq (.reg [] false [⟨0, (some 76), (.mv (.t 14)), none⟩, ⟨0, (some 77), (.fld 0 (.t 7)), none⟩, ⟨0, (some 78), (.load
  false 1 (.t 77)), none⟩, ⟨0, (some 79), (.bin .lss (.t 76) (.t 78)), none⟩]) (.cond (.t 79) .skip (.exit 0))) (.seq (.block 1 (.seq (.reg [] false [⟨0,
  (some 82), (.mv (.t 14)), none⟩, ⟨0, (some 15), (.mv (.t 82)), none⟩]) (.seq (.seq (.reg [] false [⟨0, (some 83), (.mv (.t 14)), none⟩, ⟨0, (some 16), (.mv
  (.t 83)), none⟩]) (.block 2 (.loop [7, 10, 12, 13, 14, 15, 16] (.seq (.seq (.reg [] false [⟨0, (some 84), (.mv (.t 16)), none⟩, ⟨0, (some 85), (.bin .geq
  (.t 84) (.c (.int .i64 0))), none⟩]) (.cond (.t 85) .skip (.exit 2))) (.seq (.block 3 (.seq (.reg [(7, true)] false [⟨0, (some 88), (.load true 2 (.t 7)),
  none⟩, ⟨0, (some 89), (.mv (.t 14)), none⟩, ⟨0, (some 90), (.mv (.t 16)), none⟩, ⟨0, (some 91), (.callf false (.c (.fn (.func 30) [] [])) [(.t 88), (.t 89),
  (.t 90), (.c (.int .i64 (-1)))] []), none⟩]) (.cond (.t 91) (.reg [] false [⟨0, (some 92), (.mv (.t 16)), none⟩, ⟨0, (some 15), (.mv (.t 92)), none⟩])
  .skip))) (.reg [] false [⟨0, (some 86), (.mv (.t 16)), none⟩, ⟨0, (some 87), (.bin .sub (.t 86) (.c (.int .i64 1))), none⟩, ⟨0, (some 16), (.mv (.t 87)),
  none⟩])))))) (.seq (.block 4 (.seq (.reg [(7, true)] false [⟨0, (some 94), (.load true 2 (.t 7)), none⟩, ⟨0, (some 95), (.mv (.t 14)), none⟩, ⟨0, (some 96),
  (.callf false (.c (.fn (.func 30) [] [])) [(.t 94), (.t 95), (.c (.int .i64 (-1))), (.c (.int .i64 (-1)))] []), none⟩, ⟨0, (some 93), (.mv (.t 96)), none⟩])
  (.cond (.t 93) (.seq (.seq (.reg [] false [⟨0, (some 97), (.mv (.t 10)), none⟩, ⟨0, (some 98), (.mv (.t 14)), none⟩, ⟨0, (some 99), (.idx 1 (.t 97) (.t
  98)), none⟩, ⟨0, (some 100), (.load false 1 (.t 99)), none⟩, ⟨0, (some 101), (.bin .neq (.t 100) (.c (.int .i64 (-1)))), none⟩]) (.cond (.t 101) (.seq (.reg
  [] false [⟨0, (some 6), (.mv (.c (.bool false))), none⟩]) .ret) .skip)) (.exit 1)) (.seq (.reg [] false [⟨0, (some 103), (.mv (.t 15)), none⟩, ⟨0, (some
  104), (.mv (.t 14)), none⟩, ⟨0, (some 105), (.bin .lss (.t 103) (.t 104)), none⟩, ⟨0, (some 102), (.mv (.t 105)), none⟩]) (.cond (.t 102) (.seq (.seq (.reg
  [] true [⟨0, (some 106), (.mv (.t 10)), none⟩, ⟨1, (some 107), (.mv (.t 14)), none⟩, ⟨2, (some 108), (.idx 1 (.t 106) (.t 107)), none⟩, ⟨3, (some 109),
  (.load false 1 (.t 108)), none⟩, ⟨4, (some 110), (.mv (.t 10)), none⟩, ⟨5, (some 111), (.mv (.t 15)), none⟩, ⟨6, (some 112), (.idx 1 (.t 110) (.t 111)),
  none⟩, ⟨7, (some 113), (.load false 1 (.t 112)), none⟩, ⟨8, (some 114), (.bin .neq (.t 109) (.t 113)), none⟩]) (.cond (.t 114) (.seq (.reg [] false [⟨0,
  (some 6), (.mv (.c (.bool false))), none⟩]) .ret) .skip)) (.exit 1)) (.seq (.reg [] false [⟨0, (some 116), (.mv (.t 10)), none⟩, ⟨0, (some 117), (.mv (.t
  14)), none⟩, ⟨0, (some 118), (.idx 1 (.t 116) (.t 117)), none⟩, ⟨0, (some 119), (.load false 1 (.t 118)), none⟩, ⟨0, (some 120), (.mv (.t 13)), none⟩, ⟨0,
  (some 121), (.bin .neq (.t 119) (.t 120)), none⟩, ⟨0, (some 115), (.mv (.t 121)), none⟩]) (.cond (.t 115) (.seq (.reg [] false [⟨0, (some 6), (.mv (.c
  (.bool false))), none⟩]) .ret) .skip))))))) (.seq (.reg [] false [⟨0, (some 122), (.mv (.t 13)), none⟩, ⟨0, (some 123), (.bin .add (.t 122) (.c (.int .i64
  1))), none⟩, ⟨0, (some 13), (.mv (.t 123)), none⟩]) (.seq (.reg [] false [⟨0, (some 17), (.mv (.c .nilsl)), none⟩]) (.seq (.seq (.reg [] false [⟨0, (some
  124), (.mv (.t 14)), none⟩, ⟨0, (some 18), (.mv (.t 124)), none⟩]) (.block 5 (.loop [7, 10, 12, 13, 14, 17, 18] (.seq (.seq (.reg [] false [⟨0, (some 125),
  (.mv (.t 18)), none⟩, ⟨0, (some 126), (.fld 0 (.t 7)), none⟩, ⟨0, (some 127), (.load false 1 (.t 126)), none⟩, ⟨0, (some 128), (.bin .lss (.t 125) (.t
  127)), none⟩]) (.cond (.t 128) .skip (.exit 5))) (.seq (.block 6 (.seq (.reg [(7, true)] false [⟨0, (some 131), (.load true 2 (.t 7)), none⟩, ⟨0, (some
  132), (.mv (.t 14)), none⟩, ⟨0, (some 133), (.mv (.t 18)), none⟩, ⟨0, (some 134), (.callf false (.c (.fn (.func 30) [] [])) [(.t 131), (.t 132), (.t 133),
  (.c (.int .i64 (-1)))] []), none⟩]) (.cond (.t 134) (.reg [] false [⟨0, (some 135), (.mv (.t 17)), none⟩, ⟨0, (some 136), (.mv (.t 18)), none⟩, ⟨0, (some
  137), (.bslice 1 1 [(.int .i64 0)] [(0, (1, (.t 136)))]), none⟩, ⟨0, (some 138), (.app 1 8 (.t 135) (.t 137)), none⟩, ⟨0, (some 17), (.mv (.t 138)), none⟩])
  .skip))) (.reg [] false [⟨0, (some 129), (.mv (.t 18)), none⟩, ⟨0, (some 130), (.bin .add (.t 129) (.c (.int .i64 1))), none⟩, ⟨0, (some 18), (.mv (.t
  130)), none⟩])))))) (.seq (.reg [(7, true), (17, false)] false [⟨0, (some 140), (.load true 2 (.t 7)), none⟩, ⟨0, (some 141), (.mv (.t 17)), none⟩, ⟨0,
  (some 142), (.callf false (.c (.fn (.func 16) [] [])) [(.t 140), (.t 141)] []), none⟩, ⟨0, (some 139), (.mv (.t 142)), none⟩, ⟨0, (some 143), (.ext (.t 139)
  0), none⟩, ⟨0, (some 144), (.ext (.t 139) 1), none⟩, ⟨0, (some 19), (.alloc [(.int .i64 0), (.int .i64 0), (.int .i64 0), (.int .i64 0)]), none⟩, ⟨0, none,
  (.store 4 (.t 19) (.t 143) []), none⟩, ⟨0, (some 20), (.mv (.t 144)), none⟩]) (.seq (.seq (.reg [] false [⟨0, (some 145), (.mv (.t 20)), none⟩, ⟨0, (some
  146), (.bin .neq (.t 145) (.c (.int .i64 0))), none⟩]) (.cond (.t 146) (.seq (.reg [] false [⟨0, (some 6), (.mv (.c (.bool false))), none⟩]) .ret) .skip))
  (.seq (.seq (.reg [] false [⟨0, (some 147), (.load true 4 (.t 19)), none⟩, ⟨0, (some 148), (.mv (.c (.int .i64 0))), none⟩]) (.block 7 (.loop [7, 10, 12,
  13, 14, 17, 19, 147, 148] (.seq (.reg [] false [⟨0, (some 149), (.bin .lss (.t 148) (.c (.int .i64 4))), none⟩]) (.seq (.cond (.t 149) .skip (.exit 7))
  (.seq (.block 8 (.seq (.reg [] false [⟨0, (some 150), (.mv (.t 148)), none⟩, ⟨0, (some 151), (.idxv false 4 1 (.t 147) (.t 148)), none⟩, ⟨0, (some 21), (.mv
  (.t 150)), none⟩, ⟨0, (some 22), (.mv (.t 151)), none⟩]) (.seq (.reg [(7, true), (17, false)] false [⟨0, (some 152), (.load true 2 (.t 7)), none⟩, ⟨0, (some
  153), (.mv (.t 17)), none⟩, ⟨0, (some 154), (.mv (.t 21)), none⟩, ⟨0, (some 155), (.callf false (.c (.fn (.func 28) [] [])) [(.t 152), (.t 153), (.t 154)]
  []), none⟩, ⟨0, (some 156), (.bin .eql (.t 155) (.c (.int .i64 0))), none⟩, ⟨0, (some 157), (.mv (.t 22)), none⟩, ⟨0, (some 158), (.bin .neq (.t 157) (.c
  (.int .i64 0))), none⟩, ⟨0, (some 159), (.binb true (.t 156) (.t 158)), none⟩]) (.cond (.t 159) (.seq (.reg [] false [⟨0, (some 6), (.mv (.c (.bool
  false))), none⟩]) .ret) .skip)))) (.reg [] false [⟨0, (some 160), (.bin .add (.t 148) (.c (.int .i64 1))), none⟩, ⟨0, (some 148), (.mv (.t 160)),
  none⟩]))))))) (.reg [] false [⟨0, (some 161), (.mv (.t 12)), none⟩, ⟨0, (some 162), (.mv (.t 161)), none⟩, ⟨0, (some 163), (.load true 4 (.t 19)), (some
  (162, false))⟩, ⟨0, (some 164), (.build [(.int .i64 0), (.int .i64 0), (.int .i64 0), (.int .i64 0)] []), (some (162, false))⟩, ⟨0, (some 165), (.eqag true
  [0, 0, 0, 0] (.t 163) (.t 164)), (some (162, false))⟩, ⟨0, (some 166), (.pick (.t 162) (.c (.bool true)) (.t 165)), none⟩, ⟨0, (some 12), (.mv (.t 166)),
  none⟩]))))))))))) (.reg [] false [⟨0, (some 80), (.mv (.t 14)), none⟩, ⟨0, (some 81), (.bin .add (.t 80) (.c (.int .i64 1))), none⟩, ⟨0, (some 14), (.mv (.t
  81)), none⟩])))))) (.seq (.reg [(7, true)] false [⟨0, (some 168), (.load true 2 (.t 7)), none⟩, ⟨0, (some 169), (.callf false (.c (.fn (.func 23) [] []))
  [(.t 168)] []), none⟩, ⟨0, (some 167), (.mv (.t 169)), none⟩, ⟨0, (some 170), (.ext (.t 167) 0), none⟩, ⟨0, (some 171), (.ext (.t 167) 1), none⟩, ⟨0, (some
  23), (.mv (.t 170)), none⟩, ⟨0, (some 11), (.mv (.t 171)), none⟩]) (.seq (.reg [(7, true)] false [⟨0, (some 173), (.load true 2 (.t 7)), none⟩, ⟨0, (some
  174), (.callf false (.c (.fn (.func 25) [] [])) [(.t 173)] []), none⟩, ⟨0, (some 172), (.mv (.t 174)), none⟩, ⟨0, (some 175), (.ext (.t 172) 0), none⟩, ⟨0,
  (some 176), (.ext (.t 172) 1), none⟩, ⟨0, (some 177), (.ext (.t 172) 2), none⟩, ⟨0, (some 24), (.mv (.t 175)), none⟩, ⟨0, (some 25), (.mv (.t 176)), none⟩,
  ⟨0, (some 26), (.mv (.t 177)), none⟩]) (.seq (.seq (.reg [] false [⟨0, (some 178), (.mv (.t 12)), none⟩, ⟨0, (some 179), (.not (.t 178)), none⟩]) (.cond (.t
  179) (.seq (.reg [] false [⟨0, (some 180), (.mv (.t 11)), none⟩, ⟨0, (some 181), (.bin .eql (.t 180) (.c (.int .i64 0))), none⟩, ⟨0, (some 182), (.mv (.t
  181)), none⟩, ⟨0, (some 183), (.mv (.t 26)), (some (182, true))⟩, ⟨0, (some 184), (.bin .eql (.t 183) (.c (.int .i64 5))), (some (182, true))⟩, ⟨0, (some
  185), (.pick (.t 182) (.t 184) (.c (.bool false))), none⟩, ⟨0, (some 186), (.mv (.t 185)), none⟩, ⟨0, (some 187), (.mv (.t 24)), (some (186, true))⟩, ⟨0,
  (some 188), (.len false (.t 187)), (some (186, true))⟩, ⟨0, (some 189), (.bin .eql (.t 188) (.c (.int .i64 0))), (some (186, true))⟩, ⟨0, (some 190), (.pick
  (.t 186) (.t 189) (.c (.bool false))), none⟩, ⟨0, (some 191), (.mv (.t 190)), none⟩, ⟨0, (some 192), (.callf false (.c (.fn (.func 12) [] [])) [] []), (some
  (191, true))⟩, ⟨0, (some 193), (.pick (.t 191) (.t 192) (.c (.bool false))), none⟩, ⟨0, (some 6), (.mv (.t 193)), none⟩]) .ret) .skip)) (.seq (.reg [(7,
  true), (24, false), (25, false)] false [⟨0, (some 194), (.mv (.t 11)), none⟩, ⟨0, (some 195), (.bin .eql (.t 194) (.c (.int .i64 12))), none⟩, ⟨0, (some
  196), (.mv (.t 195)), none⟩, ⟨0, (some 197), (.mv (.t 23)), (some (196, true))⟩, ⟨0, (some 198), (.len false (.t 197)), (some (196, true))⟩, ⟨0, (some 199),
  (.bin .eql (.t 198) (.c (.int .i64 0))), (some (196, true))⟩, ⟨0, (some 200), (.pick (.t 196) (.t 199) (.c (.bool false))), none⟩, ⟨0, (some 201), (.mv (.t
  200)), none⟩, ⟨0, (some 202), (.mv (.t 26)), (some (201, true))⟩, ⟨0, (some 203), (.bin .eql (.t 202) (.c (.int .i64 0))), (some (201, true))⟩, ⟨0, (some
  204), (.pick (.t 201) (.t 203) (.c (.bool false))), none⟩, ⟨0, (some 205), (.mv (.t 204)), none⟩, ⟨0, (some 206), (.load true 2 (.t 7)), (some (205,
  true))⟩, ⟨0, (some 207), (.mv (.t 24)), (some (205, true))⟩, ⟨0, (some 208), (.mv (.t 25)), (some (205, true))⟩, ⟨0, (some 209), (.callf false (.c (.fn
  (.func 28) [] [])) [(.t 206), (.t 207), (.t 208)] []), (some (205, true))⟩, ⟨0, (some 210), (.bin .eql (.t 209) (.c (.int .i64 0))), (some (205, true))⟩,
  ⟨0, (some 211), (.pick (.t 205) (.t 210) (.c (.bool false))), none⟩, ⟨0, (some 212), (.mv (.t 211)), none⟩, ⟨0, (some 213), (.callf false (.c (.fn (.func
  12) [] [])) [] []), (some (212, true))⟩, ⟨0, (some 214), (.pick (.t 212) (.t 213) (.c (.bool false))), none⟩, ⟨0, (some 6), (.mv (.t 214)), none⟩])
  .ret)))))))))))))⟩
theorem is6 : FnIs prog 6 x6.fn := ⟨fun vs w => call6 vs w, _, _, func6, rfl, rfl, by kernel_rfl, by kernel_rfl⟩
theorem ok6 : okX x6.body = true := by kernel_rfl
theorem st6 : sitesP x6 x6.body := (sitesP_of rfl)

/-- zafra/zafralaw01.BulkProof -/
def x7 : XFn := ⟨135, [(8, none)], false, false,
  (.seq (.reg [] false [⟨0, (some 4), (.box (.t 0)), none⟩, ⟨0, (some 8), (.mv (.c (.bool false))), none⟩]) (.seq (.reg [(4, true)] false [⟨0, (some 21), (.load
  true 4 (.t 4)), none⟩, ⟨0, (some 22), (.callf false (.c (.fn (.func 29) [] [])) [(.t 21)] []), none⟩, ⟨0, (some 20), (.mv (.t 22)), none⟩, ⟨0, (some 23),
  (.ext (.t 20) 0), none⟩, ⟨0, (some 24), (.ext (.t 20) 1), none⟩, ⟨0, (some 9), (.alloc [(.int .i64 0), .nilsl]), none⟩, ⟨0, none, (.store 2 (.t 9) (.t 23)
  []), none⟩, ⟨0, (some 10), (.mv (.t 24)), none⟩]) (.seq (.seq (.reg [] false [⟨0, (some 25), (.mv (.t 1)), none⟩, ⟨0, (some 26), (.len false (.t 25)),
  none⟩, ⟨0, (some 27), (.mv (.c (.int .i64 0))), none⟩]) (.block 0 (.loop [2, 3, 9, 25, 26, 27] (.seq (.reg [] false [⟨0, (some 28), (.bin .lss (.t 27) (.t
  26)), none⟩]) (.seq (.cond (.t 28) .skip (.exit 0)) (.seq (.block 1 (.seq (.reg [] false [⟨0, (some 29), (.mv (.t 27)), none⟩, ⟨0, (some 30), (.idx 1 (.t
  25) (.t 27)), none⟩, ⟨0, (some 31), (.load false 1 (.t 30)), none⟩, ⟨0, (some 11), (.mv (.t 29)), none⟩, ⟨0, (some 12), (.mv (.t 31)), none⟩]) (.seq (.reg
  [] false [⟨0, (some 32), (.mv (.t 11)), none⟩, ⟨0, (some 33), (.fld 1 (.t 9)), none⟩, ⟨0, (some 34), (.load false 1 (.t 33)), none⟩, ⟨0, (some 35), (.len
  false (.t 34)), none⟩, ⟨0, (some 36), (.bin .lss (.t 32) (.t 35)), none⟩, ⟨0, (some 37), (.mv (.t 36)), none⟩, ⟨0, (some 38), (.fld 1 (.t 9)), (some (37,
  true))⟩, ⟨0, (some 39), (.load false 1 (.t 38)), (some (37, true))⟩, ⟨0, (some 40), (.mv (.t 11)), (some (37, true))⟩, ⟨0, (some 41), (.idx 7 (.t 39) (.t
  40)), (some (37, true))⟩, ⟨0, (some 42), (.fld 2 (.t 41)), (some (37, true))⟩, ⟨0, (some 43), (.load false 1 (.t 42)), (some (37, true))⟩, ⟨0, (some 44),
  (.pick (.t 37) (.t 43) (.c (.bool false))), none⟩]) (.cond (.t 44) (.reg [] false [⟨0, (some 45), (.fld 1 (.t 9)), none⟩, ⟨0, (some 46), (.load false 1 (.t
  45)), none⟩, ⟨0, (some 47), (.mv (.t 11)), none⟩, ⟨0, (some 48), (.mv (.t 11)), none⟩, ⟨0, (some 49), (.bin .rem (.t 48) (.c (.int .i64 4))), none⟩, ⟨0,
  (some 50), (.mv (.t 12)), none⟩, ⟨0, (some 51), (.conv .i64 (.t 50)), none⟩, ⟨0, (some 52), (.idx 7 (.t 46) (.t 47)), none⟩, ⟨0, (some 53), (.fld 3 (.t
  52)), none⟩, ⟨0, (some 54), (.idxa 4 1 (.t 53) (.t 49)), none⟩, ⟨0, none, (.store 1 (.t 54) (.t 51) []), none⟩]) .skip)))) (.reg [] false [⟨0, (some 55),
  (.bin .add (.t 27) (.c (.int .i64 1))), none⟩, ⟨0, (some 27), (.mv (.t 55)), none⟩]))))))) (.seq (.reg [] false [⟨0, (some 13), (.mv (.c .nilsl)), none⟩])
  (.seq (.seq (.reg [] false [⟨0, (some 14), (.mv (.c (.int .i64 0))), none⟩]) (.block 2 (.loop [2, 3, 9, 13, 14] (.seq (.seq (.reg [] false [⟨0, (some 56),
  (.mv (.t 14)), none⟩, ⟨0, (some 57), (.fld 0 (.t 9)), none⟩, ⟨0, (some 58), (.load false 1 (.t 57)), none⟩, ⟨0, (some 59), (.bin .lss (.t 56) (.t 58)),
  none⟩]) (.cond (.t 59) .skip (.exit 2))) (.seq (.block 3 (.seq (.reg [] false [⟨0, (some 62), (.mv (.t 2)), none⟩, ⟨0, (some 63), (.mv (.t 14)), none⟩, ⟨0,
  (some 64), (.bin .shr (.t 62) (.t 63)), none⟩, ⟨0, (some 65), (.bin .and (.t 64) (.c (.int .u8 1))), none⟩, ⟨0, (some 66), (.bin .eql (.t 65) (.c (.int .u8
  1))), none⟩]) (.cond (.t 66) (.reg [] false [⟨0, (some 67), (.mv (.t 13)), none⟩, ⟨0, (some 68), (.mv (.t 14)), none⟩, ⟨0, (some 69), (.bslice 1 1 [(.int
  .i64 0)] [(0, (1, (.t 68)))]), none⟩, ⟨0, (some 70), (.app 1 8 (.t 67) (.t 69)), none⟩, ⟨0, (some 13), (.mv (.t 70)), none⟩]) .skip))) (.reg [] false [⟨0,
  (some 60), (.mv (.t 14)), none⟩, ⟨0, (some 61), (.bin .add (.t 60) (.c (.int .i64 1))), none⟩, ⟨0, (some 14), (.mv (.t 61)), none⟩])))))) (.seq (.seq (.reg
  [] false [⟨0, (some 71), (.mv (.t 13)), none⟩, ⟨0, (some 72), (.len false (.t 71)), none⟩, ⟨0, (some 73), (.bin .eql (.t 72) (.c (.int .i64 0))), none⟩])
  (.cond (.t 73) (.seq (.reg [(9, true), (13, false)] false [⟨0, (some 74), (.load true 2 (.t 9)), none⟩, ⟨0, (some 75), (.mv (.t 13)), none⟩, ⟨0, (some 76),
  (.mv (.t 3)), none⟩, ⟨0, (some 77), (.conv .i64 (.t 76)), none⟩, ⟨0, (some 78), (.bin .rem (.t 77) (.c (.int .i64 4))), none⟩, ⟨0, (some 79), (.callf false
  (.c (.fn (.func 28) [] [])) [(.t 74), (.t 75), (.t 78)] []), none⟩, ⟨0, (some 80), (.bin .eql (.t 79) (.c (.int .i64 4))), none⟩, ⟨0, (some 81), (.mv (.t
  80)), none⟩, ⟨0, (some 82), (.callf false (.c (.fn (.func 12) [] [])) [] []), (some (81, true))⟩, ⟨0, (some 83), (.pick (.t 81) (.t 82) (.c (.bool false))),
  none⟩, ⟨0, (some 8), (.mv (.t 83)), none⟩]) .ret) .skip)) (.seq (.reg [(9, true), (13, false)] false [⟨0, (some 84), (.load true 2 (.t 9)), none⟩, ⟨0, (some
  85), (.mv (.t 13)), none⟩, ⟨0, (some 86), (.mv (.t 3)), none⟩, ⟨0, (some 87), (.conv .i64 (.t 86)), none⟩, ⟨0, (some 88), (.bin .rem (.t 87) (.c (.int .i64
  4))), none⟩, ⟨0, (some 89), (.callf false (.c (.fn (.func 28) [] [])) [(.t 84), (.t 85), (.t 88)] []), none⟩, ⟨0, (some 15), (.mv (.t 89)), none⟩]) (.seq
  (.reg [(9, true)] false [⟨0, (some 91), (.load true 2 (.t 9)), none⟩, ⟨0, (some 92), (.callf false (.c (.fn (.func 23) [] [])) [(.t 91)] []), none⟩, ⟨0,
  (some 90), (.mv (.t 92)), none⟩, ⟨0, (some 93), (.ext (.t 90) 0), none⟩, ⟨0, (some 94), (.ext (.t 90) 1), none⟩, ⟨0, (some 16), (.mv (.t 93)), none⟩, ⟨0,
  (some 17), (.mv (.t 94)), none⟩]) (.seq (.reg [(9, true), (13, false)] false [⟨0, (some 96), (.load true 2 (.t 9)), none⟩, ⟨0, (some 97), (.mv (.t 13)),
  none⟩, ⟨0, (some 98), (.callf false (.c (.fn (.func 16) [] [])) [(.t 96), (.t 97)] []), none⟩, ⟨0, (some 95), (.mv (.t 98)), none⟩, ⟨0, (some 99), (.ext (.t
  95) 0), none⟩, ⟨0, (some 100), (.ext (.t 95) 1), none⟩, ⟨0, (some 18), (.alloc [(.int .i64 0), (.int .i64 0), (.int .i64 0), (.int .i64 0)]), none⟩, ⟨0,
  none, (.store 4 (.t 18) (.t 99) []), none⟩, ⟨0, (some 19), (.mv (.t 100)), none⟩]) (.seq (.seq (.reg [] false [⟨0, (some 101), (.mv (.t 19)), none⟩, ⟨0,
  (some 102), (.bin .neq (.t 101) (.c (.int .i64 0))), none⟩, ⟨0, (some 103), (.mv (.t 102)), none⟩, ⟨0, (some 104), (.mv (.t 15)), (some (103, false))⟩, ⟨0,
  (some 105), (.bin .neq (.t 104) (.c (.int .i64 0))), (some (103, false))⟩, ⟨0, (some 106), (.mv (.t 105)), (some (103, false))⟩, ⟨0, (some 107), (.mv (.t
  15)), (some (106, true))⟩, ⟨0, (some 108), (.bin .neq (.t 107) (.c (.int .i64 11))), (some (106, true))⟩, ⟨0, (some 109), (.pick (.t 106) (.t 108) (.c
  (.bool false))), (some (103, false))⟩, ⟨0, (some 110), (.pick (.t 103) (.c (.bool true)) (.t 109)), none⟩]) (.cond (.t 110) (.seq (.reg [] false [⟨0, (some
  8), (.mv (.c (.bool false))), none⟩]) .ret) .skip)) (.seq (.seq (.reg [] false [⟨0, (some 111), (.mv (.t 15)), none⟩, ⟨0, (some 112), (.bin .eql (.t 111)
  (.c (.int .i64 0))), none⟩]) (.cond (.t 112) (.seq (.reg [] false [⟨0, (some 113), (.mv (.t 17)), none⟩, ⟨0, (some 114), (.bin .eql (.t 113) (.c (.int .i64
  12))), none⟩, ⟨0, (some 115), (.mv (.t 114)), none⟩, ⟨0, (some 116), (.mv (.t 3)), (some (115, true))⟩, ⟨0, (some 117), (.conv .i64 (.t 116)), (some (115,
  true))⟩, ⟨0, (some 118), (.bin .rem (.t 117) (.c (.int .i64 4))), (some (115, true))⟩, ⟨0, (some 119), (.idxa 4 1 (.t 18) (.t 118)), (some (115, true))⟩,
  ⟨0, (some 120), (.load false 1 (.t 119)), (some (115, true))⟩, ⟨0, (some 121), (.bin .neq (.t 120) (.c (.int .i64 0))), (some (115, true))⟩, ⟨0, (some 122),
  (.pick (.t 115) (.t 121) (.c (.bool false))), none⟩, ⟨0, (some 123), (.mv (.t 122)), none⟩, ⟨0, (some 124), (.callf false (.c (.fn (.func 12) [] [])) []
  []), (some (123, true))⟩, ⟨0, (some 125), (.pick (.t 123) (.t 124) (.c (.bool false))), none⟩, ⟨0, (some 8), (.mv (.t 125)), none⟩]) .ret) .skip)) (.seq
  (.reg [] false [⟨0, (some 126), (.mv (.t 17)), none⟩, ⟨0, (some 127), (.bin .eql (.t 126) (.c (.int .i64 0))), none⟩, ⟨0, (some 128), (.mv (.t 127)), none⟩,
  ⟨0, (some 129), (.mv (.t 17)), (some (128, false))⟩, ⟨0, (some 130), (.bin .eql (.t 129) (.c (.int .i64 12))), (some (128, false))⟩, ⟨0, (some 131), (.pick
  (.t 128) (.c (.bool true)) (.t 130)), none⟩, ⟨0, (some 132), (.mv (.t 131)), none⟩, ⟨0, (some 133), (.callf false (.c (.fn (.func 12) [] [])) [] []), (some
  (132, true))⟩, ⟨0, (some 134), (.pick (.t 132) (.t 133) (.c (.bool false))), none⟩, ⟨0, (some 8), (.mv (.t 134)), none⟩]) .ret))))))))))))⟩
theorem is7 : FnIs prog 7 x7.fn := ⟨fun vs w => call7 vs w, _, _, func7, rfl, rfl, by kernel_rfl, by kernel_rfl⟩
theorem ok7 : okX x7.body = true := by kernel_rfl
theorem st7 : sitesP x7 x7.body := (sitesP_of rfl)

/-- zafra/zafralaw01.BulkMore -/
def x8 : XFn := ⟨179, [(6, none)], false, false,
  (.seq (.reg [] false [⟨0, (some 3), (.box (.t 0)), none⟩, ⟨0, (some 5), (.box (.t 2)), none⟩, ⟨0, (some 6), (.mv (.c (.bool false))), none⟩]) (.seq (.reg [(3,
  true)] false [⟨0, (some 18), (.load true 4 (.t 3)), none⟩, ⟨0, (some 19), (.callf false (.c (.fn (.func 29) [] [])) [(.t 18)] []), none⟩, ⟨0, (some 17),
  (.mv (.t 19)), none⟩, ⟨0, (some 20), (.ext (.t 17) 0), none⟩, ⟨0, (some 21), (.ext (.t 17) 1), none⟩, ⟨0, (some 7), (.alloc [(.int .i64 0), .nilsl]), none⟩,
  ⟨0, none, (.store 2 (.t 7) (.t 20) []), none⟩, ⟨0, (some 8), (.mv (.t 21)), none⟩]) (.seq (.reg [(7, true)] false [⟨0, (some 23), (.load true 2 (.t 7)),
  none⟩, ⟨0, (some 24), (.callf false (.c (.fn (.func 23) [] [])) [(.t 23)] []), none⟩, ⟨0, (some 22), (.mv (.t 24)), none⟩, ⟨0, (some 25), (.ext (.t 22) 0),
  none⟩, ⟨0, (some 26), (.ext (.t 22) 1), none⟩, ⟨0, (some 9), (.mv (.t 25)), none⟩, ⟨0, (some 10), (.mv (.t 26)), none⟩]) (.seq (.seq (.reg [] false [⟨0,
  (some 27), (.mv (.t 10)), none⟩, ⟨0, (some 28), (.bin .neq (.t 27) (.c (.int .i64 0))), none⟩, ⟨0, (some 29), (.mv (.t 28)), none⟩, ⟨0, (some 30), (.mv (.t
  9)), (some (29, false))⟩, ⟨0, (some 31), (.len false (.t 30)), (some (29, false))⟩, ⟨0, (some 32), (.fld 1 (.t 7)), (some (29, false))⟩, ⟨0, (some 33),
  (.load false 1 (.t 32)), (some (29, false))⟩, ⟨0, (some 34), (.len false (.t 33)), (some (29, false))⟩, ⟨0, (some 35), (.bin .neq (.t 31) (.t 34)), (some
  (29, false))⟩, ⟨0, (some 36), (.pick (.t 29) (.c (.bool true)) (.t 35)), none⟩]) (.cond (.t 36) (.seq (.reg [] false [⟨0, (some 6), (.mv (.c (.bool
  false))), none⟩]) .ret) .skip)) (.seq (.reg [] false [⟨0, (some 37), (.mv (.t 1)), none⟩, ⟨0, (some 38), (.conv .i64 (.t 37)), none⟩, ⟨0, (some 39), (.fld 1
  (.t 7)), none⟩, ⟨0, (some 40), (.load false 1 (.t 39)), none⟩, ⟨0, (some 41), (.len false (.t 40)), none⟩, ⟨0, (some 42), (.bin .rem (.t 38) (.t 41)),
  none⟩, ⟨0, (some 11), (.mv (.t 42)), none⟩]) (.seq (.reg [] false [⟨0, (some 43), (.mv (.t 9)), none⟩, ⟨0, (some 44), (.mv (.t 11)), none⟩, ⟨0, (some 45),
  (.idx 5 (.t 43) (.t 44)), none⟩, ⟨0, (some 46), (.fld 0 (.t 45)), none⟩, ⟨0, (some 47), (.load false 1 (.t 46)), none⟩, ⟨0, (some 48), (.bin .eql (.t 47)
  (.c (.int .i64 2))), none⟩, ⟨0, (some 12), (.mv (.t 48)), none⟩]) (.seq (.seq (.reg [] false [⟨0, (some 49), (.fld 1 (.t 7)), none⟩, ⟨0, (some 50), (.load
  false 1 (.t 49)), none⟩, ⟨0, (some 51), (.mv (.t 11)), none⟩, ⟨0, (some 52), (.idx 7 (.t 50) (.t 51)), none⟩, ⟨0, (some 53), (.fld 2 (.t 52)), none⟩, ⟨0,
  (some 54), (.load false 1 (.t 53)), none⟩]) (.cond (.t 54) (.seq (.reg [] false [⟨0, (some 55), (.callf false (.c (.fn (.func 12) [] [])) [] []), none⟩, ⟨0,
  (some 6), (.mv (.t 55)), none⟩]) .ret) .skip)) (.seq (.reg [] true [⟨0, (some 56), (.fld 0 (.t 7)), none⟩, ⟨1, (some 57), (.load false 1 (.t 56)), none⟩,
  ⟨2, (some 58), (.bslice 7 0 [(.int .i64 0), (.int .i64 0), (.bool false), (.int .i64 0), (.int .i64 0), (.int .i64 0), (.int .i64 0)] []), none⟩, ⟨3, (some
  59), (.fld 1 (.t 7)), none⟩, ⟨4, (some 60), (.load false 1 (.t 59)), none⟩, ⟨5, (some 61), (.app 7 56 (.t 58) (.t 60)), none⟩, ⟨6, (some 62), (.build [(.int
  .i64 0), .nilsl] [(0, (1, (.t 57))), (1, (1, (.t 61)))]), none⟩, ⟨7, (some 13), (.alloc [(.int .i64 0), .nilsl]), none⟩, ⟨8, none, (.store 2 (.t 13) (.t 62)
  []), none⟩]) (.seq (.reg [] false [⟨0, (some 63), (.fld 1 (.t 13)), none⟩, ⟨0, (some 64), (.load false 1 (.t 63)), none⟩, ⟨0, (some 65), (.mv (.t 11)),
  none⟩, ⟨0, (some 66), (.idx 7 (.t 64) (.t 65)), none⟩, ⟨0, (some 67), (.fld 2 (.t 66)), none⟩, ⟨0, none, (.store 1 (.t 67) (.c (.bool true)) []), none⟩])
  (.seq (.seq (.reg [] false [⟨0, (some 68), (.mv (.c (.int .i64 0))), none⟩]) (.block 0 (.loop [5, 9, 11, 12, 13, 68] (.seq (.reg [] false [⟨0, (some 69),
  (.bin .lss (.t 68) (.c (.int .i64 4))), none⟩]) (.seq (.cond (.t 69) .skip (.exit 0)) (.seq (.block 1 (.seq (.reg [] false [⟨0, (some 70), (.mv (.t 68)),
  none⟩, ⟨0, (some 14), (.mv (.t 70)), none⟩]) (.seq (.reg [] true [⟨0, (some 71), (.fld 1 (.t 13)), none⟩, ⟨1, (some 72), (.load false 1 (.t 71)), none⟩, ⟨2,
  (some 73), (.mv (.t 11)), none⟩, ⟨3, (some 74), (.mv (.t 14)), none⟩, ⟨4, (some 75), (.mv (.t 14)), none⟩, ⟨5, (some 76), (.idxa 4 1 (.t 5) (.t 75)), none⟩,
  ⟨6, (some 77), (.load false 1 (.t 76)), none⟩, ⟨7, (some 78), (.conv .i64 (.t 77)), none⟩, ⟨8, (some 79), (.idx 7 (.t 72) (.t 73)), none⟩, ⟨9, (some 80),
  (.fld 3 (.t 79)), none⟩, ⟨10, (some 81), (.idxa 4 1 (.t 80) (.t 74)), none⟩, ⟨11, none, (.store 1 (.t 81) (.t 78) []), none⟩]) (.seq (.reg [] false [⟨0,
  (some 82), (.mv (.t 12)), none⟩]) (.cond (.t 82) (.seq (.reg [] true [⟨0, (some 83), (.fld 1 (.t 13)), none⟩, ⟨1, (some 84), (.load false 1 (.t 83)), none⟩,
  ⟨2, (some 85), (.mv (.t 11)), none⟩, ⟨3, (some 86), (.mv (.t 14)), none⟩, ⟨4, (some 87), (.mv (.t 9)), none⟩, ⟨5, (some 88), (.mv (.t 11)), none⟩, ⟨6, (some
  89), (.mv (.t 14)), none⟩, ⟨7, (some 90), (.idx 5 (.t 87) (.t 88)), none⟩, ⟨8, (some 91), (.fld 1 (.t 90)), none⟩, ⟨9, (some 92), (.idxa 4 1 (.t 91) (.t
  89)), none⟩, ⟨10, (some 93), (.load false 1 (.t 92)), none⟩, ⟨11, (some 94), (.idx 7 (.t 84) (.t 85)), none⟩, ⟨12, (some 95), (.fld 3 (.t 94)), none⟩, ⟨13,
  (some 96), (.idxa 4 1 (.t 95) (.t 86)), none⟩, ⟨14, none, (.store 1 (.t 96) (.t 93) []), none⟩]) (.seq (.reg [] false [⟨0, (some 97), (.mv (.t 9)), none⟩,
  ⟨0, (some 98), (.mv (.t 11)), none⟩, ⟨0, (some 99), (.mv (.t 14)), none⟩, ⟨0, (some 100), (.idx 5 (.t 97) (.t 98)), none⟩, ⟨0, (some 101), (.fld 1 (.t
  100)), none⟩, ⟨0, (some 102), (.idxa 4 1 (.t 101) (.t 99)), none⟩, ⟨0, (some 103), (.load false 1 (.t 102)), none⟩, ⟨0, (some 104), (.bin .lss (.t 103) (.c
  (.int .i64 0))), none⟩]) (.cond (.t 104) (.seq (.reg [(13, true)] false [⟨0, (some 105), (.load true 2 (.t 13)), none⟩, ⟨0, (some 106), (.callf false (.c
  (.fn (.func 20) [] [])) [(.t 105)] []), none⟩, ⟨0, (some 107), (.bin .eql (.t 106) (.c (.int .i64 2))), none⟩, ⟨0, (some 108), (.mv (.t 107)), none⟩, ⟨0,
  (some 109), (.callf false (.c (.fn (.func 12) [] [])) [] []), (some (108, true))⟩, ⟨0, (some 110), (.pick (.t 108) (.t 109) (.c (.bool false))), none⟩, ⟨0,
  (some 6), (.mv (.t 110)), none⟩]) .ret) .skip))) .skip))))) (.reg [] false [⟨0, (some 111), (.bin .add (.t 68) (.c (.int .i64 1))), none⟩, ⟨0, (some 68),
  (.mv (.t 111)), none⟩]))))))) (.seq (.reg [(13, true)] false [⟨0, (some 113), (.load true 2 (.t 13)), none⟩, ⟨0, (some 114), (.callf false (.c (.fn (.func
  23) [] [])) [(.t 113)] []), none⟩, ⟨0, (some 112), (.mv (.t 114)), none⟩, ⟨0, (some 115), (.ext (.t 112) 0), none⟩, ⟨0, (some 116), (.ext (.t 112) 1),
  none⟩, ⟨0, (some 15), (.mv (.t 115)), none⟩, ⟨0, (some 10), (.mv (.t 116)), none⟩]) (.seq (.seq (.reg [] false [⟨0, (some 117), (.mv (.t 10)), none⟩, ⟨0,
  (some 118), (.bin .neq (.t 117) (.c (.int .i64 0))), none⟩, ⟨0, (some 119), (.mv (.t 118)), none⟩, ⟨0, (some 120), (.mv (.t 15)), (some (119, false))⟩, ⟨0,
  (some 121), (.len false (.t 120)), (some (119, false))⟩, ⟨0, (some 122), (.mv (.t 9)), (some (119, false))⟩, ⟨0, (some 123), (.len false (.t 122)), (some
  (119, false))⟩, ⟨0, (some 124), (.bin .neq (.t 121) (.t 123)), (some (119, false))⟩, ⟨0, (some 125), (.pick (.t 119) (.c (.bool true)) (.t 124)), none⟩])
  (.cond (.t 125) (.seq (.reg [] false [⟨0, (some 6), (.mv (.c (.bool false))), none⟩]) .ret) .skip)) (.seq (.seq (.reg [] false [⟨0, (some 126), (.mv (.t
  9)), none⟩, ⟨0, (some 127), (.len false (.t 126)), none⟩, ⟨0, (some 128), (.mv (.c (.int .i64 0))), none⟩]) (.block 2 (.loop [9, 11, 12, 13, 15, 127, 128]
  (.seq (.reg [] false [⟨0, (some 129), (.bin .lss (.t 128) (.t 127)), none⟩]) (.seq (.cond (.t 129) .skip (.exit 2)) (.seq (.block 3 (.seq (.reg [] false
  [⟨0, (some 130), (.mv (.t 128)), none⟩, ⟨0, (some 16), (.mv (.t 130)), none⟩]) (.seq (.seq (.reg [] false [⟨0, (some 131), (.mv (.t 16)), none⟩, ⟨0, (some
  132), (.mv (.t 11)), none⟩, ⟨0, (some 133), (.bin .eql (.t 131) (.t 132)), none⟩]) (.cond (.t 133) (.seq (.seq (.reg [] true [⟨0, (some 134), (.mv (.t 15)),
  none⟩, ⟨1, (some 135), (.mv (.t 16)), none⟩, ⟨2, (some 136), (.idx 5 (.t 134) (.t 135)), none⟩, ⟨3, (some 137), (.load true 5 (.t 136)), none⟩, ⟨4, (some
  138), (.fld 1 (.t 13)), none⟩, ⟨5, (some 139), (.load false 1 (.t 138)), none⟩, ⟨6, (some 140), (.mv (.t 11)), none⟩, ⟨7, (some 141), (.idx 7 (.t 139) (.t
  140)), none⟩, ⟨8, (some 142), (.fld 3 (.t 141)), none⟩, ⟨9, (some 143), (.load true 4 (.t 142)), none⟩, ⟨10, (some 144), (.build [(.int .i64 0), (.int .i64
  0), (.int .i64 0), (.int .i64 0), (.int .i64 0)] [(0, (1, (.c (.int .i64 1)))), (1, (4, (.t 143)))]), none⟩, ⟨11, (some 145), (.eqag true [0, 0, 0, 0, 0]
  (.t 137) (.t 144)), none⟩]) (.cond (.t 145) (.seq (.reg [] false [⟨0, (some 6), (.mv (.c (.bool false))), none⟩]) .ret) .skip)) (.exit 3)) .skip)) (.seq
  (.reg [] true [⟨0, (some 146), (.mv (.t 9)), none⟩, ⟨1, (some 147), (.mv (.t 16)), none⟩, ⟨2, (some 148), (.idx 5 (.t 146) (.t 147)), none⟩, ⟨3, (some 149),
  (.fld 0 (.t 148)), none⟩, ⟨4, (some 150), (.load false 1 (.t 149)), none⟩, ⟨5, (some 151), (.bin .neq (.t 150) (.c (.int .i64 3))), none⟩, ⟨6, (some 152),
  (.mv (.t 151)), none⟩, ⟨7, (some 153), (.mv (.t 15)), (some (152, true))⟩, ⟨8, (some 154), (.mv (.t 16)), (some (152, true))⟩, ⟨9, (some 155), (.idx 5 (.t
  153) (.t 154)), (some (152, true))⟩, ⟨10, (some 156), (.load true 5 (.t 155)), (some (152, true))⟩, ⟨11, (some 157), (.mv (.t 9)), (some (152, true))⟩, ⟨12,
  (some 158), (.mv (.t 16)), (some (152, true))⟩, ⟨13, (some 159), (.idx 5 (.t 157) (.t 158)), (some (152, true))⟩, ⟨14, (some 160), (.load true 5 (.t 159)),
  (some (152, true))⟩, ⟨15, (some 161), (.eqag true [0, 0, 0, 0, 0] (.t 156) (.t 160)), (some (152, true))⟩, ⟨16, (some 162), (.pick (.t 152) (.t 161) (.c
  (.bool false))), none⟩, ⟨17, (some 163), (.mv (.t 162)), none⟩, ⟨18, (some 164), (.mv (.t 12)), (some (163, false))⟩, ⟨19, (some 165), (.mv (.t 164)), (some
  (163, false))⟩, ⟨20, (some 166), (.mv (.t 15)), (some (165, true))⟩, ⟨21, (some 167), (.mv (.t 16)), (some (165, true))⟩, ⟨22, (some 168), (.idx 5 (.t 166)
  (.t 167)), (some (165, true))⟩, ⟨23, (some 169), (.load true 5 (.t 168)), (some (165, true))⟩, ⟨24, (some 170), (.mv (.t 9)), (some (165, true))⟩, ⟨25,
  (some 171), (.mv (.t 16)), (some (165, true))⟩, ⟨26, (some 172), (.idx 5 (.t 170) (.t 171)), (some (165, true))⟩, ⟨27, (some 173), (.load true 5 (.t 172)),
  (some (165, true))⟩, ⟨28, (some 174), (.eqag true [0, 0, 0, 0, 0] (.t 169) (.t 173)), (some (165, true))⟩, ⟨29, (some 175), (.pick (.t 165) (.t 174) (.c
  (.bool false))), (some (163, false))⟩, ⟨30, (some 176), (.pick (.t 163) (.c (.bool true)) (.t 175)), none⟩]) (.cond (.t 176) (.seq (.reg [] false [⟨0, (some
  6), (.mv (.c (.bool false))), none⟩]) .ret) .skip))))) (.reg [] false [⟨0, (some 177), (.bin .add (.t 128) (.c (.int .i64 1))), none⟩, ⟨0, (some 128), (.mv
  (.t 177)), none⟩]))))))) (.seq (.reg [] false [⟨0, (some 178), (.callf false (.c (.fn (.func 12) [] [])) [] []), none⟩, ⟨0, (some 6), (.mv (.t 178)),
  none⟩]) .ret))))))))))))))⟩
theorem is8 : FnIs prog 8 x8.fn := ⟨fun vs w => call8 vs w, _, _, func8, rfl, rfl, by kernel_rfl, by kernel_rfl⟩
theorem ok8 : okX x8.body = true := by kernel_rfl
theorem st8 : sitesP x8 x8.body := (sitesP_of rfl)

/-- zafra/zafralaw01.BulkOrder -/
def x9 : XFn := ⟨215, [(8, none)], false, false,
  (.seq (.reg [] false [⟨0, (some 4), (.box (.t 0)), none⟩, ⟨0, (some 5), (.box (.t 1)), none⟩, ⟨0, (some 8), (.mv (.c (.bool false))), none⟩]) (.seq (.reg [(4,
  true)] false [⟨0, (some 26), (.load true 4 (.t 4)), none⟩, ⟨0, (some 27), (.callf false (.c (.fn (.func 29) [] [])) [(.t 26)] []), none⟩, ⟨0, (some 25),
  (.mv (.t 27)), none⟩, ⟨0, (some 28), (.ext (.t 25) 0), none⟩, ⟨0, (some 29), (.ext (.t 25) 1), none⟩, ⟨0, (some 9), (.alloc [(.int .i64 0), .nilsl]), none⟩,
  ⟨0, none, (.store 2 (.t 9) (.t 28) []), none⟩, ⟨0, (some 10), (.mv (.t 29)), none⟩]) (.seq (.reg [(9, true)] false [⟨0, (some 31), (.load true 2 (.t 9)),
  none⟩, ⟨0, (some 32), (.callf false (.c (.fn (.func 23) [] [])) [(.t 31)] []), none⟩, ⟨0, (some 30), (.mv (.t 32)), none⟩, ⟨0, (some 33), (.ext (.t 30) 0),
  none⟩, ⟨0, (some 34), (.ext (.t 30) 1), none⟩, ⟨0, (some 11), (.mv (.t 33)), none⟩, ⟨0, (some 12), (.mv (.t 34)), none⟩]) (.seq (.seq (.reg [] false [⟨0,
  (some 35), (.mv (.t 12)), none⟩, ⟨0, (some 36), (.bin .neq (.t 35) (.c (.int .i64 0))), none⟩, ⟨0, (some 37), (.mv (.t 36)), none⟩, ⟨0, (some 38), (.mv (.t
  11)), (some (37, false))⟩, ⟨0, (some 39), (.len false (.t 38)), (some (37, false))⟩, ⟨0, (some 40), (.fld 1 (.t 9)), (some (37, false))⟩, ⟨0, (some 41),
  (.load false 1 (.t 40)), (some (37, false))⟩, ⟨0, (some 42), (.len false (.t 41)), (some (37, false))⟩, ⟨0, (some 43), (.bin .neq (.t 39) (.t 42)), (some
  (37, false))⟩, ⟨0, (some 44), (.pick (.t 37) (.c (.bool true)) (.t 43)), none⟩]) (.cond (.t 44) (.seq (.reg [] false [⟨0, (some 8), (.mv (.c (.bool
  false))), none⟩]) .ret) .skip)) (.seq (.reg [] false [⟨0, (some 45), (.mkf (.func 31) [] [(.t 5), (.t 9)]), none⟩, ⟨0, (some 13), (.mv (.t 45)), none⟩])
  (.seq (.reg [] false [⟨0, (some 46), (.fld 0 (.t 9)), none⟩, ⟨0, (some 47), (.load false 1 (.t 46)), none⟩, ⟨0, (some 48), (.build [(.int .i64 0), .nilsl]
  [(0, (1, (.t 47)))]), none⟩, ⟨0, (some 14), (.alloc [(.int .i64 0), .nilsl]), none⟩, ⟨0, none, (.store 2 (.t 14) (.t 48) []), none⟩]) (.seq (.seq (.reg []
  false [⟨0, (some 49), (.fld 1 (.t 9)), none⟩, ⟨0, (some 50), (.load false 1 (.t 49)), none⟩, ⟨0, (some 51), (.len false (.t 50)), none⟩, ⟨0, (some 52), (.mv
  (.c (.int .i64 0))), none⟩]) (.block 0 (.loop [2, 3, 9, 11, 13, 14, 51, 52] (.seq (.reg [] false [⟨0, (some 53), (.bin .lss (.t 52) (.t 51)), none⟩]) (.seq
  (.cond (.t 53) .skip (.exit 0)) (.seq (.block 1 (.seq (.reg [] false [⟨0, (some 54), (.mv (.t 52)), none⟩, ⟨0, (some 15), (.mv (.t 54)), none⟩]) (.seq (.reg
  [] false [⟨0, (some 55), (.fld 1 (.t 9)), none⟩, ⟨0, (some 56), (.load false 1 (.t 55)), none⟩, ⟨0, (some 57), (.fld 1 (.t 9)), none⟩, ⟨0, (some 58), (.load
  false 1 (.t 57)), none⟩, ⟨0, (some 59), (.len false (.t 58)), none⟩, ⟨0, (some 60), (.bin .sub (.t 59) (.c (.int .i64 1))), none⟩, ⟨0, (some 61), (.mv (.t
  15)), none⟩, ⟨0, (some 62), (.bin .sub (.t 60) (.t 61)), none⟩, ⟨0, (some 63), (.idx 7 (.t 56) (.t 62)), none⟩, ⟨0, (some 64), (.load true 7 (.t 63)),
  none⟩, ⟨0, (some 16), (.alloc [(.int .i64 0), (.int .i64 0), (.bool false), (.int .i64 0), (.int .i64 0), (.int .i64 0), (.int .i64 0)]), none⟩, ⟨0, none,
  (.store 7 (.t 16) (.t 64) []), none⟩]) (.seq (.reg [(16, true)] true [⟨0, (some 65), (.mv (.t 13)), none⟩, ⟨1, (some 66), (.fld 0 (.t 16)), none⟩, ⟨2, (some
  67), (.load false 1 (.t 66)), none⟩, ⟨4, (some 69), (.mv (.t 13)), none⟩, ⟨5, (some 70), (.fld 1 (.t 16)), none⟩, ⟨6, (some 71), (.load false 1 (.t 70)),
  none⟩, ⟨3, (some 68), (.callf false (.t 65) [(.t 67)] [6]), none⟩, ⟨8, (some 73), (.fld 0 (.t 16)), none⟩, ⟨7, (some 72), (.callf false (.t 69) [(.t 71)]
  []), none⟩, ⟨9, none, (.store 1 (.t 73) (.t 68) []), none⟩, ⟨10, (some 74), (.fld 1 (.t 16)), none⟩, ⟨11, none, (.store 1 (.t 74) (.t 72) []), none⟩]) (.reg
  [(16, true)] false [⟨0, (some 75), (.fld 1 (.t 14)), none⟩, ⟨0, (some 76), (.load false 1 (.t 75)), none⟩, ⟨0, (some 77), (.load true 7 (.t 16)), none⟩, ⟨0,
  (some 78), (.bslice 7 1 [(.int .i64 0), (.int .i64 0), (.bool false), (.int .i64 0), (.int .i64 0), (.int .i64 0), (.int .i64 0)] [(0, (7, (.t 77)))]),
  none⟩, ⟨0, (some 79), (.app 7 56 (.t 76) (.t 78)), none⟩, ⟨0, (some 80), (.fld 1 (.t 14)), none⟩, ⟨0, none, (.store 1 (.t 80) (.t 79) []), none⟩]))))) (.reg
  [] false [⟨0, (some 81), (.bin .add (.t 52) (.c (.int .i64 1))), none⟩, ⟨0, (some 52), (.mv (.t 81)), none⟩]))))))) (.seq (.reg [] false [⟨0, (some 82),
  (.mv (.t 2)), none⟩, ⟨0, (some 83), (.conv .i64 (.t 82)), none⟩, ⟨0, (some 84), (.fld 1 (.t 9)), none⟩, ⟨0, (some 85), (.load false 1 (.t 84)), none⟩, ⟨0,
  (some 86), (.len false (.t 85)), none⟩, ⟨0, (some 87), (.bin .rem (.t 83) (.t 86)), none⟩, ⟨0, (some 17), (.mv (.t 87)), none⟩]) (.seq (.reg [] true [⟨0,
  (some 88), (.fld 0 (.t 9)), none⟩, ⟨1, (some 89), (.load false 1 (.t 88)), none⟩, ⟨2, (some 90), (.bslice 7 0 [(.int .i64 0), (.int .i64 0), (.bool false),
  (.int .i64 0), (.int .i64 0), (.int .i64 0), (.int .i64 0)] []), none⟩, ⟨3, (some 91), (.fld 1 (.t 9)), none⟩, ⟨4, (some 92), (.load false 1 (.t 91)),
  none⟩, ⟨5, (some 93), (.app 7 56 (.t 90) (.t 92)), none⟩, ⟨6, (some 94), (.build [(.int .i64 0), .nilsl] [(0, (1, (.t 89))), (1, (1, (.t 93)))]), none⟩, ⟨7,
  (some 18), (.alloc [(.int .i64 0), .nilsl]), none⟩, ⟨8, none, (.store 2 (.t 18) (.t 94) []), none⟩]) (.seq (.seq (.reg [] false [⟨0, (some 95), (.fld 1 (.t
  9)), none⟩, ⟨0, (some 96), (.load false 1 (.t 95)), none⟩, ⟨0, (some 97), (.mv (.t 17)), none⟩, ⟨0, (some 98), (.idx 7 (.t 96) (.t 97)), none⟩, ⟨0, (some
  99), (.fld 2 (.t 98)), none⟩, ⟨0, (some 100), (.load false 1 (.t 99)), none⟩]) (.cond (.t 100) (.seq (.reg [] false [⟨0, (some 101), (.fld 1 (.t 9)), none⟩,
  ⟨0, (some 102), (.load false 1 (.t 101)), none⟩, ⟨0, (some 103), (.mv (.t 17)), none⟩, ⟨0, (some 104), (.idx 7 (.t 102) (.t 103)), none⟩, ⟨0, (some 105),
  (.load true 7 (.t 104)), none⟩, ⟨0, (some 19), (.alloc [(.int .i64 0), (.int .i64 0), (.bool false), (.int .i64 0), (.int .i64 0), (.int .i64 0), (.int .i64
  0)]), none⟩, ⟨0, none, (.store 7 (.t 19) (.t 105) []), none⟩]) (.seq (.seq (.reg [] false [⟨0, (some 106), (.mv (.c (.int .i64 0))), none⟩]) (.block 2
  (.loop [3, 9, 11, 14, 17, 18, 19, 106] (.seq (.reg [] false [⟨0, (some 107), (.bin .lss (.t 106) (.c (.int .i64 4))), none⟩]) (.seq (.cond (.t 107) .skip
  (.exit 2)) (.seq (.block 3 (.seq (.reg [] false [⟨0, (some 108), (.mv (.t 106)), none⟩, ⟨0, (some 20), (.mv (.t 108)), none⟩]) (.seq (.reg [] false [⟨0,
  (some 109), (.mv (.t 20)), none⟩, ⟨0, (some 110), (.fld 1 (.t 9)), none⟩, ⟨0, (some 111), (.load false 1 (.t 110)), none⟩, ⟨0, (some 112), (.mv (.t 17)),
  none⟩, ⟨0, (some 113), (.mv (.t 20)), none⟩, ⟨0, (some 114), (.idx 7 (.t 111) (.t 112)), none⟩, ⟨0, (some 115), (.fld 3 (.t 114)), none⟩, ⟨0, (some 116),
  (.idxa 4 1 (.t 115) (.t 113)), none⟩, ⟨0, (some 117), (.load false 1 (.t 116)), none⟩, ⟨0, (some 118), (.mv (.t 3)), none⟩, ⟨0, (some 119), (.conv .i64 (.t
  118)), none⟩, ⟨0, (some 120), (.bin .rem (.t 119) (.c (.int .i64 5))), none⟩, ⟨0, (some 121), (.bin .mul (.t 117) (.t 120)), none⟩, ⟨0, (some 122), (.bin
  .quo (.t 121) (.c (.int .i64 5))), none⟩, ⟨0, (some 123), (.fld 3 (.t 19)), none⟩, ⟨0, (some 124), (.idxa 4 1 (.t 123) (.t 109)), none⟩, ⟨0, none, (.store 1
  (.t 124) (.t 122) []), none⟩]) (.reg [] true [⟨0, (some 125), (.fld 1 (.t 18)), none⟩, ⟨1, (some 126), (.load false 1 (.t 125)), none⟩, ⟨2, (some 127), (.mv
  (.t 17)), none⟩, ⟨3, (some 128), (.mv (.t 20)), none⟩, ⟨4, (some 129), (.idx 7 (.t 126) (.t 127)), none⟩, ⟨5, (some 130), (.fld 3 (.t 129)), none⟩, ⟨6,
  (some 131), (.idxa 4 1 (.t 130) (.t 128)), none⟩, ⟨7, (some 132), (.load false 1 (.t 131)), none⟩, ⟨8, (some 133), (.mv (.t 20)), none⟩, ⟨9, (some 134),
  (.fld 3 (.t 19)), none⟩, ⟨10, (some 135), (.idxa 4 1 (.t 134) (.t 133)), none⟩, ⟨11, (some 136), (.load false 1 (.t 135)), none⟩, ⟨12, (some 137), (.bin
  .sub (.t 132) (.t 136)), none⟩, ⟨13, (some 138), (.idx 7 (.t 126) (.t 127)), none⟩, ⟨14, (some 139), (.fld 3 (.t 138)), none⟩, ⟨15, (some 140), (.idxa 4 1
  (.t 139) (.t 128)), none⟩, ⟨16, none, (.store 1 (.t 140) (.t 137) []), none⟩])))) (.reg [] false [⟨0, (some 141), (.bin .add (.t 106) (.c (.int .i64 1))),
  none⟩, ⟨0, (some 106), (.mv (.t 141)), none⟩]))))))) (.reg [(19, true)] false [⟨0, (some 142), (.fld 1 (.t 18)), none⟩, ⟨0, (some 143), (.load false 1 (.t
  142)), none⟩, ⟨0, (some 144), (.load true 7 (.t 19)), none⟩, ⟨0, (some 145), (.bslice 7 1 [(.int .i64 0), (.int .i64 0), (.bool false), (.int .i64 0), (.int
  .i64 0), (.int .i64 0), (.int .i64 0)] [(0, (7, (.t 144)))]), none⟩, ⟨0, (some 146), (.app 7 56 (.t 143) (.t 145)), none⟩, ⟨0, (some 147), (.fld 1 (.t 18)),
  none⟩, ⟨0, none, (.store 1 (.t 147) (.t 146) []), none⟩]))) .skip)) (.seq (.reg [(14, true)] false [⟨0, (some 149), (.load true 2 (.t 14)), none⟩, ⟨0, (some
  150), (.callf false (.c (.fn (.func 23) [] [])) [(.t 149)] []), none⟩, ⟨0, (some 148), (.mv (.t 150)), none⟩, ⟨0, (some 151), (.ext (.t 148) 0), none⟩, ⟨0,
  (some 152), (.ext (.t 148) 1), none⟩, ⟨0, (some 21), (.mv (.t 151)), none⟩, ⟨0, (some 12), (.mv (.t 152)), none⟩]) (.seq (.reg [(18, true)] false [⟨0, (some
  154), (.load true 2 (.t 18)), none⟩, ⟨0, (some 155), (.callf false (.c (.fn (.func 23) [] [])) [(.t 154)] []), none⟩, ⟨0, (some 153), (.mv (.t 155)), none⟩,
  ⟨0, (some 156), (.ext (.t 153) 0), none⟩, ⟨0, (some 157), (.ext (.t 153) 1), none⟩, ⟨0, (some 22), (.mv (.t 156)), none⟩, ⟨0, (some 23), (.mv (.t 157)),
  none⟩]) (.seq (.seq (.reg [] false [⟨0, (some 158), (.mv (.t 12)), none⟩, ⟨0, (some 159), (.bin .neq (.t 158) (.c (.int .i64 0))), none⟩, ⟨0, (some 160),
  (.mv (.t 159)), none⟩, ⟨0, (some 161), (.mv (.t 23)), (some (160, false))⟩, ⟨0, (some 162), (.bin .neq (.t 161) (.c (.int .i64 0))), (some (160, false))⟩,
  ⟨0, (some 163), (.pick (.t 160) (.c (.bool true)) (.t 162)), none⟩, ⟨0, (some 164), (.mv (.t 163)), none⟩, ⟨0, (some 165), (.mv (.t 21)), (some (164,
  false))⟩, ⟨0, (some 166), (.len false (.t 165)), (some (164, false))⟩, ⟨0, (some 167), (.mv (.t 11)), (some (164, false))⟩, ⟨0, (some 168), (.len false (.t
  167)), (some (164, false))⟩, ⟨0, (some 169), (.bin .neq (.t 166) (.t 168)), (some (164, false))⟩, ⟨0, (some 170), (.pick (.t 164) (.c (.bool true)) (.t
  169)), none⟩, ⟨0, (some 171), (.mv (.t 170)), none⟩, ⟨0, (some 172), (.mv (.t 22)), (some (171, false))⟩, ⟨0, (some 173), (.len false (.t 172)), (some (171,
  false))⟩, ⟨0, (some 174), (.fld 1 (.t 18)), (some (171, false))⟩, ⟨0, (some 175), (.load false 1 (.t 174)), (some (171, false))⟩, ⟨0, (some 176), (.len
  false (.t 175)), (some (171, false))⟩, ⟨0, (some 177), (.bin .neq (.t 173) (.t 176)), (some (171, false))⟩, ⟨0, (some 178), (.pick (.t 171) (.c (.bool
  true)) (.t 177)), none⟩]) (.cond (.t 178) (.seq (.reg [] false [⟨0, (some 8), (.mv (.c (.bool false))), none⟩]) .ret) .skip)) (.seq (.seq (.reg [] false
  [⟨0, (some 179), (.mv (.t 11)), none⟩, ⟨0, (some 180), (.len false (.t 179)), none⟩, ⟨0, (some 181), (.mv (.c (.int .i64 0))), none⟩]) (.block 4 (.loop [11,
  17, 21, 22, 180, 181] (.seq (.reg [] false [⟨0, (some 182), (.bin .lss (.t 181) (.t 180)), none⟩]) (.seq (.cond (.t 182) .skip (.exit 4)) (.seq (.block 5
  (.seq (.reg [] false [⟨0, (some 183), (.mv (.t 181)), none⟩, ⟨0, (some 24), (.mv (.t 183)), none⟩]) (.seq (.reg [] true [⟨0, (some 184), (.mv (.t 21)),
  none⟩, ⟨1, (some 185), (.mv (.t 11)), none⟩, ⟨2, (some 186), (.len false (.t 185)), none⟩, ⟨3, (some 187), (.bin .sub (.t 186) (.c (.int .i64 1))), none⟩,
  ⟨4, (some 188), (.mv (.t 24)), none⟩, ⟨5, (some 189), (.bin .sub (.t 187) (.t 188)), none⟩, ⟨6, (some 190), (.idx 5 (.t 184) (.t 189)), none⟩, ⟨7, (some
  191), (.load true 5 (.t 190)), none⟩, ⟨8, (some 192), (.mv (.t 11)), none⟩, ⟨9, (some 193), (.mv (.t 24)), none⟩, ⟨10, (some 194), (.idx 5 (.t 192) (.t
  193)), none⟩, ⟨11, (some 195), (.load true 5 (.t 194)), none⟩, ⟨12, (some 196), (.eqag true [0, 0, 0, 0, 0] (.t 191) (.t 195)), none⟩, ⟨13, (some 197), (.mv
  (.t 196)), none⟩, ⟨14, (some 198), (.mv (.t 24)), (some (197, false))⟩, ⟨15, (some 199), (.mv (.t 17)), (some (197, false))⟩, ⟨16, (some 200), (.bin .neq
  (.t 198) (.t 199)), (some (197, false))⟩, ⟨17, (some 201), (.mv (.t 200)), (some (197, false))⟩, ⟨18, (some 202), (.mv (.t 22)), (some (201, true))⟩, ⟨19,
  (some 203), (.mv (.t 24)), (some (201, true))⟩, ⟨20, (some 204), (.idx 5 (.t 202) (.t 203)), (some (201, true))⟩, ⟨21, (some 205), (.load true 5 (.t 204)),
  (some (201, true))⟩, ⟨22, (some 206), (.mv (.t 11)), (some (201, true))⟩, ⟨23, (some 207), (.mv (.t 24)), (some (201, true))⟩, ⟨24, (some 208), (.idx 5 (.t
  206) (.t 207)), (some (201, true))⟩, ⟨25, (some 209), (.load true 5 (.t 208)), (some (201, true))⟩, ⟨26, (some 210), (.eqag true [0, 0, 0, 0, 0] (.t 205)
  (.t 209)), (some (201, true))⟩, ⟨27, (some 211), (.pick (.t 201) (.t 210) (.c (.bool false))), (some (197, false))⟩, ⟨28, (some 212), (.pick (.t 197) (.c
  (.bool true)) (.t 211)), none⟩]) (.cond (.t 212) (.seq (.reg [] false [⟨0, (some 8), (.mv (.c (.bool false))), none⟩]) .ret) .skip)))) (.reg [] false [⟨0,
  (some 213), (.bin .add (.t 181) (.c (.int .i64 1))), none⟩, ⟨0, (some 181), (.mv (.t 213)), none⟩]))))))) (.seq (.reg [] false [⟨0, (some 214), (.callf
  false (.c (.fn (.func 12) [] [])) [] []), none⟩, ⟨0, (some 8), (.mv (.t 214)), none⟩]) .ret)))))))))))))))⟩
theorem is9 : FnIs prog 9 x9.fn := ⟨fun vs w => call9 vs w, _, _, func9, rfl, rfl, by kernel_rfl, by kernel_rfl⟩
theorem ok9 : okX x9.body = true := by kernel_rfl
theorem st9 : sitesP x9 x9.body := (sitesP_of rfl)

/-- zafra/zafralaw01.BulkKnown -/
def x10 : XFn := ⟨58, [(0, none)], false, false,
  (.seq (.reg [] false [⟨0, (some 0), (.mv (.c (.bool false))), none⟩]) (.seq (.reg [] false [⟨0, (some 8), (.callf false (.c (.fn (.func 32) [] [])) [] []),
  none⟩, ⟨0, (some 1), (.alloc [(.int .i64 0), .nilsl]), none⟩, ⟨0, none, (.store 2 (.t 1) (.t 8) []), none⟩]) (.seq (.reg [(1, true)] false [⟨0, (some 10),
  (.load true 2 (.t 1)), none⟩, ⟨0, (some 11), (.bslice 1 2 [(.int .i64 0)] [(0, (1, (.c (.int .i64 1)))), (1, (1, (.c (.int .i64 1))))]), none⟩, ⟨0, (some
  12), (.callf false (.c (.fn (.func 16) [] [])) [(.t 10), (.t 11)] []), none⟩, ⟨0, (some 9), (.mv (.t 12)), none⟩, ⟨0, (some 13), (.ext (.t 9) 0), none⟩, ⟨0,
  (some 14), (.ext (.t 9) 1), none⟩, ⟨0, (some 2), (.alloc [(.int .i64 0), (.int .i64 0), (.int .i64 0), (.int .i64 0)]), none⟩, ⟨0, none, (.store 4 (.t 2)
  (.t 13) []), none⟩, ⟨0, (some 3), (.mv (.t 14)), none⟩]) (.seq (.reg [(1, true)] false [⟨0, (some 16), (.load true 2 (.t 1)), none⟩, ⟨0, (some 17), (.build
  [(.int .i64 0), (.int .i64 0), (.int .i64 0), (.int .i64 0)] [(0, (1, (.c (.int .i64 95)))), (1, (1, (.c (.int .i64 450)))), (2, (1, (.c (.int .i64 5)))),
  (3, (1, (.c (.int .i64 11))))]), none⟩, ⟨0, (some 18), (.callf false (.c (.fn (.func 33) [] [])) [(.t 16), (.c (.int .i64 1)), (.t 17)] []), none⟩, ⟨0,
  (some 15), (.mv (.t 18)), none⟩, ⟨0, (some 19), (.ext (.t 15) 0), none⟩, ⟨0, (some 20), (.ext (.t 15) 1), none⟩, ⟨0, (some 4), (.mv (.t 19)), none⟩, ⟨0,
  (some 5), (.mv (.t 20)), none⟩]) (.seq (.reg [(1, true)] false [⟨0, (some 22), (.load true 2 (.t 1)), none⟩, ⟨0, (some 23), (.callf false (.c (.fn (.func
  23) [] [])) [(.t 22)] []), none⟩, ⟨0, (some 21), (.mv (.t 23)), none⟩, ⟨0, (some 24), (.ext (.t 21) 0), none⟩, ⟨0, (some 25), (.ext (.t 21) 1), none⟩, ⟨0,
  (some 6), (.mv (.t 24)), none⟩, ⟨0, (some 7), (.mv (.t 25)), none⟩]) (.seq (.reg [(1, true)] false [⟨0, (some 26), (.mv (.t 3)), none⟩, ⟨0, (some 27), (.bin
  .eql (.t 26) (.c (.int .i64 7))), none⟩, ⟨0, (some 28), (.mv (.t 27)), none⟩, ⟨0, (some 29), (.mv (.t 5)), (some (28, true))⟩, ⟨0, (some 30), (.bin .eql (.t
  29) (.c (.int .i64 22))), (some (28, true))⟩, ⟨0, (some 31), (.pick (.t 28) (.t 30) (.c (.bool false))), none⟩, ⟨0, (some 32), (.mv (.t 31)), none⟩, ⟨0,
  (some 33), (.mv (.t 7)), (some (32, true))⟩, ⟨0, (some 34), (.bin .eql (.t 33) (.c (.int .i64 0))), (some (32, true))⟩, ⟨0, (some 35), (.pick (.t 32) (.t
  34) (.c (.bool false))), none⟩, ⟨0, (some 36), (.mv (.t 35)), none⟩, ⟨0, (some 37), (.mv (.t 6)), (some (36, true))⟩, ⟨0, (some 38), (.len false (.t 37)),
  (some (36, true))⟩, ⟨0, (some 39), (.bin .eql (.t 38) (.c (.int .i64 7))), (some (36, true))⟩, ⟨0, (some 40), (.pick (.t 36) (.t 39) (.c (.bool false))),
  none⟩, ⟨0, (some 41), (.mv (.t 40)), none⟩, ⟨0, (some 42), (.mv (.t 6)), (some (41, true))⟩, ⟨0, (some 43), (.idx 5 (.t 42) (.c (.int .i64 4))), (some (41,
  true))⟩, ⟨0, (some 44), (.load true 5 (.t 43)), (some (41, true))⟩, ⟨0, (some 45), (.build [(.int .i64 0), (.int .i64 0), (.int .i64 0), (.int .i64 0)] [(0,
  (1, (.c (.int .i64 5)))), (1, (1, (.c (.int .i64 410)))), (2, (1, (.c (.int .i64 5)))), (3, (1, (.c (.int .i64 6))))]), (some (41, true))⟩, ⟨0, (some 46),
  (.build [(.int .i64 0), (.int .i64 0), (.int .i64 0), (.int .i64 0), (.int .i64 0)] [(0, (1, (.c (.int .i64 2)))), (1, (4, (.t 45)))]), (some (41, true))⟩,
  ⟨0, (some 47), (.eqag false [0, 0, 0, 0, 0] (.t 44) (.t 46)), (some (41, true))⟩, ⟨0, (some 48), (.pick (.t 41) (.t 47) (.c (.bool false))), none⟩, ⟨0,
  (some 49), (.mv (.t 48)), none⟩, ⟨0, (some 50), (.load true 2 (.t 1)), (some (49, true))⟩, ⟨0, (some 51), (.bslice 1 1 [(.int .i64 0)] [(0, (1, (.c (.int
  .i64 0))))]), (some (49, true))⟩, ⟨0, (some 52), (.callf false (.c (.fn (.func 28) [] [])) [(.t 50), (.t 51), (.c (.int .i64 0))] []), (some (49, true))⟩,
  ⟨0, (some 53), (.bin .eql (.t 52) (.c (.int .i64 11))), (some (49, true))⟩, ⟨0, (some 54), (.pick (.t 49) (.t 53) (.c (.bool false))), none⟩, ⟨0, (some 55),
  (.mv (.t 54)), none⟩, ⟨0, (some 56), (.callf false (.c (.fn (.func 12) [] [])) [] []), (some (55, true))⟩, ⟨0, (some 57), (.pick (.t 55) (.t 56) (.c (.bool
  false))), none⟩, ⟨0, (some 0), (.mv (.t 57)), none⟩]) .ret))))))⟩
theorem is10 : FnIs prog 10 x10.fn := ⟨fun vs w => call10 vs w, _, _, func10, rfl, rfl, by kernel_rfl, by kernel_rfl⟩
theorem ok10 : okX x10.body = true := by kernel_rfl
theorem st10 : sitesP x10 x10.body := (sitesP_of rfl)

/-- zafra/zafralaw01.BulkTrue -/
def x11 : XFn := ⟨145, [(6, none)], false, false,
  (.seq (.reg [] false [⟨0, (some 3), (.box (.t 0)), none⟩, ⟨0, (some 6), (.mv (.c (.bool false))), none⟩]) (.seq (.reg [(3, true)] false [⟨0, (some 21), (.load
  true 4 (.t 3)), none⟩, ⟨0, (some 22), (.callf false (.c (.fn (.func 29) [] [])) [(.t 21)] []), none⟩, ⟨0, (some 20), (.mv (.t 22)), none⟩, ⟨0, (some 23),
  (.ext (.t 20) 0), none⟩, ⟨0, (some 24), (.ext (.t 20) 1), none⟩, ⟨0, (some 7), (.alloc [(.int .i64 0), .nilsl]), none⟩, ⟨0, none, (.store 2 (.t 7) (.t 23)
  []), none⟩, ⟨0, (some 8), (.mv (.t 24)), none⟩]) (.seq (.reg [(7, true)] false [⟨0, (some 26), (.load true 2 (.t 7)), none⟩, ⟨0, (some 27), (.callf false
  (.c (.fn (.func 23) [] [])) [(.t 26)] []), none⟩, ⟨0, (some 25), (.mv (.t 27)), none⟩, ⟨0, (some 28), (.ext (.t 25) 0), none⟩, ⟨0, (some 29), (.ext (.t 25)
  1), none⟩, ⟨0, (some 9), (.mv (.t 28)), none⟩, ⟨0, (some 10), (.mv (.t 29)), none⟩]) (.seq (.reg [(7, true)] false [⟨0, (some 31), (.load true 2 (.t 7)),
  none⟩, ⟨0, (some 32), (.callf false (.c (.fn (.func 25) [] [])) [(.t 31)] []), none⟩, ⟨0, (some 30), (.mv (.t 32)), none⟩, ⟨0, (some 33), (.ext (.t 30) 0),
  none⟩, ⟨0, (some 34), (.ext (.t 30) 1), none⟩, ⟨0, (some 35), (.ext (.t 30) 2), none⟩, ⟨0, (some 11), (.mv (.t 33)), none⟩, ⟨0, (some 12), (.mv (.t 34)),
  none⟩, ⟨0, (some 13), (.mv (.t 35)), none⟩]) (.seq (.seq (.reg [] false [⟨0, (some 36), (.mv (.t 10)), none⟩, ⟨0, (some 37), (.bin .neq (.t 36) (.c (.int
  .i64 0))), none⟩, ⟨0, (some 38), (.mv (.t 37)), none⟩, ⟨0, (some 39), (.mv (.t 13)), (some (38, false))⟩, ⟨0, (some 40), (.bin .neq (.t 39) (.c (.int .i64
  5))), (some (38, false))⟩, ⟨0, (some 41), (.pick (.t 38) (.c (.bool true)) (.t 40)), none⟩, ⟨0, (some 42), (.mv (.t 41)), none⟩, ⟨0, (some 43), (.mv (.t
  9)), (some (42, false))⟩, ⟨0, (some 44), (.len false (.t 43)), (some (42, false))⟩, ⟨0, (some 45), (.fld 1 (.t 7)), (some (42, false))⟩, ⟨0, (some 46),
  (.load false 1 (.t 45)), (some (42, false))⟩, ⟨0, (some 47), (.len false (.t 46)), (some (42, false))⟩, ⟨0, (some 48), (.bin .neq (.t 44) (.t 47)), (some
  (42, false))⟩, ⟨0, (some 49), (.pick (.t 42) (.c (.bool true)) (.t 48)), none⟩]) (.cond (.t 49) (.seq (.reg [] false [⟨0, (some 6), (.mv (.c (.bool
  false))), none⟩]) .ret) .skip)) (.seq (.seq (.reg [] false [⟨0, (some 50), (.fld 1 (.t 7)), none⟩, ⟨0, (some 51), (.load false 1 (.t 50)), none⟩, ⟨0, (some
  52), (.len false (.t 51)), none⟩, ⟨0, (some 53), (.mv (.c (.int .i64 0))), none⟩]) (.block 0 (.loop [1, 2, 7, 8, 9, 51, 52, 53] (.seq (.reg [] false [⟨0,
  (some 54), (.bin .lss (.t 53) (.t 52)), none⟩]) (.seq (.cond (.t 54) .skip (.exit 0)) (.seq (.block 1 (.seq (.reg [] false [⟨0, (some 55), (.mv (.t 53)),
  none⟩, ⟨0, (some 56), (.idx 7 (.t 51) (.t 53)), none⟩, ⟨0, (some 57), (.load true 7 (.t 56)), none⟩, ⟨0, (some 15), (.alloc [(.int .i64 0), (.int .i64 0),
  (.bool false), (.int .i64 0), (.int .i64 0), (.int .i64 0), (.int .i64 0)]), none⟩, ⟨0, (some 14), (.mv (.t 55)), none⟩, ⟨0, none, (.store 7 (.t 15) (.t 57)
  []), none⟩]) (.seq (.reg [] false [⟨0, (some 16), (.mv (.c (.int .i64 2))), none⟩]) (.seq (.seq (.reg [] false [⟨0, (some 58), (.fld 2 (.t 15)), none⟩, ⟨0,
  (some 59), (.load false 1 (.t 58)), none⟩]) (.cond (.t 59) (.reg [] false [⟨0, (some 16), (.mv (.c (.int .i64 1))), none⟩]) (.seq (.reg [(7, true), (15,
  true)] false [⟨0, (some 60), (.load true 2 (.t 7)), none⟩, ⟨0, (some 61), (.fld 0 (.t 15)), none⟩, ⟨0, (some 62), (.load false 1 (.t 61)), none⟩, ⟨0, (some
  63), (.fld 1 (.t 15)), none⟩, ⟨0, (some 64), (.load false 1 (.t 63)), none⟩, ⟨0, (some 65), (.mv (.t 14)), none⟩, ⟨0, (some 66), (.callf false (.c (.fn
  (.func 30) [] [])) [(.t 60), (.t 62), (.t 64), (.t 65)] []), none⟩]) (.cond (.t 66) (.reg [] false [⟨0, (some 16), (.mv (.c (.int .i64 3))), none⟩])
  .skip)))) (.seq (.reg [] true [⟨0, (some 67), (.mv (.t 9)), none⟩, ⟨1, (some 68), (.mv (.t 14)), none⟩, ⟨2, (some 69), (.idx 5 (.t 67) (.t 68)), none⟩, ⟨3,
  (some 70), (.fld 0 (.t 69)), none⟩, ⟨4, (some 71), (.load false 1 (.t 70)), none⟩, ⟨5, (some 72), (.mv (.t 16)), none⟩, ⟨6, (some 73), (.bin .neq (.t 71)
  (.t 72)), none⟩, ⟨7, (some 74), (.mv (.t 73)), none⟩, ⟨8, (some 75), (.mv (.t 16)), (some (74, false))⟩, ⟨9, (some 76), (.bin .neq (.t 75) (.c (.int .i64
  3))), (some (74, false))⟩, ⟨10, (some 77), (.mv (.t 76)), (some (74, false))⟩, ⟨11, (some 78), (.mv (.t 9)), (some (77, true))⟩, ⟨12, (some 79), (.mv (.t
  14)), (some (77, true))⟩, ⟨13, (some 80), (.idx 5 (.t 78) (.t 79)), (some (77, true))⟩, ⟨14, (some 81), (.fld 1 (.t 80)), (some (77, true))⟩, ⟨15, (some
  82), (.load true 4 (.t 81)), (some (77, true))⟩, ⟨16, (some 83), (.mv (.t 8)), (some (77, true))⟩, ⟨17, (some 84), (.mv (.t 14)), (some (77, true))⟩, ⟨18,
  (some 85), (.idx 4 (.t 83) (.t 84)), (some (77, true))⟩, ⟨19, (some 86), (.load true 4 (.t 85)), (some (77, true))⟩, ⟨20, (some 87), (.eqag true [0, 0, 0,
  0] (.t 82) (.t 86)), (some (77, true))⟩, ⟨21, (some 88), (.pick (.t 77) (.t 87) (.c (.bool false))), (some (74, false))⟩, ⟨22, (some 89), (.pick (.t 74) (.c
  (.bool true)) (.t 88)), none⟩, ⟨23, (some 90), (.mv (.t 89)), none⟩, ⟨24, (some 91), (.mv (.t 16)), (some (90, false))⟩, ⟨25, (some 92), (.bin .eql (.t 91)
  (.c (.int .i64 3))), (some (90, false))⟩, ⟨26, (some 93), (.mv (.t 92)), (some (90, false))⟩, ⟨27, (some 94), (.mv (.t 9)), (some (93, true))⟩, ⟨28, (some
  95), (.mv (.t 14)), (some (93, true))⟩, ⟨29, (some 96), (.idx 5 (.t 94) (.t 95)), (some (93, true))⟩, ⟨30, (some 97), (.fld 1 (.t 96)), (some (93, true))⟩,
  ⟨31, (some 98), (.load true 4 (.t 97)), (some (93, true))⟩, ⟨32, (some 99), (.build [(.int .i64 0), (.int .i64 0), (.int .i64 0), (.int .i64 0)] []), (some
  (93, true))⟩, ⟨33, (some 100), (.eqag true [0, 0, 0, 0] (.t 98) (.t 99)), (some (93, true))⟩, ⟨34, (some 101), (.pick (.t 93) (.t 100) (.c (.bool false))),
  (some (90, false))⟩, ⟨35, (some 102), (.pick (.t 90) (.c (.bool true)) (.t 101)), none⟩]) (.cond (.t 102) (.seq (.reg [] false [⟨0, (some 6), (.mv (.c
  (.bool false))), none⟩]) .ret) .skip)))))) (.reg [] false [⟨0, (some 103), (.bin .add (.t 53) (.c (.int .i64 1))), none⟩, ⟨0, (some 53), (.mv (.t 103)),
  none⟩]))))))) (.seq (.reg [(7, true), (8, false)] false [⟨0, (some 105), (.load true 2 (.t 7)), none⟩, ⟨0, (some 106), (.mv (.t 8)), none⟩, ⟨0, (some 107),
  (.callf false (.c (.fn (.func 34) [] [])) [(.t 105), (.t 106)] []), none⟩, ⟨0, (some 104), (.mv (.t 107)), none⟩, ⟨0, (some 108), (.ext (.t 104) 0), none⟩,
  ⟨0, (some 109), (.ext (.t 104) 1), none⟩, ⟨0, (some 17), (.mv (.t 108)), none⟩, ⟨0, (some 10), (.mv (.t 109)), none⟩]) (.seq (.seq (.reg [] false [⟨0, (some
  110), (.mv (.t 10)), none⟩, ⟨0, (some 111), (.bin .neq (.t 110) (.c (.int .i64 0))), none⟩, ⟨0, (some 112), (.mv (.t 111)), none⟩, ⟨0, (some 113), (.mv (.t
  17)), (some (112, false))⟩, ⟨0, (some 114), (.bin .neq (.t 113) (.c (.int .i64 0))), (some (112, false))⟩, ⟨0, (some 115), (.pick (.t 112) (.c (.bool true))
  (.t 114)), none⟩]) (.cond (.t 115) (.seq (.reg [] false [⟨0, (some 6), (.mv (.c (.bool false))), none⟩]) .ret) .skip)) (.seq (.reg [] false [⟨0, (some 18),
  (.mv (.c .nilsl)), none⟩]) (.seq (.seq (.reg [] false [⟨0, (some 19), (.mv (.c (.int .i64 0))), none⟩]) (.block 2 (.loop [1, 2, 7, 18, 19] (.seq (.seq (.reg
  [] false [⟨0, (some 116), (.mv (.t 19)), none⟩, ⟨0, (some 117), (.fld 0 (.t 7)), none⟩, ⟨0, (some 118), (.load false 1 (.t 117)), none⟩, ⟨0, (some 119),
  (.bin .lss (.t 116) (.t 118)), none⟩]) (.cond (.t 119) .skip (.exit 2))) (.seq (.block 3 (.seq (.reg [] false [⟨0, (some 122), (.mv (.t 1)), none⟩, ⟨0,
  (some 123), (.mv (.t 19)), none⟩, ⟨0, (some 124), (.bin .shr (.t 122) (.t 123)), none⟩, ⟨0, (some 125), (.bin .and (.t 124) (.c (.int .u8 1))), none⟩, ⟨0,
  (some 126), (.bin .eql (.t 125) (.c (.int .u8 1))), none⟩]) (.cond (.t 126) (.reg [] false [⟨0, (some 127), (.mv (.t 18)), none⟩, ⟨0, (some 128), (.mv (.t
  19)), none⟩, ⟨0, (some 129), (.bslice 1 1 [(.int .i64 0)] [(0, (1, (.t 128)))]), none⟩, ⟨0, (some 130), (.app 1 8 (.t 127) (.t 129)), none⟩, ⟨0, (some 18),
  (.mv (.t 130)), none⟩]) .skip))) (.reg [] false [⟨0, (some 120), (.mv (.t 19)), none⟩, ⟨0, (some 121), (.bin .add (.t 120) (.c (.int .i64 1))), none⟩, ⟨0,
  (some 19), (.mv (.t 121)), none⟩])))))) (.seq (.seq (.reg [] false [⟨0, (some 131), (.mv (.t 18)), none⟩, ⟨0, (some 132), (.len false (.t 131)), none⟩, ⟨0,
  (some 133), (.bin .eql (.t 132) (.c (.int .i64 0))), none⟩]) (.cond (.t 133) (.seq (.reg [] false [⟨0, (some 134), (.callf false (.c (.fn (.func 12) [] []))
  [] []), none⟩, ⟨0, (some 6), (.mv (.t 134)), none⟩]) .ret) .skip)) (.seq (.reg [(7, true), (18, false)] false [⟨0, (some 135), (.load true 2 (.t 7)), none⟩,
  ⟨0, (some 136), (.mv (.t 18)), none⟩, ⟨0, (some 137), (.mv (.t 2)), none⟩, ⟨0, (some 138), (.conv .i64 (.t 137)), none⟩, ⟨0, (some 139), (.bin .rem (.t 138)
  (.c (.int .i64 4))), none⟩, ⟨0, (some 140), (.callf false (.c (.fn (.func 28) [] [])) [(.t 135), (.t 136), (.t 139)] []), none⟩, ⟨0, (some 141), (.bin .eql
  (.t 140) (.c (.int .i64 11))), none⟩, ⟨0, (some 142), (.mv (.t 141)), none⟩, ⟨0, (some 143), (.callf false (.c (.fn (.func 12) [] [])) [] []), (some (142,
  true))⟩, ⟨0, (some 144), (.pick (.t 142) (.t 143) (.c (.bool false))), none⟩, ⟨0, (some 6), (.mv (.t 144)), none⟩]) .ret))))))))))))⟩
theorem is11 : FnIs prog 11 x11.fn := ⟨fun vs w => call11 vs w, _, _, func11, rfl, rfl, by kernel_rfl, by kernel_rfl⟩
theorem ok11 : okX x11.body = true := by kernel_rfl
theorem st11 : sitesP x11 x11.body := (sitesP_of rfl)

/-- zafra/zafralaw01.works -/
def x12 : XFn := ⟨210, [(0, none)], false, false,
  (.seq (.reg [] false [⟨0, (some 0), (.mv (.c (.bool false))), none⟩]) (.seq (.reg [] false [⟨0, (some 20), (.callf false (.c (.fn (.func 32) [] [])) [] []),
  none⟩, ⟨0, (some 21), (.callf false (.c (.fn (.func 32) [] [])) [] []), none⟩, ⟨0, (some 22), (.callf false (.c (.fn (.func 32) [] [])) [] []), none⟩, ⟨0,
  (some 1), (.alloc [(.int .i64 0), .nilsl]), none⟩, ⟨0, (some 2), (.alloc [(.int .i64 0), .nilsl]), none⟩, ⟨0, (some 3), (.alloc [(.int .i64 0), .nilsl]),
  none⟩, ⟨0, none, (.store 2 (.t 1) (.t 20) []), none⟩, ⟨0, none, (.store 2 (.t 2) (.t 21) []), none⟩, ⟨0, none, (.store 2 (.t 3) (.t 22) []), none⟩]) (.seq
  (.reg [] false [⟨0, (some 23), (.fld 1 (.t 2)), none⟩, ⟨0, (some 24), (.load false 1 (.t 23)), none⟩, ⟨0, (some 25), (.idx 7 (.t 24) (.c (.int .i64 3))),
  none⟩, ⟨0, (some 26), (.fld 2 (.t 25)), none⟩, ⟨0, none, (.store 1 (.t 26) (.c (.bool false)) []), none⟩]) (.seq (.seq (.reg [] false [⟨0, (some 4), (.mv
  (.c (.int .i64 1))), none⟩]) (.block 0 (.loop [1, 2, 3, 4] (.seq (.seq (.reg [] false [⟨0, (some 27), (.mv (.t 4)), none⟩, ⟨0, (some 28), (.bin .lss (.t 27)
  (.c (.int .i64 6))), none⟩]) (.cond (.t 28) .skip (.exit 0))) (.seq (.block 1 (.reg [] false [⟨0, (some 31), (.fld 1 (.t 3)), none⟩, ⟨0, (some 32), (.load
  false 1 (.t 31)), none⟩, ⟨0, (some 33), (.mv (.t 4)), none⟩, ⟨0, (some 34), (.idx 7 (.t 32) (.t 33)), none⟩, ⟨0, (some 35), (.fld 2 (.t 34)), none⟩, ⟨0,
  none, (.store 1 (.t 35) (.c (.bool true)) []), none⟩])) (.reg [] false [⟨0, (some 29), (.mv (.t 4)), none⟩, ⟨0, (some 30), (.bin .add (.t 29) (.c (.int .i64
  1))), none⟩, ⟨0, (some 4), (.mv (.t 30)), none⟩])))))) (.seq (.reg [] true [⟨0, (some 36), (.fld 1 (.t 3)), none⟩, ⟨1, (some 37), (.load false 1 (.t 36)),
  none⟩, ⟨2, (some 38), (.fld 1 (.t 3)), none⟩, ⟨3, (some 39), (.load false 1 (.t 38)), none⟩, ⟨4, (some 40), (.fld 1 (.t 3)), none⟩, ⟨5, (some 41), (.load
  false 1 (.t 40)), none⟩, ⟨6, (some 42), (.build [(.int .i64 0), (.int .i64 0), (.int .i64 0), (.int .i64 0)] [(0, (1, (.c (.int .i64 95)))), (1, (1, (.c
  (.int .i64 450)))), (2, (1, (.c (.int .i64 5)))), (3, (1, (.c (.int .i64 12))))]), none⟩, ⟨7, (some 43), (.build [(.int .i64 0), (.int .i64 0), (.int .i64
  0), (.int .i64 0)] [(0, (1, (.c (.int .i64 5)))), (1, (1, (.c (.int .i64 410)))), (2, (1, (.c (.int .i64 5)))), (3, (1, (.c (.int .i64 6))))]), none⟩, ⟨8,
  (some 44), (.build [(.int .i64 0), (.int .i64 0), (.int .i64 0), (.int .i64 0)] [(0, (1, (.c (.int .i64 10)))), (1, (1, (.c (.int .i64 39)))), (2, (1, (.c
  (.int .i64 0)))), (3, (1, (.c (.int .i64 4))))]), none⟩, ⟨9, (some 45), (.idx 7 (.t 37) (.c (.int .i64 1))), none⟩, ⟨10, (some 46), (.fld 3 (.t 45)), none⟩,
  ⟨11, none, (.store 4 (.t 46) (.t 42) [3, 5]), none⟩, ⟨12, (some 47), (.idx 7 (.t 39) (.c (.int .i64 4))), none⟩, ⟨13, (some 48), (.fld 3 (.t 47)), none⟩,
  ⟨14, none, (.store 4 (.t 48) (.t 43) [5]), none⟩, ⟨15, (some 49), (.idx 7 (.t 41) (.c (.int .i64 5))), none⟩, ⟨16, (some 50), (.fld 3 (.t 49)), none⟩, ⟨17,
  none, (.store 4 (.t 50) (.t 44) []), none⟩]) (.seq (.reg [(1, true)] false [⟨0, (some 52), (.load true 2 (.t 1)), none⟩, ⟨0, (some 53), (.callf false (.c
  (.fn (.func 13) [] [])) [(.t 52)] []), none⟩, ⟨0, (some 51), (.mv (.t 53)), none⟩, ⟨0, (some 54), (.ext (.t 51) 0), none⟩, ⟨0, (some 55), (.ext (.t 51) 1),
  none⟩, ⟨0, (some 5), (.mv (.t 54)), none⟩, ⟨0, (some 6), (.mv (.t 55)), none⟩]) (.seq (.reg [(1, true)] false [⟨0, (some 57), (.load true 2 (.t 1)), none⟩,
  ⟨0, (some 58), (.callf false (.c (.fn (.func 23) [] [])) [(.t 57)] []), none⟩, ⟨0, (some 56), (.mv (.t 58)), none⟩, ⟨0, (some 59), (.ext (.t 56) 0), none⟩,
  ⟨0, (some 60), (.ext (.t 56) 1), none⟩, ⟨0, (some 7), (.mv (.t 59)), none⟩, ⟨0, (some 8), (.mv (.t 60)), none⟩]) (.seq (.reg [(2, true)] false [⟨0, (some
  62), (.load true 2 (.t 2)), none⟩, ⟨0, (some 63), (.callf false (.c (.fn (.func 23) [] [])) [(.t 62)] []), none⟩, ⟨0, (some 61), (.mv (.t 63)), none⟩, ⟨0,
  (some 64), (.ext (.t 61) 0), none⟩, ⟨0, (some 65), (.ext (.t 61) 1), none⟩, ⟨0, (some 9), (.mv (.t 64)), none⟩, ⟨0, (some 10), (.mv (.t 65)), none⟩]) (.seq
  (.reg [(1, true)] false [⟨0, (some 67), (.load true 2 (.t 1)), none⟩, ⟨0, (some 68), (.bslice 1 2 [(.int .i64 0)] [(0, (1, (.c (.int .i64 0)))), (1, (1, (.c
  (.int .i64 1))))]), none⟩, ⟨0, (some 69), (.callf false (.c (.fn (.func 16) [] [])) [(.t 67), (.t 68)] []), none⟩, ⟨0, (some 66), (.mv (.t 69)), none⟩, ⟨0,
  (some 70), (.ext (.t 66) 0), none⟩, ⟨0, (some 71), (.ext (.t 66) 1), none⟩, ⟨0, (some 11), (.alloc [(.int .i64 0), (.int .i64 0), (.int .i64 0), (.int .i64
  0)]), none⟩, ⟨0, none, (.store 4 (.t 11) (.t 70) []), none⟩, ⟨0, (some 12), (.mv (.t 71)), none⟩]) (.seq (.reg [(2, true)] false [⟨0, (some 73), (.load true
  2 (.t 2)), none⟩, ⟨0, (some 74), (.build [(.int .i64 0), (.int .i64 0), (.int .i64 0), (.int .i64 0)] []), none⟩, ⟨0, (some 75), (.callf false (.c (.fn
  (.func 33) [] [])) [(.t 73), (.c (.int .i64 3)), (.t 74)] []), none⟩, ⟨0, (some 72), (.mv (.t 75)), none⟩, ⟨0, (some 76), (.ext (.t 72) 0), none⟩, ⟨0, (some
  77), (.ext (.t 72) 1), none⟩, ⟨0, (some 13), (.mv (.t 76)), none⟩, ⟨0, (some 14), (.mv (.t 77)), none⟩]) (.seq (.reg [(3, true)] false [⟨0, (some 79),
  (.load true 2 (.t 3)), none⟩, ⟨0, (some 80), (.callf false (.c (.fn (.func 23) [] [])) [(.t 79)] []), none⟩, ⟨0, (some 78), (.mv (.t 80)), none⟩, ⟨0, (some
  81), (.ext (.t 78) 0), none⟩, ⟨0, (some 82), (.ext (.t 78) 1), none⟩, ⟨0, (some 15), (.mv (.t 81)), none⟩, ⟨0, (some 16), (.mv (.t 82)), none⟩]) (.seq (.reg
  [(3, true)] false [⟨0, (some 84), (.load true 2 (.t 3)), none⟩, ⟨0, (some 85), (.callf false (.c (.fn (.func 25) [] [])) [(.t 84)] []), none⟩, ⟨0, (some
  83), (.mv (.t 85)), none⟩, ⟨0, (some 86), (.ext (.t 83) 0), none⟩, ⟨0, (some 87), (.ext (.t 83) 1), none⟩, ⟨0, (some 88), (.ext (.t 83) 2), none⟩, ⟨0, (some
  17), (.mv (.t 86)), none⟩, ⟨0, (some 18), (.mv (.t 87)), none⟩, ⟨0, (some 19), (.mv (.t 88)), none⟩]) (.seq (.seq (.reg [(5, false), (3, true), (17, false),
  (18, false)] false [⟨0, (some 89), (.mv (.t 6)), none⟩, ⟨0, (some 90), (.bin .neq (.t 89) (.c (.int .i64 0))), none⟩, ⟨0, (some 91), (.mv (.t 90)), none⟩,
  ⟨0, (some 92), (.mv (.t 8)), (some (91, false))⟩, ⟨0, (some 93), (.bin .neq (.t 92) (.c (.int .i64 0))), (some (91, false))⟩, ⟨0, (some 94), (.pick (.t 91)
  (.c (.bool true)) (.t 93)), none⟩, ⟨0, (some 95), (.mv (.t 94)), none⟩, ⟨0, (some 96), (.mv (.t 10)), (some (95, false))⟩, ⟨0, (some 97), (.bin .neq (.t 96)
  (.c (.int .i64 0))), (some (95, false))⟩, ⟨0, (some 98), (.pick (.t 95) (.c (.bool true)) (.t 97)), none⟩, ⟨0, (some 99), (.mv (.t 98)), none⟩, ⟨0, (some
  100), (.mv (.t 12)), (some (99, false))⟩, ⟨0, (some 101), (.bin .neq (.t 100) (.c (.int .i64 0))), (some (99, false))⟩, ⟨0, (some 102), (.pick (.t 99) (.c
  (.bool true)) (.t 101)), none⟩, ⟨0, (some 103), (.mv (.t 102)), none⟩, ⟨0, (some 104), (.mv (.t 14)), (some (103, false))⟩, ⟨0, (some 105), (.bin .neq (.t
  104) (.c (.int .i64 0))), (some (103, false))⟩, ⟨0, (some 106), (.pick (.t 103) (.c (.bool true)) (.t 105)), none⟩, ⟨0, (some 107), (.mv (.t 106)), none⟩,
  ⟨0, (some 108), (.mv (.t 16)), (some (107, false))⟩, ⟨0, (some 109), (.bin .neq (.t 108) (.c (.int .i64 12))), (some (107, false))⟩, ⟨0, (some 110), (.pick
  (.t 107) (.c (.bool true)) (.t 109)), none⟩, ⟨0, (some 111), (.mv (.t 110)), none⟩, ⟨0, (some 112), (.mv (.t 19)), (some (111, false))⟩, ⟨0, (some 113),
  (.bin .neq (.t 112) (.c (.int .i64 0))), (some (111, false))⟩, ⟨0, (some 114), (.pick (.t 111) (.c (.bool true)) (.t 113)), none⟩, ⟨0, (some 115), (.mv (.t
  114)), none⟩, ⟨0, (some 116), (.mv (.t 5)), (some (115, false))⟩, ⟨0, (some 117), (.bslice 1 3 [(.int .i64 0)] [(0, (1, (.c (.int .i64 (-1))))), (1, (1, (.c
  (.int .i64 (-1))))), (2, (1, (.c (.int .i64 (-1)))))]), (some (115, false))⟩, ⟨0, (some 118), (.callf false (.c (.fn (.func 22) [] [])) [(.t 116), (.t 117)]
  []), (some (115, false))⟩, ⟨0, (some 119), (.not (.t 118)), (some (115, false))⟩, ⟨0, (some 120), (.pick (.t 115) (.c (.bool true)) (.t 119)), none⟩, ⟨0,
  (some 121), (.mv (.t 120)), none⟩, ⟨0, (some 122), (.mv (.t 7)), (some (121, false))⟩, ⟨0, (some 123), (.len false (.t 122)), (some (121, false))⟩, ⟨0,
  (some 124), (.bin .neq (.t 123) (.c (.int .i64 7))), (some (121, false))⟩, ⟨0, (some 125), (.pick (.t 121) (.c (.bool true)) (.t 124)), none⟩, ⟨0, (some
  126), (.mv (.t 125)), none⟩, ⟨0, (some 127), (.mv (.t 9)), (some (126, false))⟩, ⟨0, (some 128), (.len false (.t 127)), (some (126, false))⟩, ⟨0, (some
  129), (.bin .neq (.t 128) (.c (.int .i64 7))), (some (126, false))⟩, ⟨0, (some 130), (.pick (.t 126) (.c (.bool true)) (.t 129)), none⟩, ⟨0, (some 131),
  (.mv (.t 130)), none⟩, ⟨0, (some 132), (.mv (.t 13)), (some (131, false))⟩, ⟨0, (some 133), (.len false (.t 132)), (some (131, false))⟩, ⟨0, (some 134),
  (.bin .neq (.t 133) (.c (.int .i64 7))), (some (131, false))⟩, ⟨0, (some 135), (.pick (.t 131) (.c (.bool true)) (.t 134)), none⟩, ⟨0, (some 136), (.mv (.t
  135)), none⟩, ⟨0, (some 137), (.load true 2 (.t 3)), (some (136, false))⟩, ⟨0, (some 138), (.mv (.t 17)), (some (136, false))⟩, ⟨0, (some 139), (.mv (.t
  18)), (some (136, false))⟩, ⟨0, (some 140), (.callf false (.c (.fn (.func 28) [] [])) [(.t 137), (.t 138), (.t 139)] []), (some (136, false))⟩, ⟨0, (some
  141), (.bin .neq (.t 140) (.c (.int .i64 0))), (some (136, false))⟩, ⟨0, (some 142), (.pick (.t 136) (.c (.bool true)) (.t 141)), none⟩, ⟨0, (some 143),
  (.mv (.t 142)), none⟩, ⟨0, (some 144), (.load true 2 (.t 3)), (some (143, false))⟩, ⟨0, (some 145), (.bslice 1 1 [(.int .i64 0)] [(0, (1, (.c (.int .i64
  2))))]), (some (143, false))⟩, ⟨0, (some 146), (.callf false (.c (.fn (.func 28) [] [])) [(.t 144), (.t 145), (.c (.int .i64 3))] []), (some (143, false))⟩,
  ⟨0, (some 147), (.bin .neq (.t 146) (.c (.int .i64 0))), (some (143, false))⟩, ⟨0, (some 148), (.pick (.t 143) (.c (.bool true)) (.t 147)), none⟩]) (.cond
  (.t 148) (.seq (.reg [] false [⟨0, (some 0), (.mv (.c (.bool false))), none⟩]) .ret) .skip)) (.seq (.reg [] false [⟨0, (some 149), (.mv (.t 7)), none⟩, ⟨0,
  (some 150), (.idx 5 (.t 149) (.c (.int .i64 1))), none⟩, ⟨0, (some 151), (.load true 5 (.t 150)), none⟩, ⟨0, (some 152), (.build [(.int .i64 0), (.int .i64
  0), (.int .i64 0), (.int .i64 0)] [(0, (1, (.c (.int .i64 95)))), (1, (1, (.c (.int .i64 450)))), (2, (1, (.c (.int .i64 5)))), (3, (1, (.c (.int .i64
  12))))]), none⟩, ⟨0, (some 153), (.build [(.int .i64 0), (.int .i64 0), (.int .i64 0), (.int .i64 0), (.int .i64 0)] [(0, (1, (.c (.int .i64 2)))), (1, (4,
  (.t 152)))]), none⟩, ⟨0, (some 154), (.eqag false [0, 0, 0, 0, 0] (.t 151) (.t 153)), none⟩, ⟨0, (some 155), (.mv (.t 154)), none⟩, ⟨0, (some 156), (.mv (.t
  7)), (some (155, true))⟩, ⟨0, (some 157), (.idx 5 (.t 156) (.c (.int .i64 5))), (some (155, true))⟩, ⟨0, (some 158), (.load true 5 (.t 157)), (some (155,
  true))⟩, ⟨0, (some 159), (.build [(.int .i64 0), (.int .i64 0), (.int .i64 0), (.int .i64 0)] [(0, (1, (.c (.int .i64 10)))), (1, (1, (.c (.int .i64 39)))),
  (2, (1, (.c (.int .i64 0)))), (3, (1, (.c (.int .i64 5))))]), (some (155, true))⟩, ⟨0, (some 160), (.build [(.int .i64 0), (.int .i64 0), (.int .i64 0),
  (.int .i64 0), (.int .i64 0)] [(0, (1, (.c (.int .i64 2)))), (1, (4, (.t 159)))]), (some (155, true))⟩, ⟨0, (some 161), (.eqag false [0, 0, 0, 0, 0] (.t
  158) (.t 160)), (some (155, true))⟩, ⟨0, (some 162), (.pick (.t 155) (.t 161) (.c (.bool false))), none⟩, ⟨0, (some 163), (.mv (.t 162)), none⟩, ⟨0, (some
  164), (.mv (.t 7)), (some (163, true))⟩, ⟨0, (some 165), (.idx 5 (.t 164) (.c (.int .i64 2))), (some (163, true))⟩, ⟨0, (some 166), (.fld 0 (.t 165)), (some
  (163, true))⟩, ⟨0, (some 167), (.load false 1 (.t 166)), (some (163, true))⟩, ⟨0, (some 168), (.bin .eql (.t 167) (.c (.int .i64 1))), (some (163, true))⟩,
  ⟨0, (some 169), (.pick (.t 163) (.t 168) (.c (.bool false))), none⟩, ⟨0, (some 170), (.mv (.t 169)), none⟩, ⟨0, (some 171), (.mv (.t 9)), (some (170,
  true))⟩, ⟨0, (some 172), (.idx 5 (.t 171) (.c (.int .i64 1))), (some (170, true))⟩, ⟨0, (some 173), (.fld 0 (.t 172)), (some (170, true))⟩, ⟨0, (some 174),
  (.load false 1 (.t 173)), (some (170, true))⟩, ⟨0, (some 175), (.bin .eql (.t 174) (.c (.int .i64 2))), (some (170, true))⟩, ⟨0, (some 176), (.pick (.t 170)
  (.t 175) (.c (.bool false))), none⟩, ⟨0, (some 177), (.mv (.t 176)), none⟩, ⟨0, (some 178), (.mv (.t 9)), (some (177, true))⟩, ⟨0, (some 179), (.idx 5 (.t
  178) (.c (.int .i64 3))), (some (177, true))⟩, ⟨0, (some 180), (.load true 5 (.t 179)), (some (177, true))⟩, ⟨0, (some 181), (.build [(.int .i64 0), (.int
  .i64 0), (.int .i64 0), (.int .i64 0), (.int .i64 0)] [(0, (1, (.c (.int .i64 3))))]), (some (177, true))⟩, ⟨0, (some 182), (.eqag false [0, 0, 0, 0, 0] (.t
  180) (.t 181)), (some (177, true))⟩, ⟨0, (some 183), (.pick (.t 177) (.t 182) (.c (.bool false))), none⟩, ⟨0, (some 184), (.mv (.t 183)), none⟩, ⟨0, (some
  185), (.load true 4 (.t 11)), (some (184, true))⟩, ⟨0, (some 186), (.build [(.int .i64 0), (.int .i64 0), (.int .i64 0), (.int .i64 0)] [(0, (1, (.c (.int
  .i64 5)))), (1, (1, (.c (.int .i64 410)))), (2, (1, (.c (.int .i64 5)))), (3, (1, (.c (.int .i64 6))))]), (some (184, true))⟩, ⟨0, (some 187), (.eqag false
  [0, 0, 0, 0] (.t 185) (.t 186)), (some (184, true))⟩, ⟨0, (some 188), (.pick (.t 184) (.t 187) (.c (.bool false))), none⟩, ⟨0, (some 189), (.mv (.t 188)),
  none⟩, ⟨0, (some 190), (.mv (.t 13)), (some (189, true))⟩, ⟨0, (some 191), (.idx 4 (.t 190) (.c (.int .i64 4))), (some (189, true))⟩, ⟨0, (some 192), (.load
  true 4 (.t 191)), (some (189, true))⟩, ⟨0, (some 193), (.build [(.int .i64 0), (.int .i64 0), (.int .i64 0), (.int .i64 0)] [(0, (1, (.c (.int .i64 95)))),
  (1, (1, (.c (.int .i64 450)))), (2, (1, (.c (.int .i64 5)))), (3, (1, (.c (.int .i64 12))))]), (some (189, true))⟩, ⟨0, (some 194), (.eqag false [0, 0, 0,
  0] (.t 192) (.t 193)), (some (189, true))⟩, ⟨0, (some 195), (.pick (.t 189) (.t 194) (.c (.bool false))), none⟩, ⟨0, (some 196), (.mv (.t 195)), none⟩, ⟨0,
  (some 197), (.mv (.t 13)), (some (196, true))⟩, ⟨0, (some 198), (.idx 4 (.t 197) (.c (.int .i64 5))), (some (196, true))⟩, ⟨0, (some 199), (.load true 4 (.t
  198)), (some (196, true))⟩, ⟨0, (some 200), (.build [(.int .i64 0), (.int .i64 0), (.int .i64 0), (.int .i64 0)] [(0, (1, (.c (.int .i64 (-80))))), (1, (1,
  (.c (.int .i64 (-1))))), (2, (1, (.c (.int .i64 0)))), (3, (1, (.c (.int .i64 (-1)))))]), (some (196, true))⟩, ⟨0, (some 201), (.eqag false [0, 0, 0, 0] (.t
  199) (.t 200)), (some (196, true))⟩, ⟨0, (some 202), (.pick (.t 196) (.t 201) (.c (.bool false))), none⟩, ⟨0, (some 203), (.mv (.t 202)), none⟩, ⟨0, (some
  204), (.callf false (.c (.fn (.func 18) [] [])) [(.c (.str ⟨#[97, 57]⟩))] []), (some (203, true))⟩, ⟨0, (some 205), (.pick (.t 203) (.t 204) (.c (.bool
  false))), none⟩, ⟨0, (some 206), (.mv (.t 205)), none⟩, ⟨0, (some 207), (.callf false (.c (.fn (.func 18) [] [])) [(.c (.str ⟨#[57, 97]⟩))] []), (some (206,
  true))⟩, ⟨0, (some 208), (.not (.t 207)), (some (206, true))⟩, ⟨0, (some 209), (.pick (.t 206) (.t 208) (.c (.bool false))), none⟩, ⟨0, (some 0), (.mv (.t
  209)), none⟩]) .ret))))))))))))))⟩
theorem is12 : FnIs prog 12 x12.fn := ⟨fun vs w => call12 vs w, _, _, func12, rfl, rfl, by kernel_rfl, by kernel_rfl⟩
theorem ok12 : okX x12.body = true := by kernel_rfl
theorem st12 : sitesP x12 x12.body := (sitesP_of rfl)

end Go.Proofs.Ytdbikamciedfdaa
