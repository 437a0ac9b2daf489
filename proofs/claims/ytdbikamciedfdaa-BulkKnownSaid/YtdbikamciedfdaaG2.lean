/- The functions of the program as they are read, with remarks, part 2. No statement of the seed is proved here. -/
import Derived.KernelRfl
import Derived.Test.YtdbikamciedfdaaXE
import Derived.Test.YtdbikamciedfdaaProg
set_option maxRecDepth 100000
namespace Go.Proofs.Ytdbikamciedfdaa
open Go Go.DL Go.Proofs.Try

/-- zafra/bulk.Verify -/
def x34 : XFn := ⟨79, [(4, none), (5, none)], false, false,
  (.seq (.reg [] false [⟨0, (some 2), (.box (.t 0)), none⟩, ⟨0, (some 4), (.mv (.c (.int .i64 0))), none⟩, ⟨0, (some 5), (.mv (.c (.int .i64 0))), none⟩]) (.seq
  (.seq (.reg [(2, true)] false [⟨0, (some 11), (.load true 2 (.t 2)), none⟩, ⟨0, (some 12), (.callf false (.c (.fn (.func 20) [] [])) [(.t 11)] []), none⟩,
  ⟨0, (some 6), (.mv (.t 12)), none⟩]) (.seq (.reg [] false [⟨0, (some 13), (.mv (.t 6)), none⟩, ⟨0, (some 14), (.bin .neq (.t 13) (.c (.int .i64 0))),
  none⟩]) (.cond (.t 14) (.seq (.reg [] false [⟨0, (some 15), (.mv (.t 6)), none⟩, ⟨0, (some 4), (.mv (.c (.int .i64 0))), none⟩, ⟨0, (some 5), (.mv (.t 15)),
  none⟩]) .ret) .skip))) (.seq (.block 0 (.seq (.reg [] false [⟨0, (some 17), (.mv (.t 1)), none⟩, ⟨0, (some 18), (.len false (.t 17)), none⟩, ⟨0, (some 19),
  (.fld 1 (.t 2)), none⟩, ⟨0, (some 20), (.load false 1 (.t 19)), none⟩, ⟨0, (some 21), (.len false (.t 20)), none⟩, ⟨0, (some 22), (.bin .neq (.t 18) (.t
  21)), none⟩, ⟨0, (some 16), (.mv (.t 22)), none⟩]) (.cond (.t 16) (.seq (.reg [] false [⟨0, (some 4), (.mv (.c (.int .i64 0))), none⟩, ⟨0, (some 5), (.mv
  (.c (.int .i64 3))), none⟩]) .ret) (.seq (.reg [(1, false)] false [⟨0, (some 24), (.mv (.t 1)), none⟩, ⟨0, (some 25), (.callf false (.c (.fn (.func 62) []
  [])) [(.t 24), (.c (.fn (.func 63) [] []))] []), none⟩, ⟨0, (some 23), (.mv (.t 25)), none⟩]) (.cond (.t 23) (.seq (.reg [] false [⟨0, (some 4), (.mv (.c
  (.int .i64 0))), none⟩, ⟨0, (some 5), (.mv (.c (.int .i64 2))), none⟩]) .ret) .skip))))) (.seq (.reg [] true [⟨0, (some 26), (.fld 0 (.t 2)), none⟩, ⟨1,
  (some 27), (.load false 1 (.t 26)), none⟩, ⟨2, (some 28), (.fld 1 (.t 2)), none⟩, ⟨3, (some 29), (.load false 1 (.t 28)), none⟩, ⟨4, (some 30), (.callf
  false (.c (.fn (.func 56) [] [])) [(.t 29)] [1]), none⟩, ⟨5, (some 31), (.build [(.int .i64 0), .nilsl] [(0, (1, (.t 27))), (1, (1, (.t 30)))]), none⟩, ⟨6,
  (some 7), (.alloc [(.int .i64 0), .nilsl]), none⟩, ⟨7, none, (.store 2 (.t 7) (.t 31) []), none⟩]) (.seq (.seq (.reg [] false [⟨0, (some 32), (.mv (.t 1)),
  none⟩, ⟨0, (some 33), (.len false (.t 32)), none⟩, ⟨0, (some 34), (.mv (.c (.int .i64 0))), none⟩]) (.block 1 (.loop [2, 7, 32, 33, 34] (.seq (.reg [] false
  [⟨0, (some 35), (.bin .lss (.t 34) (.t 33)), none⟩]) (.seq (.cond (.t 35) .skip (.exit 1)) (.seq (.block 2 (.seq (.reg [] false [⟨0, (some 36), (.mv (.t
  34)), none⟩, ⟨0, (some 37), (.idx 4 (.t 32) (.t 34)), none⟩, ⟨0, (some 38), (.load true 4 (.t 37)), none⟩, ⟨0, (some 9), (.alloc [(.int .i64 0), (.int .i64
  0), (.int .i64 0), (.int .i64 0)]), none⟩, ⟨0, (some 8), (.mv (.t 36)), none⟩, ⟨0, none, (.store 4 (.t 9) (.t 38) []), none⟩]) (.seq (.seq (.reg [] true
  [⟨0, (some 39), (.fld 1 (.t 2)), none⟩, ⟨1, (some 40), (.load false 1 (.t 39)), none⟩, ⟨2, (some 41), (.mv (.t 8)), none⟩, ⟨3, (some 42), (.idx 7 (.t 40)
  (.t 41)), none⟩, ⟨4, (some 43), (.fld 2 (.t 42)), none⟩, ⟨5, (some 44), (.load false 1 (.t 43)), none⟩, ⟨6, (some 45), (.mv (.t 44)), none⟩, ⟨7, (some 46),
  (.fld 1 (.t 2)), (some (45, true))⟩, ⟨8, (some 47), (.load false 1 (.t 46)), (some (45, true))⟩, ⟨9, (some 48), (.mv (.t 8)), (some (45, true))⟩, ⟨10, (some
  49), (.idx 7 (.t 47) (.t 48)), (some (45, true))⟩, ⟨11, (some 50), (.fld 3 (.t 49)), (some (45, true))⟩, ⟨12, (some 51), (.load true 4 (.t 50)), (some (45,
  true))⟩, ⟨13, (some 52), (.load true 4 (.t 9)), (some (45, true))⟩, ⟨14, (some 53), (.eqag true [0, 0, 0, 0] (.t 51) (.t 52)), (some (45, true))⟩, ⟨15,
  (some 54), (.pick (.t 45) (.t 53) (.c (.bool false))), none⟩]) (.cond (.t 54) (.seq (.reg [] false [⟨0, (some 4), (.mv (.c (.int .i64 0))), none⟩, ⟨0, (some
  5), (.mv (.c (.int .i64 22))), none⟩]) .ret) .skip)) (.reg [] true [⟨0, (some 55), (.fld 1 (.t 7)), none⟩, ⟨1, (some 56), (.load false 1 (.t 55)), none⟩,
  ⟨2, (some 57), (.mv (.t 8)), none⟩, ⟨3, (some 58), (.fld 1 (.t 7)), none⟩, ⟨4, (some 59), (.load false 1 (.t 58)), none⟩, ⟨5, (some 60), (.mv (.t 8)),
  none⟩, ⟨6, (some 61), (.load true 4 (.t 9)), none⟩, ⟨7, (some 62), (.idx 7 (.t 56) (.t 57)), none⟩, ⟨8, (some 63), (.fld 2 (.t 62)), none⟩, ⟨9, none,
  (.store 1 (.t 63) (.c (.bool true)) [4, 6]), none⟩, ⟨10, (some 64), (.idx 7 (.t 59) (.t 60)), none⟩, ⟨11, (some 65), (.fld 3 (.t 64)), none⟩, ⟨12, none,
  (.store 4 (.t 65) (.t 61) []), none⟩])))) (.reg [] false [⟨0, (some 66), (.bin .add (.t 34) (.c (.int .i64 1))), none⟩, ⟨0, (some 34), (.mv (.t 66)),
  none⟩]))))))) (.seq (.seq (.reg [] false [⟨0, (some 67), (.fld 0 (.t 2)), none⟩, ⟨0, (some 68), (.load false 1 (.t 67)), none⟩, ⟨0, (some 69), (.mv (.c
  (.int .i64 0))), none⟩]) (.block 3 (.loop [7, 68, 69] (.seq (.reg [] false [⟨0, (some 70), (.bin .lss (.t 69) (.t 68)), none⟩]) (.seq (.cond (.t 70) .skip
  (.exit 3)) (.seq (.block 4 (.seq (.reg [] false [⟨0, (some 71), (.mv (.t 69)), none⟩, ⟨0, (some 10), (.alloc [(.int .i64 0)]), none⟩, ⟨0, none, (.store 1
  (.t 10) (.t 71) []), none⟩]) (.seq (.reg [(7, true)] false [⟨0, (some 72), (.load true 2 (.t 7)), none⟩, ⟨0, (some 73), (.mkf (.func 64) [] [(.t 10)]),
  none⟩, ⟨0, (some 74), (.callf false (.c (.fn (.func 39) [] [])) [(.t 72), (.c (.int .i64 (-1))), (.t 73)] []), none⟩, ⟨0, (some 75), (.build [(.int .i64 0),
  (.int .i64 0), (.int .i64 0), (.int .i64 0)] []), none⟩, ⟨0, (some 76), (.eqag true [0, 0, 0, 0] (.t 74) (.t 75)), none⟩]) (.cond (.t 76) (.seq (.reg []
  false [⟨0, (some 77), (.load false 1 (.t 10)), none⟩, ⟨0, (some 4), (.mv (.t 77)), none⟩, ⟨0, (some 5), (.mv (.c (.int .i64 19))), none⟩]) .ret) .skip))))
  (.reg [] false [⟨0, (some 78), (.bin .add (.t 69) (.c (.int .i64 1))), none⟩, ⟨0, (some 69), (.mv (.t 78)), none⟩]))))))) (.seq (.reg [] false [⟨0, (some
  4), (.mv (.c (.int .i64 0))), none⟩, ⟨0, (some 5), (.mv (.c (.int .i64 0))), none⟩]) .ret)))))))⟩
theorem is34 : FnIs prog 34 x34.fn := ⟨fun vs w => call34 vs w, _, _, func34, rfl, rfl, by kernel_rfl, by kernel_rfl⟩
theorem ok34 : okX x34.body = true := by kernel_rfl
theorem st34 : sitesP x34 x34.body := (sitesP_of rfl)

/-- slices.Repeat of  of int,int -/
def x35 : XFn := ⟨48, [(4, none)], true, true,
  (.seq (.reg [] false [⟨0, (some 4), (.mv (.c .nilsl)), none⟩]) (.seq (.seq (.reg [] false [⟨0, (some 9), (.mv (.t 1)), none⟩, ⟨0, (some 10), (.bin .lss (.t 9)
  (.c (.int .i64 0))), none⟩]) (.cond (.t 10) (.reg [] false [⟨0, (some 11), (.mkifc 9 (.c (.str ⟨#[99, 97, 110, 110, 111, 116, 32, 98, 101, 32, 110, 101,
  103, 97, 116, 105, 118, 101]⟩))), none⟩, ⟨0, none, .stuck, none⟩]) .skip)) (.seq (.reg [] false [⟨0, (some 13), (.mv (.t 0)), none⟩, ⟨0, (some 14), (.len
  false (.t 13)), none⟩, ⟨0, (some 15), (.conv .u64 (.t 14)), none⟩, ⟨0, (some 16), (.mv (.t 1)), none⟩, ⟨0, (some 17), (.conv .u64 (.t 16)), none⟩, ⟨0, (some
  18), (.callf false (.c (.fn (.func 65) [] [])) [(.t 15), (.t 17)] []), none⟩, ⟨0, (some 12), (.mv (.t 18)), none⟩, ⟨0, (some 19), (.ext (.t 12) 0), none⟩,
  ⟨0, (some 20), (.ext (.t 12) 1), none⟩, ⟨0, (some 5), (.mv (.t 19)), none⟩, ⟨0, (some 6), (.mv (.t 20)), none⟩]) (.seq (.seq (.reg [] false [⟨0, (some 21),
  (.mv (.t 5)), none⟩, ⟨0, (some 22), (.bin .gtr (.t 21) (.c (.int .u64 0))), none⟩, ⟨0, (some 23), (.mv (.t 22)), none⟩, ⟨0, (some 24), (.mv (.t 6)), (some
  (23, false))⟩, ⟨0, (some 25), (.bin .gtr (.t 24) (.c (.int .u64 9223372036854775807))), (some (23, false))⟩, ⟨0, (some 26), (.pick (.t 23) (.c (.bool true))
  (.t 25)), none⟩]) (.cond (.t 26) (.reg [] false [⟨0, (some 27), (.mkifc 9 (.c (.str ⟨#[116, 104, 101, 32, 114, 101, 115, 117, 108, 116, 32, 111, 102, 32,
  40, 108, 101, 110, 40, 120, 41, 32, 42, 32, 99, 111, 117, 110, 116, 41, 32, 111, 118, 101, 114, 102, 108, 111, 119, 115]⟩))), none⟩, ⟨0, none, .stuck,
  none⟩]) .skip)) (.seq (.reg [] false [⟨0, (some 28), (.mv (.t 6)), none⟩, ⟨0, (some 29), (.conv .i64 (.t 28)), none⟩, ⟨0, (some 30), (.mksl 1 8 [(.int .i64
  0)] (.t 29) (.t 29)), none⟩, ⟨0, (some 7), (.mv (.t 30)), none⟩]) (.seq (.reg [] false [⟨0, (some 31), (.mv (.t 7)), none⟩, ⟨0, (some 32), (.mv (.t 0)),
  none⟩, ⟨0, (some 33), (.copy 1 (.t 31) (.t 32)), none⟩, ⟨0, (some 8), (.mv (.t 33)), none⟩]) (.seq (.block 0 (.loop [7, 8] (.seq (.seq (.reg [] false [⟨0,
  (some 34), (.mv (.t 8)), none⟩, ⟨0, (some 35), (.mv (.t 7)), none⟩, ⟨0, (some 36), (.len false (.t 35)), none⟩, ⟨0, (some 37), (.bin .lss (.t 34) (.t 36)),
  none⟩]) (.cond (.t 37) .skip (.exit 0))) (.block 1 (.reg [] true [⟨0, (some 38), (.mv (.t 8)), none⟩, ⟨1, (some 39), (.mv (.t 7)), none⟩, ⟨2, (some 40),
  (.mv (.t 8)), none⟩, ⟨3, (some 41), (.slsl 1 (.t 39) (some (.t 40)) none), none⟩, ⟨4, (some 42), (.mv (.t 7)), none⟩, ⟨5, (some 43), (.mv (.t 8)), none⟩,
  ⟨6, (some 44), (.slsl 1 (.t 42) none (some (.t 43))), none⟩, ⟨7, (some 45), (.copy 1 (.t 41) (.t 44)), none⟩, ⟨8, (some 46), (.bin .add (.t 38) (.t 45)),
  none⟩, ⟨9, (some 8), (.mv (.t 46)), none⟩]))))) (.seq (.reg [] false [⟨0, (some 47), (.mv (.t 7)), none⟩, ⟨0, (some 4), (.mv (.t 47)), none⟩]) .ret))))))))⟩
theorem is35 : FnIs prog 35 x35.fn := ⟨fun vs w => call35 vs w, _, _, func35, rfl, rfl, by kernel_rfl, by kernel_rfl⟩
theorem ok35 : okX x35.body = true := by kernel_rfl
theorem st35 : sitesP x35 x35.body := (sitesP_of rfl)

/-- (zafra/bulk.Plant).parts -/
def x36 : XFn := ⟨4, [(2, none)], false, false,
  (.seq (.reg [] false [⟨0, (some 1), (.box (.t 0)), none⟩, ⟨0, (some 2), (.mv (.c .nilfn)), none⟩]) (.seq (.reg [] false [⟨0, (some 3), (.mkf (.func 66) []
  [(.t 1)]), none⟩, ⟨0, (some 2), (.mv (.t 3)), none⟩]) .ret))⟩
theorem is36 : FnIs prog 36 x36.fn := ⟨fun vs w => call36 vs w, _, _, func36, rfl, rfl, by kernel_rfl, by kernel_rfl⟩
theorem ok36 : okX x36.body = true := by kernel_rfl
theorem st36 : sitesP x36 x36.body := (sitesP_of rfl)

/-- zafra/zafraref01.joined -/
def x37 : XFn := ⟨80, [(4, none)], false, false,
  (.seq (.reg [] false [⟨0, (some 2), (.box (.t 0)), none⟩, ⟨0, (some 4), (.mv (.c .nilsl)), none⟩]) (.seq (.reg [] false [⟨0, (some 5), (.mv (.c .nilsl)),
  none⟩]) (.seq (.seq (.reg [] false [⟨0, (some 6), (.mv (.c (.int .i64 0))), none⟩]) (.block 0 (.loop [1, 2, 5, 6] (.seq (.seq (.reg [] false [⟨0, (some 11),
  (.mv (.t 6)), none⟩, ⟨0, (some 12), (.fld 0 (.t 2)), none⟩, ⟨0, (some 13), (.load false 1 (.t 12)), none⟩, ⟨0, (some 14), (.bin .leq (.t 11) (.t 13)),
  none⟩]) (.cond (.t 14) .skip (.exit 0))) (.seq (.block 1 (.reg [] false [⟨0, (some 17), (.mv (.t 5)), none⟩, ⟨0, (some 18), (.mv (.t 6)), none⟩, ⟨0, (some
  19), (.bslice 1 1 [(.int .i64 0)] [(0, (1, (.t 18)))]), none⟩, ⟨0, (some 20), (.app 1 8 (.t 17) (.t 19)), none⟩, ⟨0, (some 5), (.mv (.t 20)), none⟩])) (.reg
  [] false [⟨0, (some 15), (.mv (.t 6)), none⟩, ⟨0, (some 16), (.bin .add (.t 15) (.c (.int .i64 1))), none⟩, ⟨0, (some 6), (.mv (.t 16)), none⟩])))))) (.seq
  (.seq (.reg [] false [⟨0, (some 7), (.mv (.c (.int .i64 0))), none⟩]) (.block 2 (.loop [1, 2, 5, 7] (.seq (.seq (.reg [] false [⟨0, (some 21), (.mv (.t 7)),
  none⟩, ⟨0, (some 22), (.fld 1 (.t 2)), none⟩, ⟨0, (some 23), (.load false 1 (.t 22)), none⟩, ⟨0, (some 24), (.len false (.t 23)), none⟩, ⟨0, (some 25),
  (.bin .lss (.t 21) (.t 24)), none⟩]) (.cond (.t 25) .skip (.exit 2))) (.seq (.block 3 (.seq (.seq (.reg [] false [⟨0, (some 28), (.fld 1 (.t 2)), none⟩, ⟨0,
  (some 29), (.load false 1 (.t 28)), none⟩, ⟨0, (some 30), (.mv (.t 7)), none⟩, ⟨0, (some 31), (.idx 7 (.t 29) (.t 30)), none⟩, ⟨0, (some 32), (.fld 2 (.t
  31)), none⟩, ⟨0, (some 33), (.load false 1 (.t 32)), none⟩, ⟨0, (some 34), (.mv (.t 33)), none⟩, ⟨0, (some 35), (.mv (.t 7)), (some (34, false))⟩, ⟨0, (some
  36), (.mv (.t 1)), (some (34, false))⟩, ⟨0, (some 37), (.bin .eql (.t 35) (.t 36)), (some (34, false))⟩, ⟨0, (some 38), (.pick (.t 34) (.c (.bool true)) (.t
  37)), none⟩]) (.cond (.t 38) (.exit 3) .skip)) (.seq (.reg [] true [⟨0, (some 39), (.mv (.t 5)), none⟩, ⟨1, (some 40), (.fld 1 (.t 2)), none⟩, ⟨2, (some
  41), (.load false 1 (.t 40)), none⟩, ⟨3, (some 42), (.mv (.t 7)), none⟩, ⟨4, (some 43), (.idx 7 (.t 41) (.t 42)), none⟩, ⟨5, (some 44), (.fld 0 (.t 43)),
  none⟩, ⟨6, (some 45), (.load false 1 (.t 44)), none⟩, ⟨7, (some 46), (.bin .add (.t 45) (.c (.int .i64 1))), none⟩, ⟨8, (some 47), (.idx 1 (.t 39) (.t 46)),
  none⟩, ⟨9, (some 48), (.load false 1 (.t 47)), none⟩, ⟨10, (some 49), (.mv (.t 5)), none⟩, ⟨11, (some 50), (.fld 1 (.t 2)), none⟩, ⟨12, (some 51), (.load
  false 1 (.t 50)), none⟩, ⟨13, (some 52), (.mv (.t 7)), none⟩, ⟨14, (some 53), (.idx 7 (.t 51) (.t 52)), none⟩, ⟨15, (some 54), (.fld 1 (.t 53)), none⟩, ⟨16,
  (some 55), (.load false 1 (.t 54)), none⟩, ⟨17, (some 56), (.bin .add (.t 55) (.c (.int .i64 1))), none⟩, ⟨18, (some 57), (.idx 1 (.t 49) (.t 56)), none⟩,
  ⟨19, (some 58), (.load false 1 (.t 57)), none⟩, ⟨20, (some 8), (.mv (.t 48)), none⟩, ⟨21, (some 9), (.mv (.t 58)), none⟩]) (.seq (.reg [] false [⟨0, (some
  10), (.mv (.c (.int .i64 0))), none⟩]) (.block 4 (.loop [1, 2, 5, 7, 8, 9, 10] (.seq (.seq (.reg [] false [⟨0, (some 59), (.mv (.t 10)), none⟩, ⟨0, (some
  60), (.mv (.t 5)), none⟩, ⟨0, (some 61), (.len false (.t 60)), none⟩, ⟨0, (some 62), (.bin .lss (.t 59) (.t 61)), none⟩]) (.cond (.t 62) .skip (.exit 4)))
  (.seq (.block 5 (.seq (.reg [] false [⟨0, (some 65), (.mv (.t 5)), none⟩, ⟨0, (some 66), (.mv (.t 10)), none⟩, ⟨0, (some 67), (.idx 1 (.t 65) (.t 66)),
  none⟩, ⟨0, (some 68), (.load false 1 (.t 67)), none⟩, ⟨0, (some 69), (.mv (.t 8)), none⟩, ⟨0, (some 70), (.mv (.t 9)), none⟩, ⟨0, (some 71), (.mm true (.t
  69) (.t 70)), none⟩, ⟨0, (some 72), (.bin .eql (.t 68) (.t 71)), none⟩]) (.cond (.t 72) (.reg [] false [⟨0, (some 73), (.mv (.t 5)), none⟩, ⟨0, (some 74),
  (.mv (.t 10)), none⟩, ⟨0, (some 75), (.mv (.t 8)), none⟩, ⟨0, (some 76), (.mv (.t 9)), none⟩, ⟨0, (some 77), (.mm false (.t 75) (.t 76)), none⟩, ⟨0, (some
  78), (.idx 1 (.t 73) (.t 74)), none⟩, ⟨0, none, (.store 1 (.t 78) (.t 77) []), none⟩]) .skip))) (.reg [] false [⟨0, (some 63), (.mv (.t 10)), none⟩, ⟨0,
  (some 64), (.bin .add (.t 63) (.c (.int .i64 1))), none⟩, ⟨0, (some 10), (.mv (.t 64)), none⟩]))))))))) (.reg [] false [⟨0, (some 26), (.mv (.t 7)), none⟩,
  ⟨0, (some 27), (.bin .add (.t 26) (.c (.int .i64 1))), none⟩, ⟨0, (some 7), (.mv (.t 27)), none⟩])))))) (.seq (.reg [] false [⟨0, (some 79), (.mv (.t 5)),
  none⟩, ⟨0, (some 4), (.mv (.t 79)), none⟩]) .ret)))))⟩
theorem is37 : FnIs prog 37 x37.fn := ⟨fun vs w => call37 vs w, _, _, func37, rfl, rfl, by kernel_rfl, by kernel_rfl⟩
theorem ok37 : okX x37.body = true := by kernel_rfl
theorem st37 : sitesP x37 x37.body := (sitesP_of rfl)

/-- (zafra/bulk.Plant).chosen -/
def x38 : XFn := ⟨38, [(4, none), (5, none)], false, false,
  (.seq (.reg [] false [⟨0, (some 2), (.box (.t 0)), none⟩, ⟨0, (some 3), (.box (.t 1)), none⟩, ⟨0, (some 4), (.mv (.c .nilfn)), none⟩, ⟨0, (some 5), (.mv (.c
  (.int .i64 0))), none⟩]) (.seq (.seq (.reg [(2, true)] false [⟨0, (some 10), (.load true 2 (.t 2)), none⟩, ⟨0, (some 11), (.callf false (.c (.fn (.func 20)
  [] [])) [(.t 10)] []), none⟩, ⟨0, (some 6), (.mv (.t 11)), none⟩]) (.seq (.reg [] false [⟨0, (some 12), (.mv (.t 6)), none⟩, ⟨0, (some 13), (.bin .neq (.t
  12) (.c (.int .i64 0))), none⟩]) (.cond (.t 13) (.seq (.reg [] false [⟨0, (some 14), (.mv (.t 6)), none⟩, ⟨0, (some 4), (.mv (.c .nilfn)), none⟩, ⟨0, (some
  5), (.mv (.t 14)), none⟩]) .ret) .skip))) (.seq (.seq (.reg [] false [⟨0, (some 15), (.load false 1 (.t 3)), none⟩, ⟨0, (some 16), (.len false (.t 15)),
  none⟩, ⟨0, (some 17), (.bin .eql (.t 16) (.c (.int .i64 0))), none⟩]) (.cond (.t 17) (.seq (.reg [] false [⟨0, (some 4), (.mv (.c .nilfn)), none⟩, ⟨0, (some
  5), (.mv (.c (.int .i64 4))), none⟩]) .ret) .skip)) (.seq (.reg [] false [⟨0, (some 7), (.mv (.c (.int .i64 (-1)))), none⟩]) (.seq (.seq (.reg [] false [⟨0,
  (some 18), (.load false 1 (.t 3)), none⟩, ⟨0, (some 19), (.len false (.t 18)), none⟩, ⟨0, (some 20), (.mv (.c (.int .i64 0))), none⟩]) (.block 0 (.loop [2,
  3, 7, 18, 19, 20] (.seq (.reg [] false [⟨0, (some 21), (.bin .lss (.t 20) (.t 19)), none⟩]) (.seq (.cond (.t 21) .skip (.exit 0)) (.seq (.block 1 (.seq
  (.reg [] false [⟨0, (some 22), (.idx 1 (.t 18) (.t 20)), none⟩, ⟨0, (some 23), (.load false 1 (.t 22)), none⟩, ⟨0, (some 9), (.mv (.t 23)), none⟩]) (.seq
  (.block 2 (.seq (.reg [] false [⟨0, (some 25), (.mv (.t 9)), none⟩, ⟨0, (some 26), (.fld 0 (.t 2)), none⟩, ⟨0, (some 27), (.load false 1 (.t 26)), none⟩,
  ⟨0, (some 28), (.bin .sub (.t 27) (.c (.int .i64 1))), none⟩, ⟨0, (some 29), (.callf false (.c (.fn (.func 42) [] [])) [(.c (.int .i64 0)), (.t 25), (.t
  28)] []), none⟩, ⟨0, (some 30), (.not (.t 29)), none⟩, ⟨0, (some 24), (.mv (.t 30)), none⟩]) (.cond (.t 24) (.seq (.reg [] false [⟨0, (some 4), (.mv (.c
  .nilfn)), none⟩, ⟨0, (some 5), (.mv (.c (.int .i64 17))), none⟩]) .ret) (.seq (.reg [] false [⟨0, (some 32), (.mv (.t 9)), none⟩, ⟨0, (some 33), (.mv (.t
  7)), none⟩, ⟨0, (some 34), (.bin .leq (.t 32) (.t 33)), none⟩, ⟨0, (some 31), (.mv (.t 34)), none⟩]) (.cond (.t 31) (.seq (.reg [] false [⟨0, (some 4), (.mv
  (.c .nilfn)), none⟩, ⟨0, (some 5), (.mv (.c (.int .i64 7))), none⟩]) .ret) .skip))))) (.reg [] false [⟨0, (some 35), (.mv (.t 9)), none⟩, ⟨0, (some 7), (.mv
  (.t 35)), none⟩])))) (.reg [] false [⟨0, (some 36), (.bin .add (.t 20) (.c (.int .i64 1))), none⟩, ⟨0, (some 20), (.mv (.t 36)), none⟩]))))))) (.seq (.reg
  [] false [⟨0, (some 37), (.mkf (.func 68) [] [(.t 3)]), none⟩, ⟨0, (some 4), (.mv (.t 37)), none⟩, ⟨0, (some 5), (.mv (.c (.int .i64 0))), none⟩])
  .ret))))))⟩
theorem is38 : FnIs prog 38 x38.fn := ⟨fun vs w => call38 vs w, _, _, func38, rfl, rfl, by kernel_rfl, by kernel_rfl⟩
theorem ok38 : okX x38.body = true := by kernel_rfl
theorem st38 : sitesP x38 x38.body := (sitesP_of rfl)

/-- (zafra/bulk.Plant).excess -/
def x39 : XFn := ⟨54, [(6, (some (true, 4)))], false, false,
  (.seq (.reg [] false [⟨0, (some 3), (.box (.t 0)), none⟩, ⟨0, (some 6), (.alloc [(.int .i64 0), (.int .i64 0), (.int .i64 0), (.int .i64 0)]), none⟩]) (.seq
  (.reg [] false [⟨0, (some 7), (.alloc [(.int .i64 0), (.int .i64 0), (.int .i64 0), (.int .i64 0)]), none⟩]) (.seq (.seq (.reg [] false [⟨0, (some 12),
  (.fld 1 (.t 3)), none⟩, ⟨0, (some 13), (.load false 1 (.t 12)), none⟩, ⟨0, (some 14), (.len false (.t 13)), none⟩, ⟨0, (some 15), (.mv (.c (.int .i64 0))),
  none⟩]) (.block 0 (.loop [1, 2, 6, 7, 13, 14, 15] (.seq (.reg [] false [⟨0, (some 16), (.bin .lss (.t 15) (.t 14)), none⟩]) (.seq (.cond (.t 16) .skip
  (.exit 0)) (.seq (.block 1 (.seq (.reg [] false [⟨0, (some 17), (.mv (.t 15)), none⟩, ⟨0, (some 18), (.idx 7 (.t 13) (.t 15)), none⟩, ⟨0, (some 19), (.load
  true 7 (.t 18)), none⟩, ⟨0, (some 9), (.alloc [(.int .i64 0), (.int .i64 0), (.bool false), (.int .i64 0), (.int .i64 0), (.int .i64 0), (.int .i64 0)]),
  none⟩, ⟨0, (some 8), (.mv (.t 17)), none⟩, ⟨0, none, (.store 7 (.t 9) (.t 19) []), none⟩]) (.seq (.reg [(9, true)] true [⟨0, (some 20), (.mv (.t 2)), none⟩,
  ⟨1, (some 21), (.fld 1 (.t 9)), none⟩, ⟨2, (some 22), (.load false 1 (.t 21)), none⟩, ⟨4, (some 24), (.mv (.t 2)), none⟩, ⟨5, (some 25), (.fld 0 (.t 9)),
  none⟩, ⟨6, (some 26), (.load false 1 (.t 25)), none⟩, ⟨3, (some 23), (.callf false (.t 20) [(.t 22)] [6]), none⟩, ⟨7, (some 27), (.callf false (.t 24) [(.t
  26)] []), none⟩, ⟨8, (some 10), (.mv (.t 23)), none⟩, ⟨9, (some 11), (.mv (.t 27)), none⟩]) (.block 2 (.seq (.reg [] false [⟨0, (some 33), (.fld 2 (.t 9)),
  none⟩, ⟨0, (some 34), (.load false 1 (.t 33)), none⟩, ⟨0, (some 35), (.not (.t 34)), none⟩, ⟨0, (some 36), (.mv (.t 35)), none⟩, ⟨0, (some 37), (.mv (.t
  8)), (some (36, false))⟩, ⟨0, (some 38), (.mv (.t 1)), (some (36, false))⟩, ⟨0, (some 39), (.bin .eql (.t 37) (.t 38)), (some (36, false))⟩, ⟨0, (some 40),
  (.pick (.t 36) (.c (.bool true)) (.t 39)), none⟩, ⟨0, (some 41), (.mv (.t 40)), none⟩, ⟨0, (some 42), (.mv (.t 10)), (some (41, false))⟩, ⟨0, (some 43),
  (.mv (.t 11)), (some (41, false))⟩, ⟨0, (some 44), (.binb false (.t 42) (.t 43)), (some (41, false))⟩, ⟨0, (some 45), (.pick (.t 41) (.c (.bool true)) (.t
  44)), none⟩, ⟨0, (some 32), (.mv (.t 45)), none⟩]) (.cond (.t 32) .skip (.seq (.reg [] false [⟨0, (some 47), (.mv (.t 10)), none⟩, ⟨0, (some 46), (.mv (.t
  47)), none⟩]) (.cond (.t 46) (.reg [(7, true), (9, true)] false [⟨0, (some 48), (.load true 4 (.t 7)), none⟩, ⟨0, (some 49), (.fld 3 (.t 9)), none⟩, ⟨0,
  (some 50), (.load true 4 (.t 49)), none⟩, ⟨0, (some 51), (.callf false (.c (.fn (.func 61) [] [])) [(.t 48), (.c (.int .i64 1)), (.t 50)] []), none⟩, ⟨0,
  none, (.store 4 (.t 7) (.t 51) []), none⟩]) (.reg [(7, true), (9, true)] false [⟨0, (some 28), (.load true 4 (.t 7)), none⟩, ⟨0, (some 29), (.fld 3 (.t 9)),
  none⟩, ⟨0, (some 30), (.load true 4 (.t 29)), none⟩, ⟨0, (some 31), (.callf false (.c (.fn (.func 61) [] [])) [(.t 28), (.c (.int .i64 (-1))), (.t 30)] []),
  none⟩, ⟨0, none, (.store 4 (.t 7) (.t 31) []), none⟩]))))))))) (.reg [] false [⟨0, (some 52), (.bin .add (.t 15) (.c (.int .i64 1))), none⟩, ⟨0, (some 15),
  (.mv (.t 52)), none⟩]))))))) (.seq (.reg [] false [⟨0, (some 53), (.load true 4 (.t 7)), none⟩, ⟨0, none, (.store 4 (.t 6) (.t 53) []), none⟩]) .ret))))⟩
theorem is39 : FnIs prog 39 x39.fn := ⟨fun vs w => call39 vs w, _, _, func39, rfl, rfl, by kernel_rfl, by kernel_rfl⟩
theorem ok39 : okX x39.body = true := by kernel_rfl
theorem st39 : sitesP x39 x39.body := (sitesP_of rfl)

/-- zafra/zafraref01.set -/
def x40 : XFn := ⟨58, [(4, none), (5, none)], false, false,
  (.seq (.reg [] false [⟨0, (some 2), (.box (.t 0)), none⟩, ⟨0, (some 4), (.mv (.c .nilsl)), none⟩, ⟨0, (some 5), (.mv (.c (.int .i64 0))), none⟩]) (.seq (.reg
  [(2, true)] false [⟨0, (some 9), (.load true 2 (.t 2)), none⟩, ⟨0, (some 10), (.callf false (.c (.fn (.func 21) [] [])) [(.t 9)] []), none⟩, ⟨0, (some 6),
  (.mv (.t 10)), none⟩]) (.seq (.seq (.reg [] false [⟨0, (some 11), (.mv (.t 6)), none⟩, ⟨0, (some 12), (.bin .neq (.t 11) (.c (.int .i64 0))), none⟩]) (.cond
  (.t 12) (.seq (.reg [] false [⟨0, (some 13), (.mv (.t 6)), none⟩, ⟨0, (some 4), (.mv (.c .nilsl)), none⟩, ⟨0, (some 5), (.mv (.t 13)), none⟩]) .ret) .skip))
  (.seq (.seq (.reg [] false [⟨0, (some 14), (.mv (.t 1)), none⟩, ⟨0, (some 15), (.len false (.t 14)), none⟩, ⟨0, (some 16), (.bin .eql (.t 15) (.c (.int .i64
  0))), none⟩]) (.cond (.t 16) (.seq (.reg [] false [⟨0, (some 4), (.mv (.c .nilsl)), none⟩, ⟨0, (some 5), (.mv (.c (.int .i64 4))), none⟩]) .ret) .skip))
  (.seq (.reg [] false [⟨0, (some 17), (.fld 0 (.t 2)), none⟩, ⟨0, (some 18), (.load false 1 (.t 17)), none⟩, ⟨0, (some 19), (.bin .add (.t 18) (.c (.int .i64
  1))), none⟩, ⟨0, (some 20), (.mksl 1 1 [(.bool false)] (.t 19) (.t 19)), none⟩, ⟨0, (some 7), (.mv (.t 20)), none⟩]) (.seq (.seq (.reg [] false [⟨0, (some
  8), (.mv (.c (.int .i64 0))), none⟩]) (.block 0 (.loop [1, 2, 7, 8] (.seq (.seq (.reg [] false [⟨0, (some 21), (.mv (.t 8)), none⟩, ⟨0, (some 22), (.mv (.t
  1)), none⟩, ⟨0, (some 23), (.len false (.t 22)), none⟩, ⟨0, (some 24), (.bin .lss (.t 21) (.t 23)), none⟩]) (.cond (.t 24) .skip (.exit 0))) (.seq (.block 1
  (.seq (.seq (.reg [] true [⟨0, (some 27), (.mv (.t 1)), none⟩, ⟨1, (some 28), (.mv (.t 8)), none⟩, ⟨2, (some 29), (.idx 1 (.t 27) (.t 28)), none⟩, ⟨3, (some
  30), (.load false 1 (.t 29)), none⟩, ⟨4, (some 31), (.fld 0 (.t 2)), none⟩, ⟨5, (some 32), (.load false 1 (.t 31)), none⟩, ⟨6, (some 33), (.bin .sub (.t 32)
  (.c (.int .i64 1))), none⟩, ⟨7, (some 34), (.callf false (.c (.fn (.func 45) [] [])) [(.t 30), (.c (.int .i64 0)), (.t 33)] []), none⟩, ⟨8, (some 35), (.not
  (.t 34)), none⟩]) (.cond (.t 35) (.seq (.reg [] false [⟨0, (some 4), (.mv (.c .nilsl)), none⟩, ⟨0, (some 5), (.mv (.c (.int .i64 17))), none⟩]) .ret)
  .skip)) (.seq (.seq (.reg [] true [⟨0, (some 36), (.mv (.t 8)), none⟩, ⟨1, (some 37), (.bin .gtr (.t 36) (.c (.int .i64 0))), none⟩, ⟨2, (some 38), (.mv (.t
  37)), none⟩, ⟨3, (some 39), (.mv (.t 1)), (some (38, true))⟩, ⟨4, (some 40), (.mv (.t 8)), (some (38, true))⟩, ⟨5, (some 41), (.idx 1 (.t 39) (.t 40)),
  (some (38, true))⟩, ⟨6, (some 42), (.load false 1 (.t 41)), (some (38, true))⟩, ⟨7, (some 43), (.mv (.t 1)), (some (38, true))⟩, ⟨8, (some 44), (.mv (.t
  8)), (some (38, true))⟩, ⟨9, (some 45), (.bin .sub (.t 44) (.c (.int .i64 1))), (some (38, true))⟩, ⟨10, (some 46), (.idx 1 (.t 43) (.t 45)), (some (38,
  true))⟩, ⟨11, (some 47), (.load false 1 (.t 46)), (some (38, true))⟩, ⟨12, (some 48), (.bin .leq (.t 42) (.t 47)), (some (38, true))⟩, ⟨13, (some 49),
  (.pick (.t 38) (.t 48) (.c (.bool false))), none⟩]) (.cond (.t 49) (.seq (.reg [] false [⟨0, (some 4), (.mv (.c .nilsl)), none⟩, ⟨0, (some 5), (.mv (.c
  (.int .i64 7))), none⟩]) .ret) .skip)) (.reg [] false [⟨0, (some 50), (.mv (.t 7)), none⟩, ⟨0, (some 51), (.mv (.t 1)), none⟩, ⟨0, (some 52), (.mv (.t 8)),
  none⟩, ⟨0, (some 53), (.idx 1 (.t 51) (.t 52)), none⟩, ⟨0, (some 54), (.load false 1 (.t 53)), none⟩, ⟨0, (some 55), (.bin .add (.t 54) (.c (.int .i64 1))),
  none⟩, ⟨0, (some 56), (.idx 1 (.t 50) (.t 55)), none⟩, ⟨0, none, (.store 1 (.t 56) (.c (.bool true)) []), none⟩])))) (.reg [] false [⟨0, (some 25), (.mv (.t
  8)), none⟩, ⟨0, (some 26), (.bin .add (.t 25) (.c (.int .i64 1))), none⟩, ⟨0, (some 8), (.mv (.t 26)), none⟩])))))) (.seq (.reg [] false [⟨0, (some 57),
  (.mv (.t 7)), none⟩, ⟨0, (some 4), (.mv (.t 57)), none⟩, ⟨0, (some 5), (.mv (.c (.int .i64 0))), none⟩]) .ret)))))))⟩
theorem is40 : FnIs prog 40 x40.fn := ⟨fun vs w => call40 vs w, _, _, func40, rfl, rfl, by kernel_rfl, by kernel_rfl⟩
theorem ok40 : okX x40.body = true := by kernel_rfl
theorem st40 : sitesP x40 x40.body := (sitesP_of rfl)

/-- zafra/zafraref01.excess -/
def x41 : XFn := ⟨67, [(4, (some (true, 4)))], false, false,
  (.seq (.reg [] false [⟨0, (some 2), (.box (.t 0)), none⟩, ⟨0, (some 4), (.alloc [(.int .i64 0), (.int .i64 0), (.int .i64 0), (.int .i64 0)]), none⟩]) (.seq
  (.reg [] false [⟨0, (some 5), (.alloc [(.int .i64 0), (.int .i64 0), (.int .i64 0), (.int .i64 0)]), none⟩]) (.seq (.seq (.reg [] false [⟨0, (some 6), (.mv
  (.c (.int .i64 0))), none⟩]) (.block 0 (.loop [1, 2, 4, 5, 6] (.seq (.seq (.reg [] false [⟨0, (some 8), (.mv (.t 6)), none⟩, ⟨0, (some 9), (.fld 1 (.t 2)),
  none⟩, ⟨0, (some 10), (.load false 1 (.t 9)), none⟩, ⟨0, (some 11), (.len false (.t 10)), none⟩, ⟨0, (some 12), (.bin .lss (.t 8) (.t 11)), none⟩]) (.cond
  (.t 12) .skip (.exit 0))) (.seq (.block 1 (.seq (.reg [] false [⟨0, (some 15), (.fld 1 (.t 2)), none⟩, ⟨0, (some 16), (.load false 1 (.t 15)), none⟩, ⟨0,
  (some 17), (.mv (.t 6)), none⟩, ⟨0, (some 18), (.idx 7 (.t 16) (.t 17)), none⟩, ⟨0, (some 19), (.load true 7 (.t 18)), none⟩, ⟨0, (some 7), (.alloc [(.int
  .i64 0), (.int .i64 0), (.bool false), (.int .i64 0), (.int .i64 0), (.int .i64 0), (.int .i64 0)]), none⟩, ⟨0, none, (.store 7 (.t 7) (.t 19) []), none⟩])
  (.seq (.seq (.reg [] false [⟨0, (some 20), (.fld 2 (.t 7)), none⟩, ⟨0, (some 21), (.load false 1 (.t 20)), none⟩, ⟨0, (some 22), (.mv (.t 21)), none⟩, ⟨0,
  (some 23), (.mv (.t 1)), (some (22, true))⟩, ⟨0, (some 24), (.fld 1 (.t 7)), (some (22, true))⟩, ⟨0, (some 25), (.load false 1 (.t 24)), (some (22, true))⟩,
  ⟨0, (some 26), (.bin .add (.t 25) (.c (.int .i64 1))), (some (22, true))⟩, ⟨0, (some 27), (.idx 1 (.t 23) (.t 26)), (some (22, true))⟩, ⟨0, (some 28),
  (.load false 1 (.t 27)), (some (22, true))⟩, ⟨0, (some 29), (.pick (.t 22) (.t 28) (.c (.bool false))), none⟩, ⟨0, (some 30), (.mv (.t 29)), none⟩, ⟨0,
  (some 31), (.mv (.t 1)), (some (30, true))⟩, ⟨0, (some 32), (.fld 0 (.t 7)), (some (30, true))⟩, ⟨0, (some 33), (.load false 1 (.t 32)), (some (30, true))⟩,
  ⟨0, (some 34), (.bin .add (.t 33) (.c (.int .i64 1))), (some (30, true))⟩, ⟨0, (some 35), (.idx 1 (.t 31) (.t 34)), (some (30, true))⟩, ⟨0, (some 36),
  (.load false 1 (.t 35)), (some (30, true))⟩, ⟨0, (some 37), (.not (.t 36)), (some (30, true))⟩, ⟨0, (some 38), (.pick (.t 30) (.t 37) (.c (.bool false))),
  none⟩]) (.cond (.t 38) (.reg [(5, true), (7, true)] false [⟨0, (some 39), (.load true 4 (.t 5)), none⟩, ⟨0, (some 40), (.fld 3 (.t 7)), none⟩, ⟨0, (some
  41), (.load true 4 (.t 40)), none⟩, ⟨0, (some 42), (.callf false (.c (.fn (.func 51) [] [])) [(.t 39), (.c (.int .i64 1)), (.t 41)] []), none⟩, ⟨0, none,
  (.store 4 (.t 5) (.t 42) []), none⟩]) .skip)) (.seq (.reg [] false [⟨0, (some 43), (.fld 2 (.t 7)), none⟩, ⟨0, (some 44), (.load false 1 (.t 43)), none⟩,
  ⟨0, (some 45), (.mv (.t 44)), none⟩, ⟨0, (some 46), (.mv (.t 1)), (some (45, true))⟩, ⟨0, (some 47), (.fld 0 (.t 7)), (some (45, true))⟩, ⟨0, (some 48),
  (.load false 1 (.t 47)), (some (45, true))⟩, ⟨0, (some 49), (.bin .add (.t 48) (.c (.int .i64 1))), (some (45, true))⟩, ⟨0, (some 50), (.idx 1 (.t 46) (.t
  49)), (some (45, true))⟩, ⟨0, (some 51), (.load false 1 (.t 50)), (some (45, true))⟩, ⟨0, (some 52), (.pick (.t 45) (.t 51) (.c (.bool false))), none⟩, ⟨0,
  (some 53), (.mv (.t 52)), none⟩, ⟨0, (some 54), (.mv (.t 1)), (some (53, true))⟩, ⟨0, (some 55), (.fld 1 (.t 7)), (some (53, true))⟩, ⟨0, (some 56), (.load
  false 1 (.t 55)), (some (53, true))⟩, ⟨0, (some 57), (.bin .add (.t 56) (.c (.int .i64 1))), (some (53, true))⟩, ⟨0, (some 58), (.idx 1 (.t 54) (.t 57)),
  (some (53, true))⟩, ⟨0, (some 59), (.load false 1 (.t 58)), (some (53, true))⟩, ⟨0, (some 60), (.not (.t 59)), (some (53, true))⟩, ⟨0, (some 61), (.pick (.t
  53) (.t 60) (.c (.bool false))), none⟩]) (.cond (.t 61) (.reg [(5, true), (7, true)] false [⟨0, (some 62), (.load true 4 (.t 5)), none⟩, ⟨0, (some 63),
  (.fld 3 (.t 7)), none⟩, ⟨0, (some 64), (.load true 4 (.t 63)), none⟩, ⟨0, (some 65), (.callf false (.c (.fn (.func 51) [] [])) [(.t 62), (.c (.int .i64
  (-1))), (.t 64)] []), none⟩, ⟨0, none, (.store 4 (.t 5) (.t 65) []), none⟩]) .skip))))) (.reg [] false [⟨0, (some 13), (.mv (.t 6)), none⟩, ⟨0, (some 14),
  (.bin .add (.t 13) (.c (.int .i64 1))), none⟩, ⟨0, (some 6), (.mv (.t 14)), none⟩])))))) (.seq (.reg [] false [⟨0, (some 66), (.load true 4 (.t 5)), none⟩,
  ⟨0, none, (.store 4 (.t 4) (.t 66) []), none⟩]) .ret))))⟩
theorem is41 : FnIs prog 41 x41.fn := ⟨fun vs w => call41 vs w, _, _, func41, rfl, rfl, by kernel_rfl, by kernel_rfl⟩
theorem ok41 : okX x41.body = true := by kernel_rfl
theorem st41 : sitesP x41 x41.body := (sitesP_of rfl)

/-- zafra/bulk.between -/
def x42 : XFn := ⟨15, [(6, none)], false, false,
  (.seq (.reg [] false [⟨0, (some 6), (.mv (.c (.bool false))), none⟩]) (.seq (.reg [] false [⟨0, (some 7), (.mv (.t 0)), none⟩, ⟨0, (some 8), (.mv (.t 1)),
  none⟩, ⟨0, (some 9), (.bin .leq (.t 7) (.t 8)), none⟩, ⟨0, (some 10), (.mv (.t 9)), none⟩, ⟨0, (some 11), (.mv (.t 1)), (some (10, true))⟩, ⟨0, (some 12),
  (.mv (.t 2)), (some (10, true))⟩, ⟨0, (some 13), (.bin .leq (.t 11) (.t 12)), (some (10, true))⟩, ⟨0, (some 14), (.pick (.t 10) (.t 13) (.c (.bool false))),
  none⟩, ⟨0, (some 6), (.mv (.t 14)), none⟩]) .ret))⟩
theorem is42 : FnIs prog 42 x42.fn := ⟨fun vs w => call42 vs w, _, _, func42, rfl, rfl, by kernel_rfl, by kernel_rfl⟩
theorem ok42 : okX x42.body = true := by kernel_rfl
theorem st42 : sitesP x42 x42.body := (sitesP_of rfl)

/-- zafra/bulk.first of zafra/bulk.Flow -/
def x43 : XFn := ⟨21, [(4, none)], false, false,
  (.seq (.reg [] false [⟨0, (some 4), (.mv (.c (.int .i64 0))), none⟩]) (.seq (.seq (.reg [] false [⟨0, (some 8), (.mv (.t 0)), none⟩, ⟨0, (some 9), (.len false
  (.t 8)), none⟩, ⟨0, (some 10), (.mv (.c (.int .i64 0))), none⟩]) (.block 0 (.loop [1, 8, 9, 10] (.seq (.reg [] false [⟨0, (some 11), (.bin .lss (.t 10) (.t
  9)), none⟩]) (.seq (.cond (.t 11) .skip (.exit 0)) (.seq (.block 1 (.seq (.reg [] false [⟨0, (some 12), (.idx 7 (.t 8) (.t 10)), none⟩, ⟨0, (some 13),
  (.load true 7 (.t 12)), none⟩, ⟨0, (some 6), (.alloc [(.int .i64 0), (.int .i64 0), (.bool false), (.int .i64 0), (.int .i64 0), (.int .i64 0), (.int .i64
  0)]), none⟩, ⟨0, none, (.store 7 (.t 6) (.t 13) []), none⟩]) (.seq (.reg [(6, true)] false [⟨0, (some 14), (.mv (.t 1)), none⟩, ⟨0, (some 15), (.load true 7
  (.t 6)), none⟩, ⟨0, (some 16), (.callf false (.t 14) [(.t 15)] []), none⟩, ⟨0, (some 7), (.mv (.t 16)), none⟩]) (.seq (.reg [] false [⟨0, (some 17), (.mv
  (.t 7)), none⟩, ⟨0, (some 18), (.bin .neq (.t 17) (.c (.int .i64 0))), none⟩]) (.cond (.t 18) (.seq (.reg [] false [⟨0, (some 19), (.mv (.t 7)), none⟩, ⟨0,
  (some 4), (.mv (.t 19)), none⟩]) .ret) .skip))))) (.reg [] false [⟨0, (some 20), (.bin .add (.t 10) (.c (.int .i64 1))), none⟩, ⟨0, (some 10), (.mv (.t
  20)), none⟩]))))))) (.seq (.reg [] false [⟨0, (some 4), (.mv (.c (.int .i64 0))), none⟩]) .ret)))⟩
theorem is43 : FnIs prog 43 x43.fn := ⟨fun vs w => call43 vs w, _, _, func43, rfl, rfl, by kernel_rfl, by kernel_rfl⟩
theorem ok43 : okX x43.body = true := by kernel_rfl
theorem st43 : sitesP x43 x43.body := (sitesP_of rfl)

/-- (zafra/bulk.Plant).check -/
def x44 : XFn := ⟨37, [(4, none)], false, false,
  (.seq (.reg [] false [⟨0, (some 2), (.box (.t 0)), none⟩, ⟨0, (some 3), (.box (.t 1)), none⟩, ⟨0, (some 4), (.mv (.c (.int .i64 0))), none⟩]) (.seq (.block 0
  (.seq (.reg [(3, true)] false [⟨0, (some 6), (.fld 0 (.t 3)), none⟩, ⟨0, (some 7), (.load false 1 (.t 6)), none⟩, ⟨0, (some 8), (.fld 0 (.t 2)), none⟩, ⟨0,
  (some 9), (.load false 1 (.t 8)), none⟩, ⟨0, (some 10), (.bin .sub (.t 9) (.c (.int .i64 1))), none⟩, ⟨0, (some 11), (.callf false (.c (.fn (.func 42) []
  [])) [(.c (.int .i64 (-1))), (.t 7), (.t 10)] []), none⟩, ⟨0, (some 12), (.not (.t 11)), none⟩, ⟨0, (some 13), (.mv (.t 12)), none⟩, ⟨0, (some 14), (.fld 1
  (.t 3)), (some (13, false))⟩, ⟨0, (some 15), (.load false 1 (.t 14)), (some (13, false))⟩, ⟨0, (some 16), (.fld 0 (.t 2)), (some (13, false))⟩, ⟨0, (some
  17), (.load false 1 (.t 16)), (some (13, false))⟩, ⟨0, (some 18), (.bin .sub (.t 17) (.c (.int .i64 1))), (some (13, false))⟩, ⟨0, (some 19), (.callf false
  (.c (.fn (.func 42) [] [])) [(.c (.int .i64 (-1))), (.t 15), (.t 18)] []), (some (13, false))⟩, ⟨0, (some 20), (.not (.t 19)), (some (13, false))⟩, ⟨0,
  (some 21), (.pick (.t 13) (.c (.bool true)) (.t 20)), none⟩, ⟨0, (some 5), (.mv (.t 21)), none⟩]) (.cond (.t 5) (.seq (.reg [] false [⟨0, (some 4), (.mv (.c
  (.int .i64 17))), none⟩]) .ret) (.seq (.reg [] false [⟨0, (some 23), (.fld 0 (.t 3)), none⟩, ⟨0, (some 24), (.load false 1 (.t 23)), none⟩, ⟨0, (some 25),
  (.fld 1 (.t 3)), none⟩, ⟨0, (some 26), (.load false 1 (.t 25)), none⟩, ⟨0, (some 27), (.bin .eql (.t 24) (.t 26)), none⟩, ⟨0, (some 22), (.mv (.t 27)),
  none⟩]) (.cond (.t 22) (.seq (.reg [] false [⟨0, (some 4), (.mv (.c (.int .i64 22))), none⟩]) .ret) (.seq (.reg [(3, true)] false [⟨0, (some 29), (.fld 2
  (.t 3)), none⟩, ⟨0, (some 30), (.load false 1 (.t 29)), none⟩, ⟨0, (some 31), (.mv (.t 30)), none⟩, ⟨0, (some 32), (.fld 3 (.t 3)), (some (31, true))⟩, ⟨0,
  (some 33), (.load true 4 (.t 32)), (some (31, true))⟩, ⟨0, (some 34), (.callf false (.c (.fn (.func 55) [] [])) [(.t 33), (.c (.int .i64 0)), (.c (.int .i64
  1000000000))] []), (some (31, true))⟩, ⟨0, (some 35), (.not (.t 34)), (some (31, true))⟩, ⟨0, (some 36), (.pick (.t 31) (.t 35) (.c (.bool false))), none⟩,
  ⟨0, (some 28), (.mv (.t 36)), none⟩]) (.cond (.t 28) (.seq (.reg [] false [⟨0, (some 4), (.mv (.c (.int .i64 2))), none⟩]) .ret) .skip))))))) (.seq (.reg []
  false [⟨0, (some 4), (.mv (.c (.int .i64 0))), none⟩]) .ret)))⟩
theorem is44 : FnIs prog 44 x44.fn := ⟨fun vs w => call44 vs w, _, _, func44, rfl, rfl, by kernel_rfl, by kernel_rfl⟩
theorem ok44 : okX x44.body = true := by kernel_rfl
theorem st44 : sitesP x44 x44.body := (sitesP_of rfl)

/-- zafra/zafraref01.Is -/
def x45 : XFn := ⟨15, [(6, none)], false, false,
  (.seq (.reg [] false [⟨0, (some 6), (.mv (.c (.bool false))), none⟩]) (.seq (.reg [] false [⟨0, (some 7), (.mv (.t 0)), none⟩, ⟨0, (some 8), (.mv (.t 1)),
  none⟩, ⟨0, (some 9), (.bin .geq (.t 7) (.t 8)), none⟩, ⟨0, (some 10), (.mv (.t 9)), none⟩, ⟨0, (some 11), (.mv (.t 0)), (some (10, true))⟩, ⟨0, (some 12),
  (.mv (.t 2)), (some (10, true))⟩, ⟨0, (some 13), (.bin .leq (.t 11) (.t 12)), (some (10, true))⟩, ⟨0, (some 14), (.pick (.t 10) (.t 13) (.c (.bool false))),
  none⟩, ⟨0, (some 6), (.mv (.t 14)), none⟩]) .ret))⟩
theorem is45 : FnIs prog 45 x45.fn := ⟨fun vs w => call45 vs w, _, _, func45, rfl, rfl, by kernel_rfl, by kernel_rfl⟩
theorem ok45 : okX x45.body = true := by kernel_rfl
theorem st45 : sitesP x45 x45.body := (sitesP_of rfl)

/-- zafra/zafraref01.each -/
def x46 : XFn := ⟨19, [(6, none)], false, false,
  (.seq (.reg [] false [⟨0, (some 3), (.box (.t 0)), none⟩, ⟨0, (some 6), (.mv (.c (.bool false))), none⟩]) (.seq (.seq (.reg [] false [⟨0, (some 7), (.mv (.c
  (.int .i64 0))), none⟩]) (.block 0 (.loop [1, 2, 3, 7] (.seq (.seq (.reg [] false [⟨0, (some 8), (.mv (.t 7)), none⟩, ⟨0, (some 9), (.bin .lss (.t 8) (.c
  (.int .i64 4))), none⟩]) (.cond (.t 9) .skip (.exit 0))) (.seq (.block 1 (.seq (.reg [(1, false), (2, false)] false [⟨0, (some 12), (.mv (.t 7)), none⟩, ⟨0,
  (some 13), (.idxa 4 1 (.t 3) (.t 12)), none⟩, ⟨0, (some 14), (.load false 1 (.t 13)), none⟩, ⟨0, (some 15), (.mv (.t 1)), none⟩, ⟨0, (some 16), (.mv (.t
  2)), none⟩, ⟨0, (some 17), (.callf false (.c (.fn (.func 45) [] [])) [(.t 14), (.t 15), (.t 16)] []), none⟩, ⟨0, (some 18), (.not (.t 17)), none⟩]) (.cond
  (.t 18) (.seq (.reg [] false [⟨0, (some 6), (.mv (.c (.bool false))), none⟩]) .ret) .skip))) (.reg [] false [⟨0, (some 10), (.mv (.t 7)), none⟩, ⟨0, (some
  11), (.bin .add (.t 10) (.c (.int .i64 1))), none⟩, ⟨0, (some 7), (.mv (.t 11)), none⟩])))))) (.seq (.reg [] false [⟨0, (some 6), (.mv (.c (.bool true))),
  none⟩]) .ret)))⟩
theorem is46 : FnIs prog 46 x46.fn := ⟨fun vs w => call46 vs w, _, _, func46, rfl, rfl, by kernel_rfl, by kernel_rfl⟩
theorem ok46 : okX x46.body = true := by kernel_rfl
theorem st46 : sitesP x46 x46.body := (sitesP_of rfl)

/-- (zafra/bulk.Plant).clash -/
def x47 : XFn := ⟨28, [(2, (some (false, 1))), (3, (some (false, 1))), (4, (some (false, 1)))], false, false,
  (.seq (.reg [] false [⟨0, (some 1), (.box (.t 0)), none⟩, ⟨0, (some 2), (.alloc [.nilsl]), none⟩, ⟨0, (some 3), (.alloc [(.int .i64 0)]), none⟩, ⟨0, (some 4),
  (.alloc [(.bool false)]), none⟩]) (.scope (.seq .skip (.seq (.seq (.reg [(1, true)] false [⟨0, (some 9), (.load true 2 (.t 1)), none⟩, ⟨0, (some 10),
  (.callf false (.c (.fn (.func 36) [] [])) [(.t 9)] []), none⟩]) (.block 0 (.rng 0 [1, 2, 3, 4] (.t 10) [11] (.reg [] false [⟨0, (some 5), (.alloc [.nilsl]),
  none⟩, ⟨0, none, (.store 1 (.t 5) (.t 11) []), none⟩]) (.block 1 (.seq (.reg [(1, true)] false [⟨0, (some 12), (.load true 2 (.t 1)), none⟩, ⟨0, (some 13),
  (.mkf (.func 70) [] [(.t 5)]), none⟩, ⟨0, (some 14), (.callf false (.c (.fn (.func 39) [] [])) [(.t 12), (.c (.int .i64 (-1))), (.t 13)] []), none⟩, ⟨0,
  (some 6), (.alloc [(.int .i64 0), (.int .i64 0), (.int .i64 0), (.int .i64 0)]), none⟩, ⟨0, none, (.store 4 (.t 6) (.t 14) []), none⟩]) (.seq (.seq (.reg []
  false [⟨0, (some 15), (.load true 4 (.t 6)), none⟩, ⟨0, (some 16), (.build [(.int .i64 0), (.int .i64 0), (.int .i64 0), (.int .i64 0)] []), none⟩, ⟨0,
  (some 17), (.eqag false [0, 0, 0, 0] (.t 15) (.t 16)), none⟩]) (.cond (.t 17) (.exit 1) .skip)) (.seq (.reg [] false [⟨0, (some 18), (.load true 4 (.t 6)),
  none⟩, ⟨0, (some 19), (.mv (.c (.int .i64 0))), none⟩]) (.block 2 (.loop [2, 3, 4, 5, 18, 19] (.seq (.reg [] false [⟨0, (some 20), (.bin .lss (.t 19) (.c
  (.int .i64 4))), none⟩]) (.seq (.cond (.t 20) .skip (.exit 2)) (.seq (.block 3 (.seq (.reg [] false [⟨0, (some 21), (.mv (.t 19)), none⟩, ⟨0, (some 22),
  (.idxv false 4 1 (.t 18) (.t 19)), none⟩, ⟨0, (some 7), (.mv (.t 21)), none⟩, ⟨0, (some 8), (.mv (.t 22)), none⟩]) (.seq (.reg [] false [⟨0, (some 23), (.mv
  (.t 8)), none⟩, ⟨0, (some 24), (.bin .neq (.t 23) (.c (.int .i64 0))), none⟩]) (.cond (.t 24) (.seq (.reg [] false [⟨0, (some 25), (.load false 1 (.t 5)),
  none⟩, ⟨0, (some 26), (.mv (.t 7)), none⟩, ⟨0, none, (.store 1 (.t 2) (.t 25) []), none⟩, ⟨0, none, (.store 1 (.t 3) (.t 26) []), none⟩, ⟨0, none, (.store 1
  (.t 4) (.c (.bool true)) []), none⟩]) .ret) .skip)))) (.reg [] false [⟨0, (some 27), (.bin .add (.t 19) (.c (.int .i64 1))), none⟩, ⟨0, (some 19), (.mv (.t
  27)), none⟩]))))))))))))) (.seq (.reg [] false [⟨0, none, (.store 1 (.t 2) (.c .nilsl) []), none⟩, ⟨0, none, (.store 1 (.t 3) (.c (.int .i64 0)) []), none⟩,
  ⟨0, none, (.store 1 (.t 4) (.c (.bool false)) []), none⟩]) .ret)))))⟩
theorem is47 : FnIs prog 47 x47.fn := ⟨fun vs w => call47 vs w, _, _, func47, rfl, rfl, by kernel_rfl, by kernel_rfl⟩
theorem ok47 : okX x47.body = true := by kernel_rfl
theorem st47 : sitesP x47 x47.body := ⟨(sitesP_of rfl), ⟨(sitesP_of rfl), ⟨⟨(sitesP_of rfl), ⟨by kernel_rfl, (sitesP_of rfl), (sitesP_of rfl)⟩⟩, (sitesP_of rfl)⟩⟩⟩

/-- (zafra/bulk.Plant).found -/
def x48 : XFn := ⟨44, [(4, (some (true, 4))), (5, none)], false, false,
  (.seq (.reg [] false [⟨0, (some 2), (.box (.t 0)), none⟩, ⟨0, (some 4), (.alloc [(.int .i64 0), (.int .i64 0), (.int .i64 0), (.int .i64 0)]), none⟩, ⟨0,
  (some 5), (.mv (.c (.bool false))), none⟩]) (.seq (.reg [(2, true)] true [⟨0, (some 10), (.fld 1 (.t 2)), none⟩, ⟨1, (some 11), (.load false 1 (.t 10)),
  none⟩, ⟨2, (some 12), (.mv (.t 1)), none⟩, ⟨3, (some 13), (.idx 7 (.t 11) (.t 12)), none⟩, ⟨4, (some 14), (.load true 7 (.t 13)), none⟩, ⟨5, (some 15),
  (.load true 2 (.t 2)), none⟩, ⟨6, (some 16), (.mv (.t 1)), none⟩, ⟨7, (some 17), (.callf false (.c (.fn (.func 67) [] [])) [(.t 15), (.t 16)] [1, 4]),
  none⟩, ⟨8, (some 6), (.alloc [(.int .i64 0), (.int .i64 0), (.bool false), (.int .i64 0), (.int .i64 0), (.int .i64 0), (.int .i64 0)]), none⟩, ⟨9, (some
  7), (.alloc [.nilmap]), none⟩, ⟨10, none, (.store 7 (.t 6) (.t 14) []), none⟩, ⟨11, none, (.store 1 (.t 7) (.t 17) []), none⟩]) (.seq (.reg [(7, true), (6,
  true)] true [⟨0, (some 18), (.load false 1 (.t 7)), none⟩, ⟨1, (some 19), (.fld 0 (.t 6)), none⟩, ⟨2, (some 20), (.load false 1 (.t 19)), none⟩, ⟨4, (some
  22), (.load false 1 (.t 7)), none⟩, ⟨5, (some 23), (.fld 1 (.t 6)), none⟩, ⟨6, (some 24), (.load false 1 (.t 23)), none⟩, ⟨3, (some 21), (.callf false (.c
  (.fn (.func 57) [] [])) [(.t 18), (.t 20)] [4, 6]), none⟩, ⟨7, (some 25), (.callf false (.c (.fn (.func 57) [] [])) [(.t 22), (.t 24)] []), none⟩, ⟨8, (some
  8), (.alloc [(.int .i64 0)]), none⟩, ⟨9, (some 9), (.alloc [(.int .i64 0)]), none⟩, ⟨10, none, (.store 1 (.t 8) (.t 21) []), none⟩, ⟨11, none, (.store 1 (.t
  9) (.t 25) []), none⟩]) (.seq (.block 0 (.seq (.reg [] false [⟨0, (some 27), (.load false 1 (.t 8)), none⟩, ⟨0, (some 28), (.load false 1 (.t 9)), none⟩,
  ⟨0, (some 29), (.bin .eql (.t 27) (.t 28)), none⟩, ⟨0, (some 26), (.mv (.t 29)), none⟩]) (.cond (.t 26) (.seq (.reg [] false [⟨0, (some 30), (.build [(.int
  .i64 0), (.int .i64 0), (.int .i64 0), (.int .i64 0)] []), none⟩, ⟨0, none, (.store 4 (.t 4) (.t 30) []), none⟩, ⟨0, (some 5), (.mv (.c (.bool false))),
  none⟩]) .ret) (.seq (.reg [] false [⟨0, (some 32), (.load false 1 (.t 8)), none⟩, ⟨0, (some 33), (.bin .neq (.t 32) (.c (.int .i64 (-1)))), none⟩, ⟨0, (some
  31), (.mv (.t 33)), none⟩]) (.cond (.t 31) (.seq (.reg [(2, true)] false [⟨0, (some 34), (.load true 2 (.t 2)), none⟩, ⟨0, (some 35), (.mv (.t 1)), none⟩,
  ⟨0, (some 36), (.mkf (.func 71) [] [(.t 7), (.t 8)]), none⟩, ⟨0, (some 37), (.callf false (.c (.fn (.func 39) [] [])) [(.t 34), (.t 35), (.t 36)] []),
  none⟩, ⟨0, none, (.store 4 (.t 4) (.t 37) []), none⟩, ⟨0, (some 5), (.mv (.c (.bool true))), none⟩]) .ret) .skip))))) (.seq (.reg [(2, true)] false [⟨0,
  (some 38), (.build [(.int .i64 0), (.int .i64 0), (.int .i64 0), (.int .i64 0)] []), none⟩, ⟨0, (some 39), (.load true 2 (.t 2)), none⟩, ⟨0, (some 40), (.mv
  (.t 1)), none⟩, ⟨0, (some 41), (.mkf (.func 72) [] [(.t 7), (.t 9)]), none⟩, ⟨0, (some 42), (.callf false (.c (.fn (.func 39) [] [])) [(.t 39), (.t 40), (.t
  41)] []), none⟩, ⟨0, (some 43), (.callf false (.c (.fn (.func 61) [] [])) [(.t 38), (.c (.int .i64 (-1))), (.t 42)] []), none⟩, ⟨0, none, (.store 4 (.t 4)
  (.t 43) []), none⟩, ⟨0, (some 5), (.mv (.c (.bool true))), none⟩]) .ret)))))⟩
theorem is48 : FnIs prog 48 x48.fn := ⟨fun vs w => call48 vs w, _, _, func48, rfl, rfl, by kernel_rfl, by kernel_rfl⟩
theorem ok48 : okX x48.body = true := by kernel_rfl
theorem st48 : sitesP x48 x48.body := (sitesP_of rfl)

/-- zafra/zafraref01.clash -/
def x49 : XFn := ⟨57, [(2, none), (3, none)], false, false,
  (.seq (.reg [] false [⟨0, (some 1), (.box (.t 0)), none⟩, ⟨0, (some 2), (.mv (.c .nilsl)), none⟩, ⟨0, (some 3), (.mv (.c (.int .i64 0))), none⟩]) (.seq (.reg
  [(1, true)] false [⟨0, (some 11), (.load true 2 (.t 1)), none⟩, ⟨0, (some 12), (.callf false (.c (.fn (.func 37) [] [])) [(.t 11), (.c (.int .i64 (-1)))]
  []), none⟩, ⟨0, (some 4), (.mv (.t 12)), none⟩]) (.seq (.seq (.reg [] false [⟨0, (some 5), (.mv (.c (.int .i64 1))), none⟩]) (.block 0 (.loop [1, 4, 5]
  (.seq (.seq (.reg [] false [⟨0, (some 13), (.mv (.t 5)), none⟩, ⟨0, (some 14), (.fld 0 (.t 1)), none⟩, ⟨0, (some 15), (.load false 1 (.t 14)), none⟩, ⟨0,
  (some 16), (.bin .leq (.t 13) (.t 15)), none⟩]) (.cond (.t 16) .skip (.exit 0))) (.seq (.block 1 (.seq (.reg [(4, false)] false [⟨0, (some 19), (.mv (.t
  4)), none⟩, ⟨0, (some 20), (.mv (.t 5)), none⟩, ⟨0, (some 21), (.callf false (.c (.fn (.func 50) [] [])) [(.t 19), (.t 20)] []), none⟩, ⟨0, (some 6), (.mv
  (.t 21)), none⟩]) (.seq (.reg [(1, true), (6, false)] false [⟨0, (some 22), (.load true 2 (.t 1)), none⟩, ⟨0, (some 23), (.mv (.t 6)), none⟩, ⟨0, (some 24),
  (.callf false (.c (.fn (.func 41) [] [])) [(.t 22), (.t 23)] []), none⟩, ⟨0, (some 7), (.alloc [(.int .i64 0), (.int .i64 0), (.int .i64 0), (.int .i64
  0)]), none⟩, ⟨0, none, (.store 4 (.t 7) (.t 24) []), none⟩]) (.seq (.reg [] false [⟨0, (some 8), (.mv (.c (.int .i64 0))), none⟩]) (.block 2 (.loop [1, 4,
  5, 6, 7, 8] (.seq (.seq (.reg [] false [⟨0, (some 25), (.mv (.t 8)), none⟩, ⟨0, (some 26), (.bin .lss (.t 25) (.c (.int .i64 4))), none⟩]) (.cond (.t 26)
  .skip (.exit 2))) (.seq (.block 3 (.seq (.seq (.reg [] false [⟨0, (some 29), (.mv (.t 6)), none⟩, ⟨0, (some 30), (.mv (.t 5)), none⟩, ⟨0, (some 31), (.idx 1
  (.t 29) (.t 30)), none⟩, ⟨0, (some 32), (.load false 1 (.t 31)), none⟩, ⟨0, (some 33), (.not (.t 32)), none⟩, ⟨0, (some 34), (.mv (.t 33)), none⟩, ⟨0, (some
  35), (.mv (.t 8)), (some (34, false))⟩, ⟨0, (some 36), (.idxa 4 1 (.t 7) (.t 35)), (some (34, false))⟩, ⟨0, (some 37), (.load false 1 (.t 36)), (some (34,
  false))⟩, ⟨0, (some 38), (.bin .eql (.t 37) (.c (.int .i64 0))), (some (34, false))⟩, ⟨0, (some 39), (.pick (.t 34) (.c (.bool true)) (.t 38)), none⟩])
  (.cond (.t 39) (.exit 3) .skip)) (.seq (.reg [] false [⟨0, (some 9), (.mv (.c .nilsl)), none⟩]) (.seq (.seq (.reg [] false [⟨0, (some 10), (.mv (.c (.int
  .i64 0))), none⟩]) (.block 4 (.loop [1, 6, 8, 9, 10] (.seq (.seq (.reg [] false [⟨0, (some 40), (.mv (.t 10)), none⟩, ⟨0, (some 41), (.fld 0 (.t 1)), none⟩,
  ⟨0, (some 42), (.load false 1 (.t 41)), none⟩, ⟨0, (some 43), (.bin .lss (.t 40) (.t 42)), none⟩]) (.cond (.t 43) .skip (.exit 4))) (.seq (.block 5 (.seq
  (.reg [] false [⟨0, (some 46), (.mv (.t 6)), none⟩, ⟨0, (some 47), (.mv (.t 10)), none⟩, ⟨0, (some 48), (.bin .add (.t 47) (.c (.int .i64 1))), none⟩, ⟨0,
  (some 49), (.idx 1 (.t 46) (.t 48)), none⟩, ⟨0, (some 50), (.load false 1 (.t 49)), none⟩]) (.cond (.t 50) (.reg [] false [⟨0, (some 51), (.mv (.t 9)),
  none⟩, ⟨0, (some 52), (.mv (.t 10)), none⟩, ⟨0, (some 53), (.bslice 1 1 [(.int .i64 0)] [(0, (1, (.t 52)))]), none⟩, ⟨0, (some 54), (.app 1 8 (.t 51) (.t
  53)), none⟩, ⟨0, (some 9), (.mv (.t 54)), none⟩]) .skip))) (.reg [] false [⟨0, (some 44), (.mv (.t 10)), none⟩, ⟨0, (some 45), (.bin .add (.t 44) (.c (.int
  .i64 1))), none⟩, ⟨0, (some 10), (.mv (.t 45)), none⟩])))))) (.seq (.reg [] false [⟨0, (some 55), (.mv (.t 9)), none⟩, ⟨0, (some 56), (.mv (.t 8)), none⟩,
  ⟨0, (some 2), (.mv (.t 55)), none⟩, ⟨0, (some 3), (.mv (.t 56)), none⟩]) .ret))))) (.reg [] false [⟨0, (some 27), (.mv (.t 8)), none⟩, ⟨0, (some 28), (.bin
  .add (.t 27) (.c (.int .i64 1))), none⟩, ⟨0, (some 8), (.mv (.t 28)), none⟩]))))))))) (.reg [] false [⟨0, (some 17), (.mv (.t 5)), none⟩, ⟨0, (some 18),
  (.bin .add (.t 17) (.c (.int .i64 1))), none⟩, ⟨0, (some 5), (.mv (.t 18)), none⟩])))))) (.seq (.reg [] false [⟨0, (some 2), (.mv (.c .nilsl)), none⟩, ⟨0,
  (some 3), (.mv (.c (.int .i64 0))), none⟩]) .ret))))⟩
theorem is49 : FnIs prog 49 x49.fn := ⟨fun vs w => call49 vs w, _, _, func49, rfl, rfl, by kernel_rfl, by kernel_rfl⟩
theorem ok49 : okX x49.body = true := by kernel_rfl
theorem st49 : sitesP x49 x49.body := (sitesP_of rfl)

/-- zafra/zafraref01.side -/
def x50 : XFn := ⟨23, [(4, none)], false, false,
  (.seq (.reg [] false [⟨0, (some 4), (.mv (.c .nilsl)), none⟩]) (.seq (.reg [] false [⟨0, (some 5), (.mv (.c .nilsl)), none⟩]) (.seq (.seq (.reg [] false [⟨0,
  (some 6), (.mv (.c (.int .i64 0))), none⟩]) (.block 0 (.loop [0, 1, 5, 6] (.seq (.seq (.reg [] false [⟨0, (some 7), (.mv (.t 6)), none⟩, ⟨0, (some 8), (.mv
  (.t 0)), none⟩, ⟨0, (some 9), (.len false (.t 8)), none⟩, ⟨0, (some 10), (.bin .lss (.t 7) (.t 9)), none⟩]) (.cond (.t 10) .skip (.exit 0))) (.seq (.block 1
  (.reg [] false [⟨0, (some 13), (.mv (.t 5)), none⟩, ⟨0, (some 14), (.mv (.t 0)), none⟩, ⟨0, (some 15), (.mv (.t 6)), none⟩, ⟨0, (some 16), (.idx 1 (.t 14)
  (.t 15)), none⟩, ⟨0, (some 17), (.load false 1 (.t 16)), none⟩, ⟨0, (some 18), (.mv (.t 1)), none⟩, ⟨0, (some 19), (.bin .eql (.t 17) (.t 18)), none⟩, ⟨0,
  (some 20), (.bslice 1 1 [(.bool false)] [(0, (1, (.t 19)))]), none⟩, ⟨0, (some 21), (.app 1 1 (.t 13) (.t 20)), none⟩, ⟨0, (some 5), (.mv (.t 21)), none⟩]))
  (.reg [] false [⟨0, (some 11), (.mv (.t 6)), none⟩, ⟨0, (some 12), (.bin .add (.t 11) (.c (.int .i64 1))), none⟩, ⟨0, (some 6), (.mv (.t 12)), none⟩]))))))
  (.seq (.reg [] false [⟨0, (some 22), (.mv (.t 5)), none⟩, ⟨0, (some 4), (.mv (.t 22)), none⟩]) .ret))))⟩
theorem is50 : FnIs prog 50 x50.fn := ⟨fun vs w => call50 vs w, _, _, func50, rfl, rfl, by kernel_rfl, by kernel_rfl⟩
theorem ok50 : okX x50.body = true := by kernel_rfl
theorem st50 : sitesP x50 x50.body := (sitesP_of rfl)

/-- zafra/zafraref01.add -/
def x51 : XFn := ⟨23, [(6, (some (true, 4)))], false, false,
  (.seq (.reg [] false [⟨0, (some 3), (.box (.t 0)), none⟩, ⟨0, (some 5), (.box (.t 2)), none⟩, ⟨0, (some 6), (.alloc [(.int .i64 0), (.int .i64 0), (.int .i64
  0), (.int .i64 0)]), none⟩]) (.seq (.seq (.reg [] false [⟨0, (some 7), (.mv (.c (.int .i64 0))), none⟩]) (.block 0 (.loop [1, 3, 5, 6, 7] (.seq (.seq (.reg
  [] false [⟨0, (some 8), (.mv (.t 7)), none⟩, ⟨0, (some 9), (.bin .lss (.t 8) (.c (.int .i64 4))), none⟩]) (.cond (.t 9) .skip (.exit 0))) (.seq (.block 1
  (.reg [] true [⟨0, (some 12), (.mv (.t 7)), none⟩, ⟨1, (some 13), (.idxa 4 1 (.t 3) (.t 12)), none⟩, ⟨2, (some 14), (.load false 1 (.t 13)), none⟩, ⟨3,
  (some 15), (.mv (.t 1)), none⟩, ⟨4, (some 16), (.mv (.t 7)), none⟩, ⟨5, (some 17), (.idxa 4 1 (.t 5) (.t 16)), none⟩, ⟨6, (some 18), (.load false 1 (.t
  17)), none⟩, ⟨7, (some 19), (.bin .mul (.t 15) (.t 18)), none⟩, ⟨8, (some 20), (.bin .add (.t 14) (.t 19)), none⟩, ⟨9, (some 21), (.idxa 4 1 (.t 3) (.t
  12)), none⟩, ⟨10, none, (.store 1 (.t 21) (.t 20) []), none⟩])) (.reg [] false [⟨0, (some 10), (.mv (.t 7)), none⟩, ⟨0, (some 11), (.bin .add (.t 10) (.c
  (.int .i64 1))), none⟩, ⟨0, (some 7), (.mv (.t 11)), none⟩])))))) (.seq (.reg [] false [⟨0, (some 22), (.load true 4 (.t 3)), none⟩, ⟨0, none, (.store 4 (.t
  6) (.t 22) []), none⟩]) .ret)))⟩
theorem is51 : FnIs prog 51 x51.fn := ⟨fun vs w => call51 vs w, _, _, func51, rfl, rfl, by kernel_rfl, by kernel_rfl⟩
theorem ok51 : okX x51.body = true := by kernel_rfl
theorem st51 : sitesP x51 x51.body := (sitesP_of rfl)

/-- slices.ContainsFunc of  of zafra/bulk.Flow,zafra/bulk.Flow -/
def x52 : XFn := ⟨9, [(4, none)], false, false,
  (.seq (.reg [] false [⟨0, (some 4), (.mv (.c (.bool false))), none⟩]) (.seq (.reg [(0, false), (1, false)] false [⟨0, (some 5), (.mv (.t 0)), none⟩, ⟨0, (some
  6), (.mv (.t 1)), none⟩, ⟨0, (some 7), (.callf false (.c (.fn (.func 73) [] [])) [(.t 5), (.t 6)] []), none⟩, ⟨0, (some 8), (.bin .geq (.t 7) (.c (.int .i64
  0))), none⟩, ⟨0, (some 4), (.mv (.t 8)), none⟩]) .ret))⟩
theorem is52 : FnIs prog 52 x52.fn := ⟨fun vs w => call52 vs w, _, _, func52, rfl, rfl, by kernel_rfl, by kernel_rfl⟩
theorem ok52 : okX x52.body = true := by kernel_rfl
theorem st52 : sitesP x52 x52.body := (sitesP_of rfl)

/-- zafra/bulk.Refutes$1 -/
def x53 : XFn := ⟨18, [(3, none)], false, false,
  (.seq (.reg [] false [⟨0, (some 2), (.box (.t 0)), none⟩, ⟨0, (some 3), (.mv (.c (.bool false))), none⟩]) (.seq (.reg [(2, true)] true [⟨0, (some 4), (.fld 2
  (.t 2)), none⟩, ⟨1, (some 5), (.load false 1 (.t 4)), none⟩, ⟨2, (some 6), (.not (.t 5)), none⟩, ⟨3, (some 7), (.mv (.t 6)), none⟩, ⟨4, (some 8), (.load
  false 1 (.t 1)), (some (7, true))⟩, ⟨5, (some 9), (.fld 0 (.t 2)), (some (7, true))⟩, ⟨6, (some 10), (.load false 1 (.t 9)), (some (7, true))⟩, ⟨8, (some
  12), (.load false 1 (.t 1)), (some (7, true))⟩, ⟨9, (some 13), (.fld 1 (.t 2)), (some (7, true))⟩, ⟨10, (some 14), (.load false 1 (.t 13)), (some (7,
  true))⟩, ⟨7, (some 11), (.callf false (.t 8) [(.t 10)] [8, 10]), (some (7, true))⟩, ⟨11, (some 15), (.callf false (.t 12) [(.t 14)] []), (some (7, true))⟩,
  ⟨12, (some 16), (.binb true (.t 11) (.t 15)), (some (7, true))⟩, ⟨13, (some 17), (.pick (.t 7) (.t 16) (.c (.bool false))), none⟩, ⟨14, (some 3), (.mv (.t
  17)), none⟩]) .ret))⟩
theorem is53 : FnIs prog 53 x53.fn := ⟨fun vs w => call53 vs w, _, _, func53, rfl, rfl, by kernel_rfl, by kernel_rfl⟩
theorem ok53 : okX x53.body = true := by kernel_rfl
theorem st53 : sitesP x53 x53.body := (sitesP_of rfl)

/-- (zafra/zafralaw01.Mill).made$1 -/
def x54 : XFn := ⟨23, [(5, none)], false, false,
  (.seq (.reg [] false [⟨0, (some 5), (.mv (.c (.int .i64 0))), none⟩]) (.seq (.seq (.reg [] false [⟨0, (some 6), (.fld 2 (.t 2)), none⟩, ⟨0, (some 7), (.load
  false 1 (.t 6)), none⟩, ⟨0, (some 8), (.len false (.t 7)), none⟩, ⟨0, (some 9), (.bin .eql (.t 8) (.c (.int .i64 0))), none⟩]) (.cond (.t 9) (.seq (.reg []
  false [⟨0, (some 5), (.mv (.c (.int .i64 1))), none⟩]) .ret) .skip)) (.seq (.reg [] true [⟨0, (some 10), (.fld 2 (.t 2)), none⟩, ⟨1, (some 11), (.load false
  1 (.t 10)), none⟩, ⟨2, (some 12), (.mv (.t 0)), none⟩, ⟨3, (some 13), (.bin .mul (.c (.int .i64 4)) (.t 12)), none⟩, ⟨4, (some 14), (.mv (.t 1)), none⟩, ⟨5,
  (some 15), (.bin .add (.t 13) (.t 14)), none⟩, ⟨6, (some 16), (.fld 2 (.t 2)), none⟩, ⟨7, (some 17), (.load false 1 (.t 16)), none⟩, ⟨8, (some 18), (.len
  false (.t 17)), none⟩, ⟨9, (some 19), (.bin .rem (.t 15) (.t 18)), none⟩, ⟨10, (some 20), (.idx 1 (.t 11) (.t 19)), none⟩, ⟨11, (some 21), (.load false 1
  (.t 20)), none⟩, ⟨12, (some 22), (.conv .i64 (.t 21)), none⟩, ⟨13, (some 5), (.mv (.t 22)), none⟩]) .ret)))⟩
theorem is54 : FnIs prog 54 x54.fn := ⟨fun vs w => call54 vs w, _, _, func54, rfl, rfl, by kernel_rfl, by kernel_rfl⟩
theorem ok54 : okX x54.body = true := by kernel_rfl
theorem st54 : sitesP x54 x54.body := (sitesP_of rfl)

/-- (zafra/bulk.Masses).within -/
def x55 : XFn := ⟨11, [(6, none)], false, false,
  (.seq (.reg [] false [⟨0, (some 3), (.box (.t 0)), none⟩, ⟨0, (some 4), (.box (.t 1)), none⟩, ⟨0, (some 5), (.box (.t 2)), none⟩, ⟨0, (some 6), (.mv (.c
  (.bool false))), none⟩]) (.seq (.reg [] false [⟨0, (some 7), (.slarr 4 1 (.t 3) none none), none⟩, ⟨0, (some 8), (.mkf (.func 75) [] [(.t 4), (.t 5)]),
  none⟩, ⟨0, (some 9), (.callf false (.c (.fn (.func 74) [] [])) [(.t 7), (.t 8)] []), none⟩, ⟨0, (some 10), (.not (.t 9)), none⟩, ⟨0, (some 6), (.mv (.t
  10)), none⟩]) .ret))⟩
theorem is55 : FnIs prog 55 x55.fn := ⟨fun vs w => call55 vs w, _, _, func55, rfl, rfl, by kernel_rfl, by kernel_rfl⟩
theorem ok55 : okX x55.body = true := by kernel_rfl
theorem st55 : sitesP x55 x55.body := (sitesP_of rfl)

/-- slices.Clone of  of zafra/bulk.Flow,zafra/bulk.Flow -/
def x56 : XFn := ⟨8, [(2, none)], true, true,
  (.seq (.reg [] false [⟨0, (some 2), (.mv (.c .nilsl)), none⟩]) (.seq (.seq (.reg [] false [⟨0, (some 3), (.mv (.t 0)), none⟩, ⟨0, (some 4), (.eqn 0 false (.t
  3) (.c .nilsl)), none⟩]) (.cond (.t 4) (.seq (.reg [] false [⟨0, (some 2), (.mv (.c .nilsl)), none⟩]) .ret) .skip)) (.seq (.reg [] false [⟨0, (some 5),
  (.bslice 7 0 [(.int .i64 0), (.int .i64 0), (.bool false), (.int .i64 0), (.int .i64 0), (.int .i64 0), (.int .i64 0)] []), none⟩, ⟨0, (some 6), (.mv (.t
  0)), none⟩, ⟨0, (some 7), (.app 7 56 (.t 5) (.t 6)), none⟩, ⟨0, (some 2), (.mv (.t 7)), none⟩]) .ret)))⟩
theorem is56 : FnIs prog 56 x56.fn := ⟨fun vs w => call56 vs w, _, _, func56, rfl, rfl, by kernel_rfl, by kernel_rfl⟩
theorem ok56 : okX x56.body = true := by kernel_rfl
theorem st56 : sitesP x56 x56.body := (sitesP_of rfl)

/-- (zafra/bulk.heads of int).of -/
def x57 : XFn := ⟨22, [(4, none)], false, false,
  (.seq (.reg [] false [⟨0, (some 4), (.mv (.c (.int .i64 0))), none⟩]) (.block 0 (.loop [0, 1] (.block 1 (.seq (.reg [] false [⟨0, (some 8), (.mv (.t 0)),
  none⟩, ⟨0, (some 9), (.mv (.t 1)), none⟩, ⟨0, (some 10), (.lookup false true (.int .i64 0) (.t 8) (.t 9)), none⟩, ⟨0, (some 7), (.mv (.t 10)), none⟩, ⟨0,
  (some 11), (.ext (.t 7) 0), none⟩, ⟨0, (some 12), (.ext (.t 7) 1), none⟩, ⟨0, (some 5), (.mv (.t 11)), none⟩, ⟨0, (some 6), (.mv (.t 12)), none⟩]) (.seq
  (.seq (.reg [] false [⟨0, (some 13), (.mv (.t 6)), none⟩, ⟨0, (some 14), (.not (.t 13)), none⟩, ⟨0, (some 15), (.mv (.t 14)), none⟩, ⟨0, (some 16), (.mv (.t
  5)), (some (15, false))⟩, ⟨0, (some 17), (.mv (.t 1)), (some (15, false))⟩, ⟨0, (some 18), (.bin .eql (.t 16) (.t 17)), (some (15, false))⟩, ⟨0, (some 19),
  (.pick (.t 15) (.c (.bool true)) (.t 18)), none⟩]) (.cond (.t 19) (.seq (.reg [] false [⟨0, (some 20), (.mv (.t 1)), none⟩, ⟨0, (some 4), (.mv (.t 20)),
  none⟩]) .ret) .skip)) (.reg [] false [⟨0, (some 21), (.mv (.t 5)), none⟩, ⟨0, (some 1), (.mv (.t 21)), none⟩])))))))⟩
theorem is57 : FnIs prog 57 x57.fn := ⟨fun vs w => call57 vs w, _, _, func57, rfl, rfl, by kernel_rfl, by kernel_rfl⟩
theorem ok57 : okX x57.body = true := by kernel_rfl
theorem st57 : sitesP x57 x57.body := (sitesP_of rfl)

/-- (zafra/bulk.heads of int).join -/
def x58 : XFn := ⟨21, [], false, false,
  (.seq (.reg [(0, false), (1, false), (2, false)] false [⟨0, (some 8), (.mv (.t 0)), none⟩, ⟨0, (some 9), (.mv (.t 1)), none⟩, ⟨0, (some 10), (.callf false (.c
  (.fn (.func 57) [] [])) [(.t 8), (.t 9)] []), none⟩, ⟨0, (some 11), (.mv (.t 0)), none⟩, ⟨0, (some 12), (.mv (.t 2)), none⟩, ⟨0, (some 13), (.callf false
  (.c (.fn (.func 57) [] [])) [(.t 11), (.t 12)] []), none⟩, ⟨0, (some 6), (.mv (.t 10)), none⟩, ⟨0, (some 7), (.mv (.t 13)), none⟩]) (.reg [] false [⟨0,
  (some 14), (.mv (.t 0)), none⟩, ⟨0, (some 15), (.mv (.t 6)), none⟩, ⟨0, (some 16), (.mv (.t 7)), none⟩, ⟨0, (some 17), (.mm true (.t 15) (.t 16)), none⟩,
  ⟨0, (some 18), (.mv (.t 6)), none⟩, ⟨0, (some 19), (.mv (.t 7)), none⟩, ⟨0, (some 20), (.mm false (.t 18) (.t 19)), none⟩, ⟨0, none, (.mapup false (.t 14)
  (.t 17) (.t 20)), none⟩]))⟩
theorem is58 : FnIs prog 58 x58.fn := ⟨fun vs w => call58 vs w, _, _, func58, rfl, rfl, by kernel_rfl, by kernel_rfl⟩
theorem ok58 : okX x58.body = true := by kernel_rfl
theorem st58 : sitesP x58 x58.body := (sitesP_of rfl)

/-- zafra/bulk.Fill$1 -/
def x59 : XFn := ⟨83, [(7, (some (true, 4)))], false, false,
  (.seq (.reg [] false [⟨0, (some 5), (.box (.t 0)), none⟩, ⟨0, (some 7), (.alloc [(.int .i64 0), (.int .i64 0), (.int .i64 0), (.int .i64 0)]), none⟩]) (.seq
  (.reg [(2, true)] false [⟨0, (some 12), (.load true 2 (.t 2)), none⟩, ⟨0, (some 13), (.mkf (.func 60) [] [(.t 5)]), none⟩, ⟨0, (some 14), (.callf false (.c
  (.fn (.func 39) [] [])) [(.t 12), (.c (.int .i64 (-1))), (.t 13)] []), none⟩, ⟨0, (some 8), (.alloc [(.int .i64 0), (.int .i64 0), (.int .i64 0), (.int .i64
  0)]), none⟩, ⟨0, none, (.store 4 (.t 8) (.t 14) []), none⟩]) (.seq (.seq (.reg [] false [⟨0, (some 15), (.fld 1 (.t 2)), none⟩, ⟨0, (some 16), (.load false
  1 (.t 15)), none⟩, ⟨0, (some 17), (.len false (.t 16)), none⟩, ⟨0, (some 18), (.mv (.c (.int .i64 0))), none⟩]) (.block 0 (.loop [1, 3, 4, 5, 7, 8, 16, 17,
  18] (.seq (.reg [] false [⟨0, (some 19), (.bin .lss (.t 18) (.t 17)), none⟩]) (.seq (.cond (.t 19) .skip (.exit 0)) (.seq (.block 1 (.seq (.reg [] false
  [⟨0, (some 20), (.mv (.t 18)), none⟩, ⟨0, (some 21), (.idx 7 (.t 16) (.t 18)), none⟩, ⟨0, (some 22), (.load true 7 (.t 21)), none⟩, ⟨0, (some 10), (.alloc
  [(.int .i64 0), (.int .i64 0), (.bool false), (.int .i64 0), (.int .i64 0), (.int .i64 0), (.int .i64 0)]), none⟩, ⟨0, (some 9), (.mv (.t 20)), none⟩, ⟨0,
  none, (.store 7 (.t 10) (.t 22) []), none⟩]) (.seq (.seq (.reg [] false [⟨0, (some 23), (.fld 2 (.t 10)), none⟩, ⟨0, (some 24), (.load false 1 (.t 23)),
  none⟩, ⟨0, (some 25), (.mv (.t 24)), none⟩, ⟨0, (some 26), (.mv (.t 9)), (some (25, false))⟩, ⟨0, (some 27), (.mv (.t 1)), (some (25, false))⟩, ⟨0, (some
  28), (.bin .eql (.t 26) (.t 27)), (some (25, false))⟩, ⟨0, (some 29), (.pick (.t 25) (.c (.bool true)) (.t 28)), none⟩, ⟨0, (some 30), (.mv (.t 29)), none⟩,
  ⟨0, (some 31), (.fld 0 (.t 10)), (some (30, false))⟩, ⟨0, (some 32), (.load false 1 (.t 31)), (some (30, false))⟩, ⟨0, (some 33), (.load false 1 (.t 5)),
  (some (30, false))⟩, ⟨0, (some 34), (.bin .neq (.t 32) (.t 33)), (some (30, false))⟩, ⟨0, (some 35), (.mv (.t 34)), (some (30, false))⟩, ⟨0, (some 36),
  (.fld 1 (.t 10)), (some (35, true))⟩, ⟨0, (some 37), (.load false 1 (.t 36)), (some (35, true))⟩, ⟨0, (some 38), (.load false 1 (.t 5)), (some (35, true))⟩,
  ⟨0, (some 39), (.bin .neq (.t 37) (.t 38)), (some (35, true))⟩, ⟨0, (some 40), (.pick (.t 35) (.t 39) (.c (.bool false))), (some (30, false))⟩, ⟨0, (some
  41), (.pick (.t 30) (.c (.bool true)) (.t 40)), none⟩]) (.cond (.t 41) (.exit 1) .skip)) (.seq (.seq (.reg [] false [⟨0, (some 42), (.fld 0 (.t 10)), none⟩,
  ⟨0, (some 43), (.load false 1 (.t 42)), none⟩, ⟨0, (some 44), (.load false 1 (.t 5)), none⟩, ⟨0, (some 45), (.bin .eql (.t 43) (.t 44)), none⟩]) (.cond (.t
  45) (.seq (.reg [(10, true)] false [⟨0, (some 46), (.load false 1 (.t 3)), none⟩, ⟨0, (some 47), (.fld 1 (.t 10)), none⟩, ⟨0, (some 48), (.load false 1 (.t
  47)), none⟩, ⟨0, (some 49), (.mv (.t 9)), none⟩, ⟨0, (some 50), (.callf false (.t 46) [(.t 48), (.t 49)] []), none⟩, ⟨0, (some 11), (.alloc [(.int .i64 0),
  (.int .i64 0), (.int .i64 0), (.int .i64 0)]), none⟩, ⟨0, none, (.store 4 (.t 11) (.t 50) []), none⟩]) (.reg [(11, true)] true [⟨0, (some 51), (.load false
  1 (.t 4)), none⟩, ⟨1, (some 52), (.mv (.t 9)), none⟩, ⟨2, (some 53), (.build [(.int .i64 0), (.int .i64 0), (.int .i64 0), (.int .i64 0)] []), none⟩, ⟨3,
  (some 54), (.load true 4 (.t 11)), none⟩, ⟨4, (some 55), (.callf false (.c (.fn (.func 61) [] [])) [(.t 53), (.c (.int .i64 (-1))), (.t 54)] [0]), none⟩,
  ⟨5, (some 56), (.idx 4 (.t 51) (.t 52)), none⟩, ⟨6, none, (.store 4 (.t 56) (.t 55) []), none⟩])) (.reg [(10, true)] true [⟨0, (some 57), (.load false 1 (.t
  4)), none⟩, ⟨1, (some 58), (.mv (.t 9)), none⟩, ⟨2, (some 59), (.load false 1 (.t 3)), none⟩, ⟨3, (some 60), (.fld 0 (.t 10)), none⟩, ⟨4, (some 61), (.load
  false 1 (.t 60)), none⟩, ⟨5, (some 62), (.mv (.t 9)), none⟩, ⟨6, (some 63), (.callf false (.t 59) [(.t 61), (.t 62)] [0]), none⟩, ⟨7, (some 64), (.idx 4 (.t
  57) (.t 58)), none⟩, ⟨8, none, (.store 4 (.t 64) (.t 63) []), none⟩]))) (.seq (.reg [] false [⟨0, (some 65), (.fld 0 (.t 10)), none⟩, ⟨0, (some 66), (.load
  false 1 (.t 65)), none⟩, ⟨0, (some 67), (.load false 1 (.t 5)), none⟩, ⟨0, (some 68), (.bin .eql (.t 66) (.t 67)), none⟩]) (.cond (.t 68) (.reg [(8, true)]
  true [⟨0, (some 69), (.load true 4 (.t 8)), none⟩, ⟨1, (some 70), (.load false 1 (.t 4)), none⟩, ⟨2, (some 71), (.mv (.t 9)), none⟩, ⟨3, (some 72), (.idx 4
  (.t 70) (.t 71)), none⟩, ⟨4, (some 73), (.load true 4 (.t 72)), none⟩, ⟨5, (some 74), (.callf false (.c (.fn (.func 61) [] [])) [(.t 69), (.c (.int .i64
  (-1))), (.t 73)] []), none⟩, ⟨6, none, (.store 4 (.t 8) (.t 74) []), none⟩]) (.reg [(8, true)] true [⟨0, (some 75), (.load true 4 (.t 8)), none⟩, ⟨1, (some
  76), (.load false 1 (.t 4)), none⟩, ⟨2, (some 77), (.mv (.t 9)), none⟩, ⟨3, (some 78), (.idx 4 (.t 76) (.t 77)), none⟩, ⟨4, (some 79), (.load true 4 (.t
  78)), none⟩, ⟨5, (some 80), (.callf false (.c (.fn (.func 61) [] [])) [(.t 75), (.c (.int .i64 1)), (.t 79)] []), none⟩, ⟨6, none, (.store 4 (.t 8) (.t 80)
  []), none⟩]))))))) (.reg [] false [⟨0, (some 81), (.bin .add (.t 18) (.c (.int .i64 1))), none⟩, ⟨0, (some 18), (.mv (.t 81)), none⟩]))))))) (.seq (.reg []
  false [⟨0, (some 82), (.load true 4 (.t 8)), none⟩, ⟨0, none, (.store 4 (.t 7) (.t 82) []), none⟩]) .ret))))⟩
theorem is59 : FnIs prog 59 x59.fn := ⟨fun vs w => call59 vs w, _, _, func59, rfl, rfl, by kernel_rfl, by kernel_rfl⟩
theorem ok59 : okX x59.body = true := by kernel_rfl
theorem st59 : sitesP x59 x59.body := (sitesP_of rfl)

/-- zafra/bulk.Fill$1$1 -/
def x60 : XFn := ⟨7, [(3, none)], false, false,
  (.seq (.reg [] false [⟨0, (some 3), (.mv (.c (.bool false))), none⟩]) (.seq (.reg [] false [⟨0, (some 4), (.mv (.t 0)), none⟩, ⟨0, (some 5), (.load false 1
  (.t 1)), none⟩, ⟨0, (some 6), (.bin .eql (.t 4) (.t 5)), none⟩, ⟨0, (some 3), (.mv (.t 6)), none⟩]) .ret))⟩
theorem is60 : FnIs prog 60 x60.fn := ⟨fun vs w => call60 vs w, _, _, func60, rfl, rfl, by kernel_rfl, by kernel_rfl⟩
theorem ok60 : okX x60.body = true := by kernel_rfl
theorem st60 : sitesP x60 x60.body := (sitesP_of rfl)

/-- (zafra/bulk.Masses).plus -/
def x61 : XFn := ⟨23, [(6, (some (true, 4)))], false, false,
  (.seq (.reg [] false [⟨0, (some 3), (.box (.t 0)), none⟩, ⟨0, (some 5), (.box (.t 2)), none⟩, ⟨0, (some 6), (.alloc [(.int .i64 0), (.int .i64 0), (.int .i64
  0), (.int .i64 0)]), none⟩]) (.seq (.seq (.reg [] false [⟨0, (some 8), (.mv (.c (.int .i64 0))), none⟩]) (.block 0 (.loop [1, 3, 5, 6, 8] (.seq (.reg []
  false [⟨0, (some 9), (.bin .lss (.t 8) (.c (.int .i64 4))), none⟩]) (.seq (.cond (.t 9) .skip (.exit 0)) (.seq (.block 1 (.seq (.reg [] false [⟨0, (some
  10), (.mv (.t 8)), none⟩, ⟨0, (some 7), (.mv (.t 10)), none⟩]) (.reg [] true [⟨0, (some 11), (.mv (.t 7)), none⟩, ⟨1, (some 12), (.idxa 4 1 (.t 3) (.t 11)),
  none⟩, ⟨2, (some 13), (.load false 1 (.t 12)), none⟩, ⟨3, (some 14), (.mv (.t 1)), none⟩, ⟨4, (some 15), (.mv (.t 7)), none⟩, ⟨5, (some 16), (.idxa 4 1 (.t
  5) (.t 15)), none⟩, ⟨6, (some 17), (.load false 1 (.t 16)), none⟩, ⟨7, (some 18), (.bin .mul (.t 14) (.t 17)), none⟩, ⟨8, (some 19), (.bin .add (.t 13) (.t
  18)), none⟩, ⟨9, (some 20), (.idxa 4 1 (.t 3) (.t 11)), none⟩, ⟨10, none, (.store 1 (.t 20) (.t 19) []), none⟩]))) (.reg [] false [⟨0, (some 21), (.bin .add
  (.t 8) (.c (.int .i64 1))), none⟩, ⟨0, (some 8), (.mv (.t 21)), none⟩]))))))) (.seq (.reg [] false [⟨0, (some 22), (.load true 4 (.t 3)), none⟩, ⟨0, none,
  (.store 4 (.t 6) (.t 22) []), none⟩]) .ret)))⟩
theorem is61 : FnIs prog 61 x61.fn := ⟨fun vs w => call61 vs w, _, _, func61, rfl, rfl, by kernel_rfl, by kernel_rfl⟩
theorem ok61 : okX x61.body = true := by kernel_rfl
theorem st61 : sitesP x61 x61.body := (sitesP_of rfl)

/-- slices.ContainsFunc of  of zafra/bulk.Masses,zafra/bulk.Masses -/
def x62 : XFn := ⟨9, [(4, none)], false, false,
  (.seq (.reg [] false [⟨0, (some 4), (.mv (.c (.bool false))), none⟩]) (.seq (.reg [(0, false), (1, false)] false [⟨0, (some 5), (.mv (.t 0)), none⟩, ⟨0, (some
  6), (.mv (.t 1)), none⟩, ⟨0, (some 7), (.callf false (.c (.fn (.func 76) [] [])) [(.t 5), (.t 6)] []), none⟩, ⟨0, (some 8), (.bin .geq (.t 7) (.c (.int .i64
  0))), none⟩, ⟨0, (some 4), (.mv (.t 8)), none⟩]) .ret))⟩
theorem is62 : FnIs prog 62 x62.fn := ⟨fun vs w => call62 vs w, _, _, func62, rfl, rfl, by kernel_rfl, by kernel_rfl⟩
theorem ok62 : okX x62.body = true := by kernel_rfl
theorem st62 : sitesP x62 x62.body := (sitesP_of rfl)

/-- zafra/bulk.Verify$1 -/
def x63 : XFn := ⟨6, [(2, none)], false, false,
  (.seq (.reg [] false [⟨0, (some 1), (.box (.t 0)), none⟩, ⟨0, (some 2), (.mv (.c (.bool false))), none⟩]) (.seq (.reg [(1, true)] false [⟨0, (some 3), (.load
  true 4 (.t 1)), none⟩, ⟨0, (some 4), (.callf false (.c (.fn (.func 55) [] [])) [(.t 3), (.c (.int .i64 (-1000000000000))), (.c (.int .i64 1000000000000))]
  []), none⟩, ⟨0, (some 5), (.not (.t 4)), none⟩, ⟨0, (some 2), (.mv (.t 5)), none⟩]) .ret))⟩
theorem is63 : FnIs prog 63 x63.fn := ⟨fun vs w => call63 vs w, _, _, func63, rfl, rfl, by kernel_rfl, by kernel_rfl⟩
theorem ok63 : okX x63.body = true := by kernel_rfl
theorem st63 : sitesP x63 x63.body := (sitesP_of rfl)

/-- zafra/bulk.Verify$2 -/
def x64 : XFn := ⟨7, [(3, none)], false, false,
  (.seq (.reg [] false [⟨0, (some 3), (.mv (.c (.bool false))), none⟩]) (.seq (.reg [] false [⟨0, (some 4), (.mv (.t 0)), none⟩, ⟨0, (some 5), (.load false 1
  (.t 1)), none⟩, ⟨0, (some 6), (.bin .eql (.t 4) (.t 5)), none⟩, ⟨0, (some 3), (.mv (.t 6)), none⟩]) .ret))⟩
theorem is64 : FnIs prog 64 x64.fn := ⟨fun vs w => call64 vs w, _, _, func64, rfl, rfl, by kernel_rfl, by kernel_rfl⟩
theorem ok64 : okX x64.body = true := by kernel_rfl
theorem st64 : sitesP x64 x64.body := (sitesP_of rfl)

/-- math/bits.Mul -/
def x65 : XFn := ⟨30, [(4, none), (5, none)], false, false,
  (.seq (.reg [] false [⟨0, (some 4), (.mv (.c (.int .u64 0))), none⟩, ⟨0, (some 5), (.mv (.c (.int .u64 0))), none⟩]) (.seq (.cond (.c (.bool false)) (.seq
  (.reg [] false [⟨0, (some 11), (.mv (.t 0)), none⟩, ⟨0, (some 12), (.conv .u32 (.t 11)), none⟩, ⟨0, (some 13), (.mv (.t 1)), none⟩, ⟨0, (some 14), (.conv
  .u32 (.t 13)), none⟩, ⟨0, (some 15), (.callf false (.c (.fn (.func 77) [] [])) [(.t 12), (.t 14)] []), none⟩, ⟨0, (some 10), (.mv (.t 15)), none⟩, ⟨0, (some
  16), (.ext (.t 10) 0), none⟩, ⟨0, (some 17), (.ext (.t 10) 1), none⟩, ⟨0, (some 6), (.mv (.t 16)), none⟩, ⟨0, (some 7), (.mv (.t 17)), none⟩]) (.seq (.reg
  [] false [⟨0, (some 18), (.mv (.t 6)), none⟩, ⟨0, (some 19), (.conv .u64 (.t 18)), none⟩, ⟨0, (some 20), (.mv (.t 7)), none⟩, ⟨0, (some 21), (.conv .u64 (.t
  20)), none⟩, ⟨0, (some 4), (.mv (.t 19)), none⟩, ⟨0, (some 5), (.mv (.t 21)), none⟩]) .ret)) .skip) (.seq (.reg [] false [⟨0, (some 23), (.mv (.t 0)),
  none⟩, ⟨0, (some 24), (.mv (.t 1)), none⟩, ⟨0, (some 25), (.callf false (.c (.fn (.func 78) [] [])) [(.t 23), (.t 24)] []), none⟩, ⟨0, (some 22), (.mv (.t
  25)), none⟩, ⟨0, (some 26), (.ext (.t 22) 0), none⟩, ⟨0, (some 27), (.ext (.t 22) 1), none⟩, ⟨0, (some 8), (.mv (.t 26)), none⟩, ⟨0, (some 9), (.mv (.t
  27)), none⟩]) (.seq (.reg [] false [⟨0, (some 28), (.mv (.t 8)), none⟩, ⟨0, (some 29), (.mv (.t 9)), none⟩, ⟨0, (some 4), (.mv (.t 28)), none⟩, ⟨0, (some
  5), (.mv (.t 29)), none⟩]) .ret))))⟩
theorem is65 : FnIs prog 65 x65.fn := ⟨fun vs w => call65 vs w, _, _, func65, rfl, rfl, by kernel_rfl, by kernel_rfl⟩
theorem ok65 : okX x65.body = true := by kernel_rfl
theorem st65 : sitesP x65 x65.body := (sitesP_of rfl)

/-- (zafra/bulk.Plant).parts$1 -/
def x66 : XFn := ⟨39, [], false, false,
  (.seq (.reg [(1, true)] false [⟨0, (some 7), (.load true 2 (.t 1)), none⟩, ⟨0, (some 8), (.callf false (.c (.fn (.func 67) [] [])) [(.t 7), (.c (.int .i64
  (-1)))] []), none⟩, ⟨0, (some 3), (.mv (.t 8)), none⟩]) (.seq (.reg [] false [⟨0, (some 9), (.fld 0 (.t 1)), none⟩, ⟨0, (some 10), (.load false 1 (.t 9)),
  none⟩, ⟨0, (some 11), (.mv (.c (.int .i64 0))), none⟩]) (.block 0 (.loop [0, 1, 3, 10, 11] (.seq (.reg [] false [⟨0, (some 12), (.bin .lss (.t 11) (.t 10)),
  none⟩]) (.seq (.cond (.t 12) .skip (.exit 0)) (.seq (.block 1 (.seq (.reg [] false [⟨0, (some 13), (.mv (.t 11)), none⟩, ⟨0, (some 4), (.mv (.t 13)),
  none⟩]) (.seq (.seq (.reg [(3, false)] false [⟨0, (some 14), (.mv (.t 3)), none⟩, ⟨0, (some 15), (.mv (.t 4)), none⟩, ⟨0, (some 16), (.callf false (.c (.fn
  (.func 57) [] [])) [(.t 14), (.t 15)] []), none⟩, ⟨0, (some 17), (.mv (.t 4)), none⟩, ⟨0, (some 18), (.bin .neq (.t 16) (.t 17)), none⟩]) (.cond (.t 18)
  (.exit 1) .skip)) (.seq (.reg [] false [⟨0, (some 5), (.mv (.c .nilsl)), none⟩]) (.seq (.seq (.reg [] false [⟨0, (some 19), (.fld 0 (.t 1)), none⟩, ⟨0,
  (some 20), (.load false 1 (.t 19)), none⟩, ⟨0, (some 21), (.mv (.c (.int .i64 0))), none⟩]) (.block 2 (.loop [0, 1, 3, 4, 5, 10, 11, 20, 21] (.seq (.reg []
  false [⟨0, (some 22), (.bin .lss (.t 21) (.t 20)), none⟩]) (.seq (.cond (.t 22) .skip (.exit 2)) (.seq (.block 3 (.seq (.reg [] false [⟨0, (some 23), (.mv
  (.t 21)), none⟩, ⟨0, (some 6), (.mv (.t 23)), none⟩]) (.seq (.reg [(3, false)] false [⟨0, (some 24), (.mv (.t 3)), none⟩, ⟨0, (some 25), (.mv (.t 6)),
  none⟩, ⟨0, (some 26), (.callf false (.c (.fn (.func 57) [] [])) [(.t 24), (.t 25)] []), none⟩, ⟨0, (some 27), (.mv (.t 4)), none⟩, ⟨0, (some 28), (.bin .eql
  (.t 26) (.t 27)), none⟩]) (.cond (.t 28) (.reg [] false [⟨0, (some 29), (.mv (.t 5)), none⟩, ⟨0, (some 30), (.mv (.t 6)), none⟩, ⟨0, (some 31), (.bslice 1 1
  [(.int .i64 0)] [(0, (1, (.t 30)))]), none⟩, ⟨0, (some 32), (.app 1 8 (.t 29) (.t 31)), none⟩, ⟨0, (some 5), (.mv (.t 32)), none⟩]) .skip)))) (.reg [] false
  [⟨0, (some 33), (.bin .add (.t 21) (.c (.int .i64 1))), none⟩, ⟨0, (some 21), (.mv (.t 33)), none⟩]))))))) (.seq (.reg [(5, false)] false [⟨0, (some 34),
  (.mv (.t 0)), none⟩, ⟨0, (some 35), (.mv (.t 5)), none⟩, ⟨0, (some 36), (.callf false (.t 34) [(.t 35)] []), none⟩, ⟨0, (some 37), (.not (.t 36)), none⟩])
  (.cond (.t 37) .ret .skip))))))) (.reg [] false [⟨0, (some 38), (.bin .add (.t 11) (.c (.int .i64 1))), none⟩, ⟨0, (some 11), (.mv (.t 38)), none⟩]))))))))⟩
theorem is66 : FnIs prog 66 x66.fn := ⟨fun vs w => call66 vs w, _, _, func66, rfl, rfl, by kernel_rfl, by kernel_rfl⟩
theorem ok66 : okX x66.body = true := by kernel_rfl
theorem st66 : sitesP x66 x66.body := (sitesP_of rfl)

/-- (zafra/bulk.Plant).joined -/
def x67 : XFn := ⟨33, [(4, none)], false, false,
  (.seq (.reg [] false [⟨0, (some 2), (.box (.t 0)), none⟩, ⟨0, (some 4), (.mv (.c .nilmap)), none⟩]) (.seq (.reg [] false [⟨0, (some 8), .mkmap, none⟩, ⟨0,
  (some 5), (.mv (.t 8)), none⟩]) (.seq (.seq (.reg [] false [⟨0, (some 9), (.fld 1 (.t 2)), none⟩, ⟨0, (some 10), (.load false 1 (.t 9)), none⟩, ⟨0, (some
  11), (.len false (.t 10)), none⟩, ⟨0, (some 12), (.mv (.c (.int .i64 0))), none⟩]) (.block 0 (.loop [1, 5, 10, 11, 12] (.seq (.reg [] false [⟨0, (some 13),
  (.bin .lss (.t 12) (.t 11)), none⟩]) (.seq (.cond (.t 13) .skip (.exit 0)) (.seq (.block 1 (.seq (.reg [] false [⟨0, (some 14), (.mv (.t 12)), none⟩, ⟨0,
  (some 15), (.idx 7 (.t 10) (.t 12)), none⟩, ⟨0, (some 16), (.load true 7 (.t 15)), none⟩, ⟨0, (some 7), (.alloc [(.int .i64 0), (.int .i64 0), (.bool
  false), (.int .i64 0), (.int .i64 0), (.int .i64 0), (.int .i64 0)]), none⟩, ⟨0, (some 6), (.mv (.t 14)), none⟩, ⟨0, none, (.store 7 (.t 7) (.t 16) []),
  none⟩]) (.seq (.reg [] false [⟨0, (some 17), (.fld 2 (.t 7)), none⟩, ⟨0, (some 18), (.load false 1 (.t 17)), none⟩, ⟨0, (some 19), (.not (.t 18)), none⟩,
  ⟨0, (some 20), (.mv (.t 19)), none⟩, ⟨0, (some 21), (.mv (.t 6)), (some (20, true))⟩, ⟨0, (some 22), (.mv (.t 1)), (some (20, true))⟩, ⟨0, (some 23), (.bin
  .neq (.t 21) (.t 22)), (some (20, true))⟩, ⟨0, (some 24), (.pick (.t 20) (.t 23) (.c (.bool false))), none⟩]) (.cond (.t 24) (.reg [(5, false), (7, true)]
  false [⟨0, (some 25), (.mv (.t 5)), none⟩, ⟨0, (some 26), (.fld 0 (.t 7)), none⟩, ⟨0, (some 27), (.load false 1 (.t 26)), none⟩, ⟨0, (some 28), (.fld 1 (.t
  7)), none⟩, ⟨0, (some 29), (.load false 1 (.t 28)), none⟩, ⟨0, (some 30), (.callf false (.c (.fn (.func 58) [] [])) [(.t 25), (.t 27), (.t 29)] []), none⟩])
  .skip)))) (.reg [] false [⟨0, (some 31), (.bin .add (.t 12) (.c (.int .i64 1))), none⟩, ⟨0, (some 12), (.mv (.t 31)), none⟩]))))))) (.seq (.reg [] false
  [⟨0, (some 32), (.mv (.t 5)), none⟩, ⟨0, (some 4), (.mv (.t 32)), none⟩]) .ret))))⟩
theorem is67 : FnIs prog 67 x67.fn := ⟨fun vs w => call67 vs w, _, _, func67, rfl, rfl, by kernel_rfl, by kernel_rfl⟩
theorem ok67 : okX x67.body = true := by kernel_rfl
theorem st67 : sitesP x67 x67.body := (sitesP_of rfl)

/-- (zafra/bulk.Plant).chosen$1 -/
def x68 : XFn := ⟨7, [(3, none)], false, false,
  (.seq (.reg [] false [⟨0, (some 3), (.mv (.c (.bool false))), none⟩]) (.seq (.reg [(1, true), (0, false)] false [⟨0, (some 4), (.load false 1 (.t 1)), none⟩,
  ⟨0, (some 5), (.mv (.t 0)), none⟩, ⟨0, (some 6), (.callf false (.c (.fn (.func 69) [] [])) [(.t 4), (.t 5)] []), none⟩, ⟨0, (some 3), (.mv (.t 6)), none⟩])
  .ret))⟩
theorem is68 : FnIs prog 68 x68.fn := ⟨fun vs w => call68 vs w, _, _, func68, rfl, rfl, by kernel_rfl, by kernel_rfl⟩
theorem ok68 : okX x68.body = true := by kernel_rfl
theorem st68 : sitesP x68 x68.body := (sitesP_of rfl)

/-- slices.Contains of  of int,int -/
def x69 : XFn := ⟨9, [(4, none)], false, false,
  (.seq (.reg [] false [⟨0, (some 4), (.mv (.c (.bool false))), none⟩]) (.seq (.reg [(0, false), (1, false)] false [⟨0, (some 5), (.mv (.t 0)), none⟩, ⟨0, (some
  6), (.mv (.t 1)), none⟩, ⟨0, (some 7), (.callf false (.c (.fn (.func 79) [] [])) [(.t 5), (.t 6)] []), none⟩, ⟨0, (some 8), (.bin .geq (.t 7) (.c (.int .i64
  0))), none⟩, ⟨0, (some 4), (.mv (.t 8)), none⟩]) .ret))⟩
theorem is69 : FnIs prog 69 x69.fn := ⟨fun vs w => call69 vs w, _, _, func69, rfl, rfl, by kernel_rfl, by kernel_rfl⟩
theorem ok69 : okX x69.body = true := by kernel_rfl
theorem st69 : sitesP x69 x69.body := (sitesP_of rfl)

/-- (zafra/bulk.Plant).clash$1 -/
def x70 : XFn := ⟨7, [(3, none)], false, false,
  (.seq (.reg [] false [⟨0, (some 3), (.mv (.c (.bool false))), none⟩]) (.seq (.reg [(1, true), (0, false)] false [⟨0, (some 4), (.load false 1 (.t 1)), none⟩,
  ⟨0, (some 5), (.mv (.t 0)), none⟩, ⟨0, (some 6), (.callf false (.c (.fn (.func 69) [] [])) [(.t 4), (.t 5)] []), none⟩, ⟨0, (some 3), (.mv (.t 6)), none⟩])
  .ret))⟩
theorem is70 : FnIs prog 70 x70.fn := ⟨fun vs w => call70 vs w, _, _, func70, rfl, rfl, by kernel_rfl, by kernel_rfl⟩
theorem ok70 : okX x70.body = true := by kernel_rfl
theorem st70 : sitesP x70 x70.body := (sitesP_of rfl)

/-- (zafra/bulk.Plant).found$1 -/
def x71 : XFn := ⟨10, [(4, none)], false, false,
  (.seq (.reg [] false [⟨0, (some 4), (.mv (.c (.bool false))), none⟩]) (.seq (.reg [(1, true), (0, false)] true [⟨0, (some 5), (.load false 1 (.t 1)), none⟩,
  ⟨1, (some 6), (.mv (.t 0)), none⟩, ⟨3, (some 8), (.load false 1 (.t 2)), none⟩, ⟨2, (some 7), (.callf false (.c (.fn (.func 57) [] [])) [(.t 5), (.t 6)]
  [3]), none⟩, ⟨4, (some 9), (.bin .eql (.t 7) (.t 8)), none⟩, ⟨5, (some 4), (.mv (.t 9)), none⟩]) .ret))⟩
theorem is71 : FnIs prog 71 x71.fn := ⟨fun vs w => call71 vs w, _, _, func71, rfl, rfl, by kernel_rfl, by kernel_rfl⟩
theorem ok71 : okX x71.body = true := by kernel_rfl
theorem st71 : sitesP x71 x71.body := (sitesP_of rfl)

/-- (zafra/bulk.Plant).found$2 -/
def x72 : XFn := ⟨10, [(4, none)], false, false,
  (.seq (.reg [] false [⟨0, (some 4), (.mv (.c (.bool false))), none⟩]) (.seq (.reg [(1, true), (0, false)] true [⟨0, (some 5), (.load false 1 (.t 1)), none⟩,
  ⟨1, (some 6), (.mv (.t 0)), none⟩, ⟨3, (some 8), (.load false 1 (.t 2)), none⟩, ⟨2, (some 7), (.callf false (.c (.fn (.func 57) [] [])) [(.t 5), (.t 6)]
  [3]), none⟩, ⟨4, (some 9), (.bin .eql (.t 7) (.t 8)), none⟩, ⟨5, (some 4), (.mv (.t 9)), none⟩]) .ret))⟩
theorem is72 : FnIs prog 72 x72.fn := ⟨fun vs w => call72 vs w, _, _, func72, rfl, rfl, by kernel_rfl, by kernel_rfl⟩
theorem ok72 : okX x72.body = true := by kernel_rfl
theorem st72 : sitesP x72 x72.body := (sitesP_of rfl)

/-- slices.IndexFunc of  of zafra/bulk.Flow,zafra/bulk.Flow -/
def x73 : XFn := ⟨19, [(4, none)], false, false,
  (.seq (.reg [] false [⟨0, (some 4), (.mv (.c (.int .i64 0))), none⟩]) (.seq (.seq (.reg [] false [⟨0, (some 6), (.mv (.t 0)), none⟩, ⟨0, (some 7), (.len false
  (.t 6)), none⟩, ⟨0, (some 8), (.mv (.c (.int .i64 0))), none⟩]) (.block 0 (.loop [0, 1, 7, 8] (.seq (.reg [] false [⟨0, (some 9), (.bin .lss (.t 8) (.t 7)),
  none⟩]) (.seq (.cond (.t 9) .skip (.exit 0)) (.seq (.block 1 (.seq (.reg [] false [⟨0, (some 10), (.mv (.t 8)), none⟩, ⟨0, (some 5), (.mv (.t 10)), none⟩])
  (.seq (.reg [] false [⟨0, (some 11), (.mv (.t 1)), none⟩, ⟨0, (some 12), (.mv (.t 0)), none⟩, ⟨0, (some 13), (.mv (.t 5)), none⟩, ⟨0, (some 14), (.idx 7 (.t
  12) (.t 13)), none⟩, ⟨0, (some 15), (.load true 7 (.t 14)), none⟩, ⟨0, (some 16), (.callf false (.t 11) [(.t 15)] []), none⟩]) (.cond (.t 16) (.seq (.reg []
  false [⟨0, (some 17), (.mv (.t 5)), none⟩, ⟨0, (some 4), (.mv (.t 17)), none⟩]) .ret) .skip)))) (.reg [] false [⟨0, (some 18), (.bin .add (.t 8) (.c (.int
  .i64 1))), none⟩, ⟨0, (some 8), (.mv (.t 18)), none⟩]))))))) (.seq (.reg [] false [⟨0, (some 4), (.mv (.c (.int .i64 (-1)))), none⟩]) .ret)))⟩
theorem is73 : FnIs prog 73 x73.fn := ⟨fun vs w => call73 vs w, _, _, func73, rfl, rfl, by kernel_rfl, by kernel_rfl⟩
theorem ok73 : okX x73.body = true := by kernel_rfl
theorem st73 : sitesP x73 x73.body := (sitesP_of rfl)

end Go.Proofs.Ytdbikamciedfdaa
