/- The functions of the program as they are read, with remarks, part 1. No statement of the seed is proved here. -/
import Derived.KernelRfl
import Derived.Test.YtdbikamciedfdaaXE
import Derived.Test.YtdbikamciedfdaaProg
set_option maxRecDepth 100000
namespace Go.Proofs.Ytdbikamciedfdaa
open Go Go.DL Go.Proofs.Try

/-- zafra/bulk.Parts -/
def x13 : XFn := ⟨36, [(2, none), (3, none)], false, false,
  (.seq (.reg [] false [⟨0, (some 1), (.box (.t 0)), none⟩, ⟨0, (some 2), (.mv (.c .nilsl)), none⟩, ⟨0, (some 3), (.mv (.c (.int .i64 0))), none⟩]) (.seq (.seq
  (.reg [(1, true)] false [⟨0, (some 10), (.load true 2 (.t 1)), none⟩, ⟨0, (some 11), (.callf false (.c (.fn (.func 20) [] [])) [(.t 10)] []), none⟩, ⟨0,
  (some 4), (.mv (.t 11)), none⟩]) (.seq (.reg [] false [⟨0, (some 12), (.mv (.t 4)), none⟩, ⟨0, (some 13), (.bin .neq (.t 12) (.c (.int .i64 0))), none⟩])
  (.cond (.t 13) (.seq (.reg [] false [⟨0, (some 14), (.mv (.t 4)), none⟩, ⟨0, (some 2), (.mv (.c .nilsl)), none⟩, ⟨0, (some 3), (.mv (.t 14)), none⟩]) .ret)
  .skip))) (.seq (.reg [] false [⟨0, (some 15), (.bslice 1 1 [(.int .i64 0)] [(0, (1, (.c (.int .i64 (-1)))))]), none⟩, ⟨0, (some 16), (.fld 0 (.t 1)), none⟩,
  ⟨0, (some 17), (.load false 1 (.t 16)), none⟩, ⟨0, (some 18), (.callf false (.c (.fn (.func 35) [] [])) [(.t 15), (.t 17)] []), none⟩, ⟨0, (some 5), (.alloc
  [.nilsl]), none⟩, ⟨0, none, (.store 1 (.t 5) (.t 18) []), none⟩]) (.seq (.reg [] false [⟨0, (some 6), (.alloc [(.int .i64 0)]), none⟩, ⟨0, none, (.store 1
  (.t 6) (.c (.int .i64 0)) []), none⟩]) (.seq (.seq (.reg [(1, true)] false [⟨0, (some 19), (.load true 2 (.t 1)), none⟩, ⟨0, (some 20), (.callf false (.c
  (.fn (.func 36) [] [])) [(.t 19)] []), none⟩]) (.block 0 (.rng 0 [5, 6] (.t 20) [21] (.reg [] false [⟨0, (some 7), (.mv (.t 21)), none⟩]) (.block 1 (.seq
  (.seq (.reg [] false [⟨0, (some 22), (.mv (.t 7)), none⟩, ⟨0, (some 23), (.len false (.t 22)), none⟩, ⟨0, (some 24), (.mv (.c (.int .i64 0))), none⟩])
  (.block 2 (.loop [5, 6, 22, 23, 24] (.seq (.reg [] false [⟨0, (some 25), (.bin .lss (.t 24) (.t 23)), none⟩]) (.seq (.cond (.t 25) .skip (.exit 2)) (.seq
  (.block 3 (.seq (.reg [] false [⟨0, (some 26), (.idx 1 (.t 22) (.t 24)), none⟩, ⟨0, (some 27), (.load false 1 (.t 26)), none⟩, ⟨0, (some 9), (.mv (.t 27)),
  none⟩]) (.reg [] false [⟨0, (some 28), (.load false 1 (.t 5)), none⟩, ⟨0, (some 29), (.mv (.t 9)), none⟩, ⟨0, (some 30), (.load false 1 (.t 6)), none⟩, ⟨0,
  (some 31), (.idx 1 (.t 28) (.t 29)), none⟩, ⟨0, none, (.store 1 (.t 31) (.t 30) []), none⟩]))) (.reg [] false [⟨0, (some 32), (.bin .add (.t 24) (.c (.int
  .i64 1))), none⟩, ⟨0, (some 24), (.mv (.t 32)), none⟩]))))))) (.reg [] false [⟨0, (some 33), (.load false 1 (.t 6)), none⟩, ⟨0, (some 34), (.bin .add (.t
  33) (.c (.int .i64 1))), none⟩, ⟨0, none, (.store 1 (.t 6) (.t 34) []), none⟩])))))) (.seq (.reg [] false [⟨0, (some 35), (.load false 1 (.t 5)), none⟩, ⟨0,
  (some 2), (.mv (.t 35)), none⟩, ⟨0, (some 3), (.mv (.c (.int .i64 0))), none⟩]) .ret))))))⟩
theorem is13 : FnIs prog 13 x13.fn := ⟨fun vs w => call13 vs w, _, _, func13, rfl, rfl, by kernel_rfl, by kernel_rfl⟩
theorem ok13 : okX x13.body = true := by kernel_rfl
theorem st13 : sitesP x13 x13.body := ⟨(sitesP_of rfl), ⟨(sitesP_of rfl), ⟨(sitesP_of rfl), ⟨(sitesP_of rfl), ⟨⟨(sitesP_of rfl), ⟨by kernel_rfl, (sitesP_of rfl), (sitesP_of rfl)⟩⟩, (sitesP_of rfl)⟩⟩⟩⟩⟩

/-- zafra/zafraref01.Parts -/
def x14 : XFn := ⟨60, [(2, none), (3, none)], false, false,
  (.seq (.reg [] false [⟨0, (some 1), (.box (.t 0)), none⟩, ⟨0, (some 2), (.mv (.c .nilsl)), none⟩, ⟨0, (some 3), (.mv (.c (.int .i64 0))), none⟩]) (.seq (.reg
  [(1, true)] false [⟨0, (some 9), (.load true 2 (.t 1)), none⟩, ⟨0, (some 10), (.callf false (.c (.fn (.func 21) [] [])) [(.t 9)] []), none⟩, ⟨0, (some 4),
  (.mv (.t 10)), none⟩]) (.seq (.seq (.reg [] false [⟨0, (some 11), (.mv (.t 4)), none⟩, ⟨0, (some 12), (.bin .neq (.t 11) (.c (.int .i64 0))), none⟩]) (.cond
  (.t 12) (.seq (.reg [] false [⟨0, (some 13), (.mv (.t 4)), none⟩, ⟨0, (some 2), (.mv (.c .nilsl)), none⟩, ⟨0, (some 3), (.mv (.t 13)), none⟩]) .ret) .skip))
  (.seq (.reg [(1, true)] false [⟨0, (some 14), (.load true 2 (.t 1)), none⟩, ⟨0, (some 15), (.callf false (.c (.fn (.func 37) [] [])) [(.t 14), (.c (.int
  .i64 (-1)))] []), none⟩, ⟨0, (some 5), (.mv (.t 15)), none⟩]) (.seq (.reg [] false [⟨0, (some 6), (.mv (.c .nilsl)), none⟩]) (.seq (.reg [] false [⟨0, (some
  7), (.mv (.c (.int .i64 0))), none⟩]) (.seq (.seq (.reg [] false [⟨0, (some 8), (.mv (.c (.int .i64 0))), none⟩]) (.block 0 (.loop [1, 5, 6, 7, 8] (.seq
  (.seq (.reg [] false [⟨0, (some 16), (.mv (.t 8)), none⟩, ⟨0, (some 17), (.fld 0 (.t 1)), none⟩, ⟨0, (some 18), (.load false 1 (.t 17)), none⟩, ⟨0, (some
  19), (.bin .lss (.t 16) (.t 18)), none⟩]) (.cond (.t 19) .skip (.exit 0))) (.seq (.block 1 (.block 2 (.seq (.reg [] false [⟨0, (some 35), (.mv (.t 5)),
  none⟩, ⟨0, (some 36), (.mv (.t 8)), none⟩, ⟨0, (some 37), (.bin .add (.t 36) (.c (.int .i64 1))), none⟩, ⟨0, (some 38), (.idx 1 (.t 35) (.t 37)), none⟩, ⟨0,
  (some 39), (.load false 1 (.t 38)), none⟩, ⟨0, (some 40), (.bin .eql (.t 39) (.c (.int .i64 0))), none⟩, ⟨0, (some 34), (.mv (.t 40)), none⟩]) (.cond (.t
  34) (.reg [] false [⟨0, (some 41), (.mv (.t 6)), none⟩, ⟨0, (some 42), (.bslice 1 1 [(.int .i64 0)] [(0, (1, (.c (.int .i64 (-1)))))]), none⟩, ⟨0, (some
  43), (.app 1 8 (.t 41) (.t 42)), none⟩, ⟨0, (some 6), (.mv (.t 43)), none⟩]) (.seq (.reg [] false [⟨0, (some 45), (.mv (.t 5)), none⟩, ⟨0, (some 46), (.mv
  (.t 8)), none⟩, ⟨0, (some 47), (.bin .add (.t 46) (.c (.int .i64 1))), none⟩, ⟨0, (some 48), (.idx 1 (.t 45) (.t 47)), none⟩, ⟨0, (some 49), (.load false 1
  (.t 48)), none⟩, ⟨0, (some 50), (.mv (.t 8)), none⟩, ⟨0, (some 51), (.bin .add (.t 50) (.c (.int .i64 1))), none⟩, ⟨0, (some 52), (.bin .eql (.t 49) (.t
  51)), none⟩, ⟨0, (some 44), (.mv (.t 52)), none⟩]) (.cond (.t 44) (.seq (.reg [] false [⟨0, (some 53), (.mv (.t 6)), none⟩, ⟨0, (some 54), (.mv (.t 7)),
  none⟩, ⟨0, (some 55), (.bslice 1 1 [(.int .i64 0)] [(0, (1, (.t 54)))]), none⟩, ⟨0, (some 56), (.app 1 8 (.t 53) (.t 55)), none⟩, ⟨0, (some 6), (.mv (.t
  56)), none⟩]) (.reg [] false [⟨0, (some 57), (.mv (.t 7)), none⟩, ⟨0, (some 58), (.bin .add (.t 57) (.c (.int .i64 1))), none⟩, ⟨0, (some 7), (.mv (.t 58)),
  none⟩])) (.reg [] false [⟨0, (some 22), (.mv (.t 6)), none⟩, ⟨0, (some 23), (.mv (.t 6)), none⟩, ⟨0, (some 24), (.mv (.t 5)), none⟩, ⟨0, (some 25), (.mv (.t
  8)), none⟩, ⟨0, (some 26), (.bin .add (.t 25) (.c (.int .i64 1))), none⟩, ⟨0, (some 27), (.idx 1 (.t 24) (.t 26)), none⟩, ⟨0, (some 28), (.load false 1 (.t
  27)), none⟩, ⟨0, (some 29), (.bin .sub (.t 28) (.c (.int .i64 1))), none⟩, ⟨0, (some 30), (.idx 1 (.t 23) (.t 29)), none⟩, ⟨0, (some 31), (.load false 1 (.t
  30)), none⟩, ⟨0, (some 32), (.bslice 1 1 [(.int .i64 0)] [(0, (1, (.t 31)))]), none⟩, ⟨0, (some 33), (.app 1 8 (.t 22) (.t 32)), none⟩, ⟨0, (some 6), (.mv
  (.t 33)), none⟩]))))))) (.reg [] false [⟨0, (some 20), (.mv (.t 8)), none⟩, ⟨0, (some 21), (.bin .add (.t 20) (.c (.int .i64 1))), none⟩, ⟨0, (some 8), (.mv
  (.t 21)), none⟩])))))) (.seq (.reg [] false [⟨0, (some 59), (.mv (.t 6)), none⟩, ⟨0, (some 2), (.mv (.t 59)), none⟩, ⟨0, (some 3), (.mv (.c (.int .i64 0))),
  none⟩]) .ret))))))))⟩
theorem is14 : FnIs prog 14 x14.fn := ⟨fun vs w => call14 vs w, _, _, func14, rfl, rfl, by kernel_rfl, by kernel_rfl⟩
theorem ok14 : okX x14.body = true := by kernel_rfl
theorem st14 : sitesP x14 x14.body := (sitesP_of rfl)

/-- zafra/zafralaw01.given -/
def x15 : XFn := ⟨36, [(2, (some (true, 2)))], false, false,
  (.seq (.reg [] false [⟨0, (some 1), (.box (.t 0)), none⟩, ⟨0, (some 2), (.alloc [(.int .i64 0), .nilsl]), none⟩]) (.seq (.reg [] false [⟨0, (some 6), (.fld 0
  (.t 1)), none⟩, ⟨0, (some 7), (.load false 1 (.t 6)), none⟩, ⟨0, (some 8), (.build [(.int .i64 0), .nilsl] [(0, (1, (.t 7)))]), none⟩, ⟨0, (some 3), (.alloc
  [(.int .i64 0), .nilsl]), none⟩, ⟨0, none, (.store 2 (.t 3) (.t 8) []), none⟩]) (.seq (.seq (.reg [] false [⟨0, (some 4), (.mv (.c (.int .i64 0))), none⟩])
  (.block 0 (.loop [1, 2, 3, 4] (.seq (.seq (.reg [] false [⟨0, (some 9), (.mv (.t 4)), none⟩, ⟨0, (some 10), (.fld 1 (.t 1)), none⟩, ⟨0, (some 11), (.load
  false 1 (.t 10)), none⟩, ⟨0, (some 12), (.len false (.t 11)), none⟩, ⟨0, (some 13), (.bin .lss (.t 9) (.t 12)), none⟩]) (.cond (.t 13) .skip (.exit 0)))
  (.seq (.block 1 (.seq (.reg [] false [⟨0, (some 16), (.fld 1 (.t 1)), none⟩, ⟨0, (some 17), (.load false 1 (.t 16)), none⟩, ⟨0, (some 18), (.mv (.t 4)),
  none⟩, ⟨0, (some 19), (.idx 7 (.t 17) (.t 18)), none⟩, ⟨0, (some 20), (.load true 7 (.t 19)), none⟩, ⟨0, (some 5), (.alloc [(.int .i64 0), (.int .i64 0),
  (.bool false), (.int .i64 0), (.int .i64 0), (.int .i64 0), (.int .i64 0)]), none⟩, ⟨0, none, (.store 7 (.t 5) (.t 20) []), none⟩]) (.reg [] false [⟨0,
  (some 21), (.fld 1 (.t 3)), none⟩, ⟨0, (some 22), (.load false 1 (.t 21)), none⟩, ⟨0, (some 23), (.fld 0 (.t 5)), none⟩, ⟨0, (some 24), (.load false 1 (.t
  23)), none⟩, ⟨0, (some 25), (.fld 1 (.t 5)), none⟩, ⟨0, (some 26), (.load false 1 (.t 25)), none⟩, ⟨0, (some 27), (.fld 2 (.t 5)), none⟩, ⟨0, (some 28),
  (.load false 1 (.t 27)), none⟩, ⟨0, (some 29), (.fld 3 (.t 5)), none⟩, ⟨0, (some 30), (.load true 4 (.t 29)), none⟩, ⟨0, (some 31), (.build [(.int .i64 0),
  (.int .i64 0), (.bool false), (.int .i64 0), (.int .i64 0), (.int .i64 0), (.int .i64 0)] [(0, (1, (.t 24))), (1, (1, (.t 26))), (2, (1, (.t 28))), (3, (4,
  (.t 30)))]), none⟩, ⟨0, (some 32), (.bslice 7 1 [(.int .i64 0), (.int .i64 0), (.bool false), (.int .i64 0), (.int .i64 0), (.int .i64 0), (.int .i64 0)]
  [(0, (7, (.t 31)))]), none⟩, ⟨0, (some 33), (.app 7 56 (.t 22) (.t 32)), none⟩, ⟨0, (some 34), (.fld 1 (.t 3)), none⟩, ⟨0, none, (.store 1 (.t 34) (.t 33)
  []), none⟩]))) (.reg [] false [⟨0, (some 14), (.mv (.t 4)), none⟩, ⟨0, (some 15), (.bin .add (.t 14) (.c (.int .i64 1))), none⟩, ⟨0, (some 4), (.mv (.t
  15)), none⟩])))))) (.seq (.reg [] false [⟨0, (some 35), (.load true 2 (.t 3)), none⟩, ⟨0, none, (.store 2 (.t 2) (.t 35) []), none⟩]) .ret))))⟩
theorem is15 : FnIs prog 15 x15.fn := ⟨fun vs w => call15 vs w, _, _, func15, rfl, rfl, by kernel_rfl, by kernel_rfl⟩
theorem ok15 : okX x15.body = true := by kernel_rfl
theorem st15 : sitesP x15 x15.body := (sitesP_of rfl)

/-- zafra/bulk.Excess -/
def x16 : XFn := ⟨21, [(4, (some (true, 4))), (5, none)], false, false,
  (.seq (.reg [] false [⟨0, (some 2), (.box (.t 0)), none⟩, ⟨0, (some 4), (.alloc [(.int .i64 0), (.int .i64 0), (.int .i64 0), (.int .i64 0)]), none⟩, ⟨0,
  (some 5), (.mv (.c (.int .i64 0))), none⟩]) (.seq (.reg [(2, true), (1, false)] false [⟨0, (some 9), (.load true 2 (.t 2)), none⟩, ⟨0, (some 10), (.mv (.t
  1)), none⟩, ⟨0, (some 11), (.callf false (.c (.fn (.func 38) [] [])) [(.t 9), (.t 10)] []), none⟩, ⟨0, (some 8), (.mv (.t 11)), none⟩, ⟨0, (some 12), (.ext
  (.t 8) 0), none⟩, ⟨0, (some 13), (.ext (.t 8) 1), none⟩, ⟨0, (some 6), (.mv (.t 12)), none⟩, ⟨0, (some 7), (.mv (.t 13)), none⟩]) (.seq (.seq (.reg [] false
  [⟨0, (some 14), (.mv (.t 7)), none⟩, ⟨0, (some 15), (.bin .neq (.t 14) (.c (.int .i64 0))), none⟩]) (.cond (.t 15) (.seq (.reg [] false [⟨0, (some 16),
  (.build [(.int .i64 0), (.int .i64 0), (.int .i64 0), (.int .i64 0)] []), none⟩, ⟨0, (some 17), (.mv (.t 7)), none⟩, ⟨0, none, (.store 4 (.t 4) (.t 16) []),
  none⟩, ⟨0, (some 5), (.mv (.t 17)), none⟩]) .ret) .skip)) (.seq (.reg [(2, true), (6, false)] false [⟨0, (some 18), (.load true 2 (.t 2)), none⟩, ⟨0, (some
  19), (.mv (.t 6)), none⟩, ⟨0, (some 20), (.callf false (.c (.fn (.func 39) [] [])) [(.t 18), (.c (.int .i64 (-1))), (.t 19)] []), none⟩, ⟨0, none, (.store 4
  (.t 4) (.t 20) []), none⟩, ⟨0, (some 5), (.mv (.c (.int .i64 0))), none⟩]) .ret))))⟩
theorem is16 : FnIs prog 16 x16.fn := ⟨fun vs w => call16 vs w, _, _, func16, rfl, rfl, by kernel_rfl, by kernel_rfl⟩
theorem ok16 : okX x16.body = true := by kernel_rfl
theorem st16 : sitesP x16 x16.body := (sitesP_of rfl)

/-- zafra/zafraref01.Excess -/
def x17 : XFn := ⟨21, [(4, (some (true, 4))), (5, none)], false, false,
  (.seq (.reg [] false [⟨0, (some 2), (.box (.t 0)), none⟩, ⟨0, (some 4), (.alloc [(.int .i64 0), (.int .i64 0), (.int .i64 0), (.int .i64 0)]), none⟩, ⟨0,
  (some 5), (.mv (.c (.int .i64 0))), none⟩]) (.seq (.reg [(2, true), (1, false)] false [⟨0, (some 9), (.load true 2 (.t 2)), none⟩, ⟨0, (some 10), (.mv (.t
  1)), none⟩, ⟨0, (some 11), (.callf false (.c (.fn (.func 40) [] [])) [(.t 9), (.t 10)] []), none⟩, ⟨0, (some 8), (.mv (.t 11)), none⟩, ⟨0, (some 12), (.ext
  (.t 8) 0), none⟩, ⟨0, (some 13), (.ext (.t 8) 1), none⟩, ⟨0, (some 6), (.mv (.t 12)), none⟩, ⟨0, (some 7), (.mv (.t 13)), none⟩]) (.seq (.seq (.reg [] false
  [⟨0, (some 14), (.mv (.t 7)), none⟩, ⟨0, (some 15), (.bin .neq (.t 14) (.c (.int .i64 0))), none⟩]) (.cond (.t 15) (.seq (.reg [] false [⟨0, (some 16),
  (.build [(.int .i64 0), (.int .i64 0), (.int .i64 0), (.int .i64 0)] []), none⟩, ⟨0, (some 17), (.mv (.t 7)), none⟩, ⟨0, none, (.store 4 (.t 4) (.t 16) []),
  none⟩, ⟨0, (some 5), (.mv (.t 17)), none⟩]) .ret) .skip)) (.seq (.reg [(2, true), (6, false)] false [⟨0, (some 18), (.load true 2 (.t 2)), none⟩, ⟨0, (some
  19), (.mv (.t 6)), none⟩, ⟨0, (some 20), (.callf false (.c (.fn (.func 41) [] [])) [(.t 18), (.t 19)] []), none⟩, ⟨0, none, (.store 4 (.t 4) (.t 20) []),
  none⟩, ⟨0, (some 5), (.mv (.c (.int .i64 0))), none⟩]) .ret))))⟩
theorem is17 : FnIs prog 17 x17.fn := ⟨fun vs w => call17 vs w, _, _, func17, rfl, rfl, by kernel_rfl, by kernel_rfl⟩
theorem ok17 : okX x17.body = true := by kernel_rfl
theorem st17 : sitesP x17 x17.body := (sitesP_of rfl)

/-- zafra/bulk.Name -/
def x18 : XFn := ⟨40, [(2, none)], false, false,
  (.seq (.reg [] false [⟨0, (some 2), (.mv (.c (.bool false))), none⟩]) (.seq (.seq (.reg [] false [⟨0, (some 5), (.mv (.t 0)), none⟩, ⟨0, (some 6), (.bytes (.t
  5)), none⟩, ⟨0, (some 7), (.len false (.t 6)), none⟩, ⟨0, (some 8), (.mv (.c (.int .i64 0))), none⟩]) (.block 0 (.loop [0, 6, 7, 8] (.seq (.reg [] false
  [⟨0, (some 9), (.bin .lss (.t 8) (.t 7)), none⟩]) (.seq (.cond (.t 9) .skip (.exit 0)) (.seq (.block 1 (.seq (.reg [] false [⟨0, (some 10), (.mv (.t 8)),
  none⟩, ⟨0, (some 11), (.idx 1 (.t 6) (.t 8)), none⟩, ⟨0, (some 12), (.load false 1 (.t 11)), none⟩, ⟨0, (some 3), (.mv (.t 10)), none⟩, ⟨0, (some 4), (.mv
  (.t 12)), none⟩]) (.seq (.reg [] false [⟨0, (some 13), (.mv (.t 4)), none⟩, ⟨0, (some 14), (.bin .lss (.t 13) (.c (.int .u8 97))), none⟩, ⟨0, (some 15),
  (.mv (.t 14)), none⟩, ⟨0, (some 16), (.mv (.t 4)), (some (15, false))⟩, ⟨0, (some 17), (.bin .gtr (.t 16) (.c (.int .u8 122))), (some (15, false))⟩, ⟨0,
  (some 18), (.pick (.t 15) (.c (.bool true)) (.t 17)), none⟩, ⟨0, (some 19), (.mv (.t 18)), none⟩, ⟨0, (some 20), (.mv (.t 3)), (some (19, true))⟩, ⟨0, (some
  21), (.bin .eql (.t 20) (.c (.int .i64 0))), (some (19, true))⟩, ⟨0, (some 22), (.mv (.t 21)), (some (19, true))⟩, ⟨0, (some 23), (.mv (.t 4)), (some (22,
  false))⟩, ⟨0, (some 24), (.bin .lss (.t 23) (.c (.int .u8 48))), (some (22, false))⟩, ⟨0, (some 25), (.pick (.t 22) (.c (.bool true)) (.t 24)), (some (19,
  true))⟩, ⟨0, (some 26), (.mv (.t 25)), (some (19, true))⟩, ⟨0, (some 27), (.mv (.t 4)), (some (26, false))⟩, ⟨0, (some 28), (.bin .gtr (.t 27) (.c (.int .u8
  57))), (some (26, false))⟩, ⟨0, (some 29), (.pick (.t 26) (.c (.bool true)) (.t 28)), (some (19, true))⟩, ⟨0, (some 30), (.pick (.t 19) (.t 29) (.c (.bool
  false))), none⟩]) (.cond (.t 30) (.seq (.reg [] false [⟨0, (some 2), (.mv (.c (.bool false))), none⟩]) .ret) .skip)))) (.reg [] false [⟨0, (some 31), (.bin
  .add (.t 8) (.c (.int .i64 1))), none⟩, ⟨0, (some 8), (.mv (.t 31)), none⟩]))))))) (.seq (.reg [] false [⟨0, (some 32), (.mv (.t 0)), none⟩, ⟨0, (some 33),
  (.len true (.t 32)), none⟩, ⟨0, (some 34), (.bin .gtr (.t 33) (.c (.int .i64 0))), none⟩, ⟨0, (some 35), (.mv (.t 34)), none⟩, ⟨0, (some 36), (.mv (.t 0)),
  (some (35, true))⟩, ⟨0, (some 37), (.len true (.t 36)), (some (35, true))⟩, ⟨0, (some 38), (.bin .leq (.t 37) (.c (.int .i64 10))), (some (35, true))⟩, ⟨0,
  (some 39), (.pick (.t 35) (.t 38) (.c (.bool false))), none⟩, ⟨0, (some 2), (.mv (.t 39)), none⟩]) .ret)))⟩
theorem is18 : FnIs prog 18 x18.fn := ⟨fun vs w => call18 vs w, _, _, func18, rfl, rfl, by kernel_rfl, by kernel_rfl⟩
theorem ok18 : okX x18.body = true := by kernel_rfl
theorem st18 : sitesP x18 x18.body := (sitesP_of rfl)

/-- zafra/zafraref01.Name -/
def x19 : XFn := ⟨50, [(2, none)], false, false,
  (.seq (.reg [] false [⟨0, (some 2), (.mv (.c (.bool false))), none⟩]) (.seq (.seq (.reg [] false [⟨0, (some 6), (.mv (.t 0)), none⟩, ⟨0, (some 7), (.len true
  (.t 6)), none⟩, ⟨0, (some 8), (.bin .eql (.t 7) (.c (.int .i64 0))), none⟩, ⟨0, (some 9), (.mv (.t 8)), none⟩, ⟨0, (some 10), (.mv (.t 0)), (some (9,
  false))⟩, ⟨0, (some 11), (.len true (.t 10)), (some (9, false))⟩, ⟨0, (some 12), (.bin .gtr (.t 11) (.c (.int .i64 10))), (some (9, false))⟩, ⟨0, (some 13),
  (.pick (.t 9) (.c (.bool true)) (.t 12)), none⟩]) (.cond (.t 13) (.seq (.reg [] false [⟨0, (some 2), (.mv (.c (.bool false))), none⟩]) .ret) .skip)) (.seq
  (.seq (.reg [] false [⟨0, (some 3), (.mv (.c (.int .i64 0))), none⟩]) (.block 0 (.loop [0, 3] (.seq (.seq (.reg [] false [⟨0, (some 14), (.mv (.t 3)),
  none⟩, ⟨0, (some 15), (.mv (.t 0)), none⟩, ⟨0, (some 16), (.len true (.t 15)), none⟩, ⟨0, (some 17), (.bin .lss (.t 14) (.t 16)), none⟩]) (.cond (.t 17)
  .skip (.exit 0))) (.seq (.block 1 (.seq (.reg [] true [⟨0, (some 20), (.mv (.t 0)), none⟩, ⟨1, (some 21), (.mv (.t 3)), none⟩, ⟨2, (some 22), (.idxs (.t 20)
  (.t 21)), none⟩, ⟨3, (some 23), (.bin .geq (.t 22) (.c (.int .u8 97))), none⟩, ⟨4, (some 24), (.mv (.t 23)), none⟩, ⟨5, (some 25), (.mv (.t 0)), (some (24,
  true))⟩, ⟨6, (some 26), (.mv (.t 3)), (some (24, true))⟩, ⟨7, (some 27), (.idxs (.t 25) (.t 26)), (some (24, true))⟩, ⟨8, (some 28), (.bin .leq (.t 27) (.c
  (.int .u8 122))), (some (24, true))⟩, ⟨9, (some 29), (.pick (.t 24) (.t 28) (.c (.bool false))), none⟩, ⟨10, (some 30), (.mv (.t 0)), none⟩, ⟨11, (some 31),
  (.mv (.t 3)), none⟩, ⟨12, (some 32), (.idxs (.t 30) (.t 31)), none⟩, ⟨13, (some 33), (.bin .geq (.t 32) (.c (.int .u8 48))), none⟩, ⟨14, (some 34), (.mv (.t
  33)), none⟩, ⟨15, (some 35), (.mv (.t 0)), (some (34, true))⟩, ⟨16, (some 36), (.mv (.t 3)), (some (34, true))⟩, ⟨17, (some 37), (.idxs (.t 35) (.t 36)),
  (some (34, true))⟩, ⟨18, (some 38), (.bin .leq (.t 37) (.c (.int .u8 57))), (some (34, true))⟩, ⟨19, (some 39), (.pick (.t 34) (.t 38) (.c (.bool false))),
  none⟩, ⟨20, (some 4), (.mv (.t 29)), none⟩, ⟨21, (some 5), (.mv (.t 39)), none⟩]) (.seq (.reg [] false [⟨0, (some 40), (.mv (.t 4)), none⟩, ⟨0, (some 41),
  (.not (.t 40)), none⟩, ⟨0, (some 42), (.mv (.t 41)), none⟩, ⟨0, (some 43), (.mv (.t 5)), (some (42, true))⟩, ⟨0, (some 44), (.not (.t 43)), (some (42,
  true))⟩, ⟨0, (some 45), (.mv (.t 44)), (some (42, true))⟩, ⟨0, (some 46), (.mv (.t 3)), (some (45, false))⟩, ⟨0, (some 47), (.bin .eql (.t 46) (.c (.int
  .i64 0))), (some (45, false))⟩, ⟨0, (some 48), (.pick (.t 45) (.c (.bool true)) (.t 47)), (some (42, true))⟩, ⟨0, (some 49), (.pick (.t 42) (.t 48) (.c
  (.bool false))), none⟩]) (.cond (.t 49) (.seq (.reg [] false [⟨0, (some 2), (.mv (.c (.bool false))), none⟩]) .ret) .skip)))) (.reg [] false [⟨0, (some 18),
  (.mv (.t 3)), none⟩, ⟨0, (some 19), (.bin .add (.t 18) (.c (.int .i64 1))), none⟩, ⟨0, (some 3), (.mv (.t 19)), none⟩])))))) (.seq (.reg [] false [⟨0, (some
  2), (.mv (.c (.bool true))), none⟩]) .ret))))⟩
theorem is19 : FnIs prog 19 x19.fn := ⟨fun vs w => call19 vs w, _, _, func19, rfl, rfl, by kernel_rfl, by kernel_rfl⟩
theorem ok19 : okX x19.body = true := by kernel_rfl
theorem st19 : sitesP x19 x19.body := (sitesP_of rfl)

/-- zafra/bulk.Check -/
def x20 : XFn := ⟨18, [(2, none)], false, false,
  (.seq (.reg [] false [⟨0, (some 1), (.box (.t 0)), none⟩, ⟨0, (some 2), (.mv (.c (.int .i64 0))), none⟩]) (.seq (.block 0 (.seq (.reg [(1, true)] false [⟨0,
  (some 4), (.fld 0 (.t 1)), none⟩, ⟨0, (some 5), (.load false 1 (.t 4)), none⟩, ⟨0, (some 6), (.callf false (.c (.fn (.func 42) [] [])) [(.c (.int .i64 1)),
  (.t 5), (.c (.int .i64 8))] []), none⟩, ⟨0, (some 7), (.not (.t 6)), none⟩, ⟨0, (some 3), (.mv (.t 7)), none⟩]) (.cond (.t 3) (.seq (.reg [] false [⟨0,
  (some 2), (.mv (.c (.int .i64 2))), none⟩]) .ret) (.seq (.reg [] false [⟨0, (some 9), (.fld 1 (.t 1)), none⟩, ⟨0, (some 10), (.load false 1 (.t 9)), none⟩,
  ⟨0, (some 11), (.len false (.t 10)), none⟩, ⟨0, (some 12), (.bin .gtr (.t 11) (.c (.int .i64 20))), none⟩, ⟨0, (some 8), (.mv (.t 12)), none⟩]) (.cond (.t
  8) (.seq (.reg [] false [⟨0, (some 2), (.mv (.c (.int .i64 1))), none⟩]) .ret) .skip))))) (.seq (.reg [(1, true)] false [⟨0, (some 13), (.fld 1 (.t 1)),
  none⟩, ⟨0, (some 14), (.load false 1 (.t 13)), none⟩, ⟨0, (some 15), (.load true 2 (.t 1)), none⟩, ⟨0, (some 16), (.mkf (.func 44) [(.t 15)] []), none⟩, ⟨0,
  (some 17), (.callf false (.c (.fn (.func 43) [] [])) [(.t 14), (.t 16)] []), none⟩, ⟨0, (some 2), (.mv (.t 17)), none⟩]) .ret)))⟩
theorem is20 : FnIs prog 20 x20.fn := ⟨fun vs w => call20 vs w, _, _, func20, rfl, rfl, by kernel_rfl, by kernel_rfl⟩
theorem ok20 : okX x20.body = true := by kernel_rfl
theorem st20 : sitesP x20 x20.body := (sitesP_of rfl)

/-- zafra/zafraref01.Check -/
def x21 : XFn := ⟨54, [(2, none)], false, false,
  (.seq (.reg [] false [⟨0, (some 1), (.box (.t 0)), none⟩, ⟨0, (some 2), (.mv (.c (.int .i64 0))), none⟩]) (.seq (.seq (.reg [(1, true)] false [⟨0, (some 5),
  (.fld 0 (.t 1)), none⟩, ⟨0, (some 6), (.load false 1 (.t 5)), none⟩, ⟨0, (some 7), (.callf false (.c (.fn (.func 45) [] [])) [(.t 6), (.c (.int .i64 1)),
  (.c (.int .i64 8))] []), none⟩, ⟨0, (some 8), (.not (.t 7)), none⟩]) (.cond (.t 8) (.seq (.reg [] false [⟨0, (some 2), (.mv (.c (.int .i64 2))), none⟩])
  .ret) .skip)) (.seq (.seq (.reg [] false [⟨0, (some 9), (.fld 1 (.t 1)), none⟩, ⟨0, (some 10), (.load false 1 (.t 9)), none⟩, ⟨0, (some 11), (.len false (.t
  10)), none⟩, ⟨0, (some 12), (.bin .gtr (.t 11) (.c (.int .i64 20))), none⟩]) (.cond (.t 12) (.seq (.reg [] false [⟨0, (some 2), (.mv (.c (.int .i64 1))),
  none⟩]) .ret) .skip)) (.seq (.seq (.reg [] false [⟨0, (some 3), (.mv (.c (.int .i64 0))), none⟩]) (.block 0 (.loop [1, 3] (.seq (.seq (.reg [] false [⟨0,
  (some 13), (.mv (.t 3)), none⟩, ⟨0, (some 14), (.fld 1 (.t 1)), none⟩, ⟨0, (some 15), (.load false 1 (.t 14)), none⟩, ⟨0, (some 16), (.len false (.t 15)),
  none⟩, ⟨0, (some 17), (.bin .lss (.t 13) (.t 16)), none⟩]) (.cond (.t 17) .skip (.exit 0))) (.seq (.block 1 (.seq (.reg [] false [⟨0, (some 20), (.fld 1 (.t
  1)), none⟩, ⟨0, (some 21), (.load false 1 (.t 20)), none⟩, ⟨0, (some 22), (.mv (.t 3)), none⟩, ⟨0, (some 23), (.idx 7 (.t 21) (.t 22)), none⟩, ⟨0, (some
  24), (.load true 7 (.t 23)), none⟩, ⟨0, (some 4), (.alloc [(.int .i64 0), (.int .i64 0), (.bool false), (.int .i64 0), (.int .i64 0), (.int .i64 0), (.int
  .i64 0)]), none⟩, ⟨0, none, (.store 7 (.t 4) (.t 24) []), none⟩]) (.seq (.seq (.reg [(4, true)] false [⟨0, (some 25), (.fld 0 (.t 4)), none⟩, ⟨0, (some 26),
  (.load false 1 (.t 25)), none⟩, ⟨0, (some 27), (.fld 0 (.t 1)), none⟩, ⟨0, (some 28), (.load false 1 (.t 27)), none⟩, ⟨0, (some 29), (.bin .sub (.t 28) (.c
  (.int .i64 1))), none⟩, ⟨0, (some 30), (.callf false (.c (.fn (.func 45) [] [])) [(.t 26), (.c (.int .i64 (-1))), (.t 29)] []), none⟩, ⟨0, (some 31), (.not
  (.t 30)), none⟩, ⟨0, (some 32), (.mv (.t 31)), none⟩, ⟨0, (some 33), (.fld 1 (.t 4)), (some (32, false))⟩, ⟨0, (some 34), (.load false 1 (.t 33)), (some
  (32, false))⟩, ⟨0, (some 35), (.fld 0 (.t 1)), (some (32, false))⟩, ⟨0, (some 36), (.load false 1 (.t 35)), (some (32, false))⟩, ⟨0, (some 37), (.bin .sub
  (.t 36) (.c (.int .i64 1))), (some (32, false))⟩, ⟨0, (some 38), (.callf false (.c (.fn (.func 45) [] [])) [(.t 34), (.c (.int .i64 (-1))), (.t 37)] []),
  (some (32, false))⟩, ⟨0, (some 39), (.not (.t 38)), (some (32, false))⟩, ⟨0, (some 40), (.pick (.t 32) (.c (.bool true)) (.t 39)), none⟩]) (.cond (.t 40)
  (.seq (.reg [] false [⟨0, (some 2), (.mv (.c (.int .i64 17))), none⟩]) .ret) .skip)) (.seq (.seq (.reg [] false [⟨0, (some 41), (.fld 0 (.t 4)), none⟩, ⟨0,
  (some 42), (.load false 1 (.t 41)), none⟩, ⟨0, (some 43), (.fld 1 (.t 4)), none⟩, ⟨0, (some 44), (.load false 1 (.t 43)), none⟩, ⟨0, (some 45), (.bin .eql
  (.t 42) (.t 44)), none⟩]) (.cond (.t 45) (.seq (.reg [] false [⟨0, (some 2), (.mv (.c (.int .i64 22))), none⟩]) .ret) .skip)) (.seq (.reg [(4, true)] false
  [⟨0, (some 46), (.fld 2 (.t 4)), none⟩, ⟨0, (some 47), (.load false 1 (.t 46)), none⟩, ⟨0, (some 48), (.mv (.t 47)), none⟩, ⟨0, (some 49), (.fld 3 (.t 4)),
  (some (48, true))⟩, ⟨0, (some 50), (.load true 4 (.t 49)), (some (48, true))⟩, ⟨0, (some 51), (.callf false (.c (.fn (.func 46) [] [])) [(.t 50), (.c (.int
  .i64 0)), (.c (.int .i64 1000000000))] []), (some (48, true))⟩, ⟨0, (some 52), (.not (.t 51)), (some (48, true))⟩, ⟨0, (some 53), (.pick (.t 48) (.t 52) (.c
  (.bool false))), none⟩]) (.cond (.t 53) (.seq (.reg [] false [⟨0, (some 2), (.mv (.c (.int .i64 2))), none⟩]) .ret) .skip)))))) (.reg [] false [⟨0, (some
  18), (.mv (.t 3)), none⟩, ⟨0, (some 19), (.bin .add (.t 18) (.c (.int .i64 1))), none⟩, ⟨0, (some 3), (.mv (.t 19)), none⟩])))))) (.seq (.reg [] false [⟨0,
  (some 2), (.mv (.c (.int .i64 0))), none⟩]) .ret)))))⟩
theorem is21 : FnIs prog 21 x21.fn := ⟨fun vs w => call21 vs w, _, _, func21, rfl, rfl, by kernel_rfl, by kernel_rfl⟩
theorem ok21 : okX x21.body = true := by kernel_rfl
theorem st21 : sitesP x21 x21.body := (sitesP_of rfl)

/-- zafra/zafralaw01.numbers -/
def x22 : XFn := ⟨26, [(4, none)], false, false,
  (.seq (.reg [] false [⟨0, (some 4), (.mv (.c (.bool false))), none⟩]) (.seq (.seq (.reg [] false [⟨0, (some 6), (.mv (.t 0)), none⟩, ⟨0, (some 7), (.len false
  (.t 6)), none⟩, ⟨0, (some 8), (.mv (.t 1)), none⟩, ⟨0, (some 9), (.len false (.t 8)), none⟩, ⟨0, (some 10), (.bin .neq (.t 7) (.t 9)), none⟩]) (.cond (.t
  10) (.seq (.reg [] false [⟨0, (some 4), (.mv (.c (.bool false))), none⟩]) .ret) .skip)) (.seq (.seq (.reg [] false [⟨0, (some 5), (.mv (.c (.int .i64 0))),
  none⟩]) (.block 0 (.loop [0, 1, 5] (.seq (.seq (.reg [] false [⟨0, (some 11), (.mv (.t 5)), none⟩, ⟨0, (some 12), (.mv (.t 0)), none⟩, ⟨0, (some 13), (.len
  false (.t 12)), none⟩, ⟨0, (some 14), (.bin .lss (.t 11) (.t 13)), none⟩]) (.cond (.t 14) .skip (.exit 0))) (.seq (.block 1 (.seq (.reg [] true [⟨0, (some
  17), (.mv (.t 0)), none⟩, ⟨1, (some 18), (.mv (.t 5)), none⟩, ⟨2, (some 19), (.idx 1 (.t 17) (.t 18)), none⟩, ⟨3, (some 20), (.load false 1 (.t 19)), none⟩,
  ⟨4, (some 21), (.mv (.t 1)), none⟩, ⟨5, (some 22), (.mv (.t 5)), none⟩, ⟨6, (some 23), (.idx 1 (.t 21) (.t 22)), none⟩, ⟨7, (some 24), (.load false 1 (.t
  23)), none⟩, ⟨8, (some 25), (.bin .neq (.t 20) (.t 24)), none⟩]) (.cond (.t 25) (.seq (.reg [] false [⟨0, (some 4), (.mv (.c (.bool false))), none⟩]) .ret)
  .skip))) (.reg [] false [⟨0, (some 15), (.mv (.t 5)), none⟩, ⟨0, (some 16), (.bin .add (.t 15) (.c (.int .i64 1))), none⟩, ⟨0, (some 5), (.mv (.t 16)),
  none⟩])))))) (.seq (.reg [] false [⟨0, (some 4), (.mv (.c (.bool true))), none⟩]) .ret))))⟩
theorem is22 : FnIs prog 22 x22.fn := ⟨fun vs w => call22 vs w, _, _, func22, rfl, rfl, by kernel_rfl, by kernel_rfl⟩
theorem ok22 : okX x22.body = true := by kernel_rfl
theorem st22 : sitesP x22 x22.body := (sitesP_of rfl)

/-- zafra/bulk.Close -/
def x23 : XFn := ⟨56, [(2, none), (3, none)], false, false,
  (.seq (.reg [] false [⟨0, (some 1), (.box (.t 0)), none⟩, ⟨0, (some 2), (.mv (.c .nilsl)), none⟩, ⟨0, (some 3), (.mv (.c (.int .i64 0))), none⟩]) (.seq (.seq
  (.reg [(1, true)] false [⟨0, (some 14), (.load true 2 (.t 1)), none⟩, ⟨0, (some 15), (.callf false (.c (.fn (.func 20) [] [])) [(.t 14)] []), none⟩, ⟨0,
  (some 4), (.mv (.t 15)), none⟩]) (.seq (.reg [] false [⟨0, (some 16), (.mv (.t 4)), none⟩, ⟨0, (some 17), (.bin .neq (.t 16) (.c (.int .i64 0))), none⟩])
  (.cond (.t 17) (.seq (.reg [] false [⟨0, (some 18), (.mv (.t 4)), none⟩, ⟨0, (some 2), (.mv (.c .nilsl)), none⟩, ⟨0, (some 3), (.mv (.t 18)), none⟩]) .ret)
  .skip))) (.seq (.seq (.reg [(1, true)] false [⟨0, (some 20), (.load true 2 (.t 1)), none⟩, ⟨0, (some 21), (.callf false (.c (.fn (.func 47) [] [])) [(.t
  20)] []), none⟩, ⟨0, (some 19), (.mv (.t 21)), none⟩, ⟨0, (some 22), (.ext (.t 19) 0), none⟩, ⟨0, (some 23), (.ext (.t 19) 1), none⟩, ⟨0, (some 24), (.ext
  (.t 19) 2), none⟩, ⟨0, (some 5), (.mv (.t 22)), none⟩, ⟨0, (some 6), (.mv (.t 23)), none⟩, ⟨0, (some 7), (.mv (.t 24)), none⟩]) (.seq (.reg [] false [⟨0,
  (some 25), (.mv (.t 7)), none⟩]) (.cond (.t 25) (.seq (.reg [] false [⟨0, (some 2), (.mv (.c .nilsl)), none⟩, ⟨0, (some 3), (.mv (.c (.int .i64 12))),
  none⟩]) .ret) .skip))) (.seq (.reg [] false [⟨0, (some 8), (.mv (.c .nilsl)), none⟩]) (.seq (.seq (.reg [] false [⟨0, (some 26), (.fld 1 (.t 1)), none⟩, ⟨0,
  (some 27), (.load false 1 (.t 26)), none⟩, ⟨0, (some 28), (.len false (.t 27)), none⟩, ⟨0, (some 29), (.mv (.c (.int .i64 0))), none⟩]) (.block 0 (.loop [1,
  8, 27, 28, 29] (.seq (.reg [] false [⟨0, (some 30), (.bin .lss (.t 29) (.t 28)), none⟩]) (.seq (.cond (.t 30) .skip (.exit 0)) (.seq (.block 1 (.seq (.reg
  [] false [⟨0, (some 31), (.mv (.t 29)), none⟩, ⟨0, (some 32), (.idx 7 (.t 27) (.t 29)), none⟩, ⟨0, (some 33), (.load true 7 (.t 32)), none⟩, ⟨0, (some 10),
  (.alloc [(.int .i64 0), (.int .i64 0), (.bool false), (.int .i64 0), (.int .i64 0), (.int .i64 0), (.int .i64 0)]), none⟩, ⟨0, (some 9), (.mv (.t 31)),
  none⟩, ⟨0, none, (.store 7 (.t 10) (.t 33) []), none⟩]) (.seq (.reg [] false [⟨0, (some 34), (.fld 3 (.t 10)), none⟩, ⟨0, (some 35), (.load true 4 (.t 34)),
  none⟩, ⟨0, (some 36), (.build [(.int .i64 0), (.int .i64 0), (.int .i64 0), (.int .i64 0), (.int .i64 0)] [(0, (1, (.c (.int .i64 1)))), (1, (4, (.t
  35)))]), none⟩, ⟨0, (some 11), (.alloc [(.int .i64 0), (.int .i64 0), (.int .i64 0), (.int .i64 0), (.int .i64 0)]), none⟩, ⟨0, none, (.store 5 (.t 11) (.t
  36) []), none⟩]) (.seq (.seq (.reg [] false [⟨0, (some 37), (.fld 2 (.t 10)), none⟩, ⟨0, (some 38), (.load false 1 (.t 37)), none⟩, ⟨0, (some 39), (.not (.t
  38)), none⟩]) (.cond (.t 39) (.seq (.reg [] false [⟨0, (some 40), (.build [(.int .i64 0), (.int .i64 0), (.int .i64 0), (.int .i64 0), (.int .i64 0)] [(0,
  (1, (.c (.int .i64 3))))]), none⟩, ⟨0, none, (.store 5 (.t 11) (.t 40) []), none⟩]) (.seq (.reg [(1, true)] false [⟨0, (some 42), (.load true 2 (.t 1)),
  none⟩, ⟨0, (some 43), (.mv (.t 9)), none⟩, ⟨0, (some 44), (.callf false (.c (.fn (.func 48) [] [])) [(.t 42), (.t 43)] []), none⟩, ⟨0, (some 41), (.mv (.t
  44)), none⟩, ⟨0, (some 45), (.ext (.t 41) 0), none⟩, ⟨0, (some 46), (.ext (.t 41) 1), none⟩, ⟨0, (some 12), (.alloc [(.int .i64 0), (.int .i64 0), (.int
  .i64 0), (.int .i64 0)]), none⟩, ⟨0, none, (.store 4 (.t 12) (.t 45) []), none⟩, ⟨0, (some 13), (.mv (.t 46)), none⟩]) (.seq (.reg [] false [⟨0, (some 47),
  (.mv (.t 13)), none⟩]) (.cond (.t 47) (.reg [] false [⟨0, (some 48), (.load true 4 (.t 12)), none⟩, ⟨0, (some 49), (.build [(.int .i64 0), (.int .i64 0),
  (.int .i64 0), (.int .i64 0), (.int .i64 0)] [(0, (1, (.c (.int .i64 2)))), (1, (4, (.t 48)))]), none⟩, ⟨0, none, (.store 5 (.t 11) (.t 49) []), none⟩])
  .skip)))) .skip)) (.reg [(11, true)] false [⟨0, (some 50), (.mv (.t 8)), none⟩, ⟨0, (some 51), (.load true 5 (.t 11)), none⟩, ⟨0, (some 52), (.bslice 5 1
  [(.int .i64 0), (.int .i64 0), (.int .i64 0), (.int .i64 0), (.int .i64 0)] [(0, (5, (.t 51)))]), none⟩, ⟨0, (some 53), (.app 5 40 (.t 50) (.t 52)), none⟩,
  ⟨0, (some 8), (.mv (.t 53)), none⟩]))))) (.reg [] false [⟨0, (some 54), (.bin .add (.t 29) (.c (.int .i64 1))), none⟩, ⟨0, (some 29), (.mv (.t 54)),
  none⟩]))))))) (.seq (.reg [] false [⟨0, (some 55), (.mv (.t 8)), none⟩, ⟨0, (some 2), (.mv (.t 55)), none⟩, ⟨0, (some 3), (.mv (.c (.int .i64 0))), none⟩])
  .ret))))))⟩
theorem is23 : FnIs prog 23 x23.fn := ⟨fun vs w => call23 vs w, _, _, func23, rfl, rfl, by kernel_rfl, by kernel_rfl⟩
theorem ok23 : okX x23.body = true := by kernel_rfl
theorem st23 : sitesP x23 x23.body := (sitesP_of rfl)

/-- zafra/zafraref01.Close -/
def x24 : XFn := ⟨93, [(2, none), (3, none)], false, false,
  (.seq (.reg [] false [⟨0, (some 1), (.box (.t 0)), none⟩, ⟨0, (some 2), (.mv (.c .nilsl)), none⟩, ⟨0, (some 3), (.mv (.c (.int .i64 0))), none⟩]) (.seq (.reg
  [(1, true)] false [⟨0, (some 13), (.load true 2 (.t 1)), none⟩, ⟨0, (some 14), (.callf false (.c (.fn (.func 21) [] [])) [(.t 13)] []), none⟩, ⟨0, (some 4),
  (.mv (.t 14)), none⟩]) (.seq (.seq (.reg [] false [⟨0, (some 15), (.mv (.t 4)), none⟩, ⟨0, (some 16), (.bin .neq (.t 15) (.c (.int .i64 0))), none⟩]) (.cond
  (.t 16) (.seq (.reg [] false [⟨0, (some 17), (.mv (.t 4)), none⟩, ⟨0, (some 2), (.mv (.c .nilsl)), none⟩, ⟨0, (some 3), (.mv (.t 17)), none⟩]) .ret) .skip))
  (.seq (.reg [(1, true)] false [⟨0, (some 19), (.load true 2 (.t 1)), none⟩, ⟨0, (some 20), (.callf false (.c (.fn (.func 49) [] [])) [(.t 19)] []), none⟩,
  ⟨0, (some 18), (.mv (.t 20)), none⟩, ⟨0, (some 21), (.ext (.t 18) 0), none⟩, ⟨0, (some 22), (.ext (.t 18) 1), none⟩, ⟨0, (some 5), (.mv (.t 21)), none⟩, ⟨0,
  (some 6), (.mv (.t 22)), none⟩]) (.seq (.seq (.reg [] false [⟨0, (some 23), (.mv (.t 5)), none⟩, ⟨0, (some 24), (.len false (.t 23)), none⟩, ⟨0, (some 25),
  (.bin .gtr (.t 24) (.c (.int .i64 0))), none⟩]) (.cond (.t 25) (.seq (.reg [] false [⟨0, (some 2), (.mv (.c .nilsl)), none⟩, ⟨0, (some 3), (.mv (.c (.int
  .i64 12))), none⟩]) .ret) .skip)) (.seq (.reg [] false [⟨0, (some 7), (.mv (.c .nilsl)), none⟩]) (.seq (.seq (.reg [] false [⟨0, (some 8), (.mv (.c (.int
  .i64 0))), none⟩]) (.block 0 (.loop [1, 7, 8] (.seq (.seq (.reg [] false [⟨0, (some 26), (.mv (.t 8)), none⟩, ⟨0, (some 27), (.fld 1 (.t 1)), none⟩, ⟨0,
  (some 28), (.load false 1 (.t 27)), none⟩, ⟨0, (some 29), (.len false (.t 28)), none⟩, ⟨0, (some 30), (.bin .lss (.t 26) (.t 29)), none⟩]) (.cond (.t 30)
  .skip (.exit 0))) (.seq (.block 1 (.seq (.reg [] false [⟨0, (some 33), (.fld 1 (.t 1)), none⟩, ⟨0, (some 34), (.load false 1 (.t 33)), none⟩, ⟨0, (some 35),
  (.mv (.t 8)), none⟩, ⟨0, (some 36), (.idx 7 (.t 34) (.t 35)), none⟩, ⟨0, (some 37), (.load true 7 (.t 36)), none⟩, ⟨0, (some 9), (.alloc [(.int .i64 0),
  (.int .i64 0), (.bool false), (.int .i64 0), (.int .i64 0), (.int .i64 0), (.int .i64 0)]), none⟩, ⟨0, none, (.store 7 (.t 9) (.t 37) []), none⟩]) (.seq
  (.seq (.reg [] false [⟨0, (some 38), (.fld 2 (.t 9)), none⟩, ⟨0, (some 39), (.load false 1 (.t 38)), none⟩]) (.cond (.t 39) (.seq (.reg [] false [⟨0, (some
  40), (.mv (.t 7)), none⟩, ⟨0, (some 41), (.fld 3 (.t 9)), none⟩, ⟨0, (some 42), (.load true 4 (.t 41)), none⟩, ⟨0, (some 43), (.build [(.int .i64 0), (.int
  .i64 0), (.int .i64 0), (.int .i64 0), (.int .i64 0)] [(0, (1, (.c (.int .i64 1)))), (1, (4, (.t 42)))]), none⟩, ⟨0, (some 44), (.bslice 5 1 [(.int .i64 0),
  (.int .i64 0), (.int .i64 0), (.int .i64 0), (.int .i64 0)] [(0, (5, (.t 43)))]), none⟩, ⟨0, (some 45), (.app 5 40 (.t 40) (.t 44)), none⟩, ⟨0, (some 7),
  (.mv (.t 45)), none⟩]) (.exit 1)) .skip)) (.seq (.reg [(1, true)] false [⟨0, (some 46), (.load true 2 (.t 1)), none⟩, ⟨0, (some 47), (.mv (.t 8)), none⟩,
  ⟨0, (some 48), (.callf false (.c (.fn (.func 37) [] [])) [(.t 46), (.t 47)] []), none⟩, ⟨0, (some 10), (.mv (.t 48)), none⟩]) (.seq (.reg [] true [⟨0, (some
  49), (.mv (.t 10)), none⟩, ⟨1, (some 50), (.fld 0 (.t 9)), none⟩, ⟨2, (some 51), (.load false 1 (.t 50)), none⟩, ⟨3, (some 52), (.bin .add (.t 51) (.c (.int
  .i64 1))), none⟩, ⟨4, (some 53), (.idx 1 (.t 49) (.t 52)), none⟩, ⟨5, (some 54), (.load false 1 (.t 53)), none⟩, ⟨6, (some 55), (.mv (.t 10)), none⟩, ⟨7,
  (some 56), (.fld 1 (.t 9)), none⟩, ⟨8, (some 57), (.load false 1 (.t 56)), none⟩, ⟨9, (some 58), (.bin .add (.t 57) (.c (.int .i64 1))), none⟩, ⟨10, (some
  59), (.idx 1 (.t 55) (.t 58)), none⟩, ⟨11, (some 60), (.load false 1 (.t 59)), none⟩, ⟨12, (some 11), (.mv (.t 54)), none⟩, ⟨13, (some 12), (.mv (.t 60)),
  none⟩]) (.block 2 (.seq (.reg [] false [⟨0, (some 73), (.mv (.t 11)), none⟩, ⟨0, (some 74), (.mv (.t 12)), none⟩, ⟨0, (some 75), (.bin .eql (.t 73) (.t
  74)), none⟩, ⟨0, (some 72), (.mv (.t 75)), none⟩]) (.cond (.t 72) (.reg [] false [⟨0, (some 76), (.mv (.t 7)), none⟩, ⟨0, (some 77), (.build [(.int .i64 0),
  (.int .i64 0), (.int .i64 0), (.int .i64 0), (.int .i64 0)] [(0, (1, (.c (.int .i64 3))))]), none⟩, ⟨0, (some 78), (.bslice 5 1 [(.int .i64 0), (.int .i64
  0), (.int .i64 0), (.int .i64 0), (.int .i64 0)] [(0, (5, (.t 77)))]), none⟩, ⟨0, (some 79), (.app 5 40 (.t 76) (.t 78)), none⟩, ⟨0, (some 7), (.mv (.t
  79)), none⟩]) (.seq (.reg [] false [⟨0, (some 81), (.mv (.t 11)), none⟩, ⟨0, (some 82), (.bin .neq (.t 81) (.c (.int .i64 0))), none⟩, ⟨0, (some 80), (.mv
  (.t 82)), none⟩]) (.cond (.t 80) (.reg [(10, false), (1, true)] true [⟨0, (some 83), (.mv (.t 7)), none⟩, ⟨1, (some 84), (.load true 2 (.t 1)), none⟩, ⟨2,
  (some 85), (.mv (.t 10)), none⟩, ⟨3, (some 86), (.mv (.t 11)), none⟩, ⟨4, (some 87), (.callf false (.c (.fn (.func 50) [] [])) [(.t 85), (.t 86)] [1]),
  none⟩, ⟨5, (some 88), (.callf false (.c (.fn (.func 41) [] [])) [(.t 84), (.t 87)] []), none⟩, ⟨6, (some 89), (.build [(.int .i64 0), (.int .i64 0), (.int
  .i64 0), (.int .i64 0), (.int .i64 0)] [(0, (1, (.c (.int .i64 2)))), (1, (4, (.t 88)))]), none⟩, ⟨7, (some 90), (.bslice 5 1 [(.int .i64 0), (.int .i64 0),
  (.int .i64 0), (.int .i64 0), (.int .i64 0)] [(0, (5, (.t 89)))]), none⟩, ⟨8, (some 91), (.app 5 40 (.t 83) (.t 90)), none⟩, ⟨9, (some 7), (.mv (.t 91)),
  none⟩]) (.reg [(10, false), (1, true)] true [⟨0, (some 61), (.mv (.t 7)), none⟩, ⟨1, (some 62), (.build [(.int .i64 0), (.int .i64 0), (.int .i64 0), (.int
  .i64 0)] []), none⟩, ⟨2, (some 63), (.load true 2 (.t 1)), none⟩, ⟨3, (some 64), (.mv (.t 10)), none⟩, ⟨4, (some 65), (.mv (.t 12)), none⟩, ⟨5, (some 66),
  (.callf false (.c (.fn (.func 50) [] [])) [(.t 64), (.t 65)] [2]), none⟩, ⟨6, (some 67), (.callf false (.c (.fn (.func 41) [] [])) [(.t 63), (.t 66)] []),
  none⟩, ⟨7, (some 68), (.callf false (.c (.fn (.func 51) [] [])) [(.t 62), (.c (.int .i64 (-1))), (.t 67)] []), none⟩, ⟨8, (some 69), (.build [(.int .i64 0),
  (.int .i64 0), (.int .i64 0), (.int .i64 0), (.int .i64 0)] [(0, (1, (.c (.int .i64 2)))), (1, (4, (.t 68)))]), none⟩, ⟨9, (some 70), (.bslice 5 1 [(.int
  .i64 0), (.int .i64 0), (.int .i64 0), (.int .i64 0), (.int .i64 0)] [(0, (5, (.t 69)))]), none⟩, ⟨10, (some 71), (.app 5 40 (.t 61) (.t 70)), none⟩, ⟨11,
  (some 7), (.mv (.t 71)), none⟩]))))))))))) (.reg [] false [⟨0, (some 31), (.mv (.t 8)), none⟩, ⟨0, (some 32), (.bin .add (.t 31) (.c (.int .i64 1))), none⟩,
  ⟨0, (some 8), (.mv (.t 32)), none⟩])))))) (.seq (.reg [] false [⟨0, (some 92), (.mv (.t 7)), none⟩, ⟨0, (some 2), (.mv (.t 92)), none⟩, ⟨0, (some 3), (.mv
  (.c (.int .i64 0))), none⟩]) .ret))))))))⟩
theorem is24 : FnIs prog 24 x24.fn := ⟨fun vs w => call24 vs w, _, _, func24, rfl, rfl, by kernel_rfl, by kernel_rfl⟩
theorem ok24 : okX x24.body = true := by kernel_rfl
theorem st24 : sitesP x24 x24.body := (sitesP_of rfl)

/-- zafra/bulk.Prove -/
def x25 : XFn := ⟨22, [(2, none), (3, none), (4, none)], false, false,
  (.seq (.reg [] false [⟨0, (some 1), (.box (.t 0)), none⟩, ⟨0, (some 2), (.mv (.c .nilsl)), none⟩, ⟨0, (some 3), (.mv (.c (.int .i64 0))), none⟩, ⟨0, (some 4),
  (.mv (.c (.int .i64 0))), none⟩]) (.seq (.seq (.reg [(1, true)] false [⟨0, (some 7), (.load true 2 (.t 1)), none⟩, ⟨0, (some 8), (.callf false (.c (.fn
  (.func 20) [] [])) [(.t 7)] []), none⟩, ⟨0, (some 5), (.mv (.t 8)), none⟩]) (.seq (.reg [] false [⟨0, (some 9), (.mv (.t 5)), none⟩, ⟨0, (some 10), (.bin
  .neq (.t 9) (.c (.int .i64 0))), none⟩]) (.cond (.t 10) (.seq (.reg [] false [⟨0, (some 11), (.mv (.t 5)), none⟩, ⟨0, (some 2), (.mv (.c .nilsl)), none⟩,
  ⟨0, (some 3), (.mv (.c (.int .i64 0))), none⟩, ⟨0, (some 4), (.mv (.t 11)), none⟩]) .ret) .skip))) (.seq (.reg [(1, true)] false [⟨0, (some 13), (.load true
  2 (.t 1)), none⟩, ⟨0, (some 14), (.callf false (.c (.fn (.func 47) [] [])) [(.t 13)] []), none⟩, ⟨0, (some 12), (.mv (.t 14)), none⟩, ⟨0, (some 15), (.ext
  (.t 12) 0), none⟩, ⟨0, (some 16), (.ext (.t 12) 1), none⟩, ⟨0, (some 17), (.ext (.t 12) 2), none⟩, ⟨0, (some 2), (.mv (.t 15)), none⟩, ⟨0, (some 3), (.mv
  (.t 16)), none⟩, ⟨0, (some 6), (.mv (.t 17)), none⟩]) (.seq (.seq (.reg [] false [⟨0, (some 18), (.mv (.t 6)), none⟩, ⟨0, (some 19), (.not (.t 18)), none⟩])
  (.cond (.t 19) (.seq (.reg [] false [⟨0, (some 2), (.mv (.c .nilsl)), none⟩, ⟨0, (some 3), (.mv (.c (.int .i64 0))), none⟩, ⟨0, (some 4), (.mv (.c (.int
  .i64 5))), none⟩]) .ret) .skip)) (.seq (.reg [] false [⟨0, (some 20), (.mv (.t 2)), none⟩, ⟨0, (some 21), (.mv (.t 3)), none⟩, ⟨0, (some 2), (.mv (.t 20)),
  none⟩, ⟨0, (some 3), (.mv (.t 21)), none⟩, ⟨0, (some 4), (.mv (.c (.int .i64 0))), none⟩]) .ret)))))⟩
theorem is25 : FnIs prog 25 x25.fn := ⟨fun vs w => call25 vs w, _, _, func25, rfl, rfl, by kernel_rfl, by kernel_rfl⟩
theorem ok25 : okX x25.body = true := by kernel_rfl
theorem st25 : sitesP x25 x25.body := (sitesP_of rfl)

/-- zafra/zafraref01.Prove -/
def x26 : XFn := ⟨23, [(2, none), (3, none), (4, none)], false, false,
  (.seq (.reg [] false [⟨0, (some 1), (.box (.t 0)), none⟩, ⟨0, (some 2), (.mv (.c .nilsl)), none⟩, ⟨0, (some 3), (.mv (.c (.int .i64 0))), none⟩, ⟨0, (some 4),
  (.mv (.c (.int .i64 0))), none⟩]) (.seq (.reg [(1, true)] false [⟨0, (some 8), (.load true 2 (.t 1)), none⟩, ⟨0, (some 9), (.callf false (.c (.fn (.func 21)
  [] [])) [(.t 8)] []), none⟩, ⟨0, (some 5), (.mv (.t 9)), none⟩]) (.seq (.seq (.reg [] false [⟨0, (some 10), (.mv (.t 5)), none⟩, ⟨0, (some 11), (.bin .neq
  (.t 10) (.c (.int .i64 0))), none⟩]) (.cond (.t 11) (.seq (.reg [] false [⟨0, (some 12), (.mv (.t 5)), none⟩, ⟨0, (some 2), (.mv (.c .nilsl)), none⟩, ⟨0,
  (some 3), (.mv (.c (.int .i64 0))), none⟩, ⟨0, (some 4), (.mv (.t 12)), none⟩]) .ret) .skip)) (.seq (.reg [(1, true)] false [⟨0, (some 14), (.load true 2
  (.t 1)), none⟩, ⟨0, (some 15), (.callf false (.c (.fn (.func 49) [] [])) [(.t 14)] []), none⟩, ⟨0, (some 13), (.mv (.t 15)), none⟩, ⟨0, (some 16), (.ext (.t
  13) 0), none⟩, ⟨0, (some 17), (.ext (.t 13) 1), none⟩, ⟨0, (some 6), (.mv (.t 16)), none⟩, ⟨0, (some 7), (.mv (.t 17)), none⟩]) (.seq (.seq (.reg [] false
  [⟨0, (some 18), (.mv (.t 6)), none⟩, ⟨0, (some 19), (.len false (.t 18)), none⟩, ⟨0, (some 20), (.bin .eql (.t 19) (.c (.int .i64 0))), none⟩]) (.cond (.t
  20) (.seq (.reg [] false [⟨0, (some 2), (.mv (.c .nilsl)), none⟩, ⟨0, (some 3), (.mv (.c (.int .i64 0))), none⟩, ⟨0, (some 4), (.mv (.c (.int .i64 5))),
  none⟩]) .ret) .skip)) (.seq (.reg [] false [⟨0, (some 21), (.mv (.t 6)), none⟩, ⟨0, (some 22), (.mv (.t 7)), none⟩, ⟨0, (some 2), (.mv (.t 21)), none⟩, ⟨0,
  (some 3), (.mv (.t 22)), none⟩, ⟨0, (some 4), (.mv (.c (.int .i64 0))), none⟩]) .ret))))))⟩
theorem is26 : FnIs prog 26 x26.fn := ⟨fun vs w => call26 vs w, _, _, func26, rfl, rfl, by kernel_rfl, by kernel_rfl⟩
theorem ok26 : okX x26.body = true := by kernel_rfl
theorem st26 : sitesP x26 x26.body := (sitesP_of rfl)

/-- zafra/zafraref01.Refutes -/
def x27 : XFn := ⟨65, [(6, none)], false, false,
  (.seq (.reg [] false [⟨0, (some 3), (.box (.t 0)), none⟩, ⟨0, (some 6), (.mv (.c (.int .i64 0))), none⟩]) (.seq (.reg [(3, true), (1, false)] false [⟨0, (some
  11), (.load true 2 (.t 3)), none⟩, ⟨0, (some 12), (.mv (.t 1)), none⟩, ⟨0, (some 13), (.callf false (.c (.fn (.func 40) [] [])) [(.t 11), (.t 12)] []),
  none⟩, ⟨0, (some 10), (.mv (.t 13)), none⟩, ⟨0, (some 14), (.ext (.t 10) 0), none⟩, ⟨0, (some 15), (.ext (.t 10) 1), none⟩, ⟨0, (some 7), (.mv (.t 14)),
  none⟩, ⟨0, (some 8), (.mv (.t 15)), none⟩]) (.seq (.seq (.reg [] false [⟨0, (some 16), (.mv (.t 8)), none⟩, ⟨0, (some 17), (.bin .neq (.t 16) (.c (.int .i64
  0))), none⟩]) (.cond (.t 17) (.seq (.reg [] false [⟨0, (some 18), (.mv (.t 8)), none⟩, ⟨0, (some 6), (.mv (.t 18)), none⟩]) .ret) .skip)) (.seq (.seq (.reg
  [] false [⟨0, (some 19), (.mv (.t 2)), none⟩, ⟨0, (some 20), (.callf false (.c (.fn (.func 45) [] [])) [(.t 19), (.c (.int .i64 0)), (.c (.int .i64 3))]
  []), none⟩, ⟨0, (some 21), (.not (.t 20)), none⟩]) (.cond (.t 21) (.seq (.reg [] false [⟨0, (some 6), (.mv (.c (.int .i64 18))), none⟩]) .ret) .skip)) (.seq
  (.seq (.reg [] false [⟨0, (some 9), (.mv (.c (.int .i64 0))), none⟩]) (.block 0 (.loop [2, 3, 7, 9] (.seq (.seq (.reg [] false [⟨0, (some 22), (.mv (.t 9)),
  none⟩, ⟨0, (some 23), (.fld 1 (.t 3)), none⟩, ⟨0, (some 24), (.load false 1 (.t 23)), none⟩, ⟨0, (some 25), (.len false (.t 24)), none⟩, ⟨0, (some 26),
  (.bin .lss (.t 22) (.t 25)), none⟩]) (.cond (.t 26) .skip (.exit 0))) (.seq (.block 1 (.seq (.reg [] true [⟨0, (some 29), (.fld 1 (.t 3)), none⟩, ⟨1, (some
  30), (.load false 1 (.t 29)), none⟩, ⟨2, (some 31), (.mv (.t 9)), none⟩, ⟨3, (some 32), (.idx 7 (.t 30) (.t 31)), none⟩, ⟨4, (some 33), (.fld 2 (.t 32)),
  none⟩, ⟨5, (some 34), (.load false 1 (.t 33)), none⟩, ⟨6, (some 35), (.not (.t 34)), none⟩, ⟨7, (some 36), (.mv (.t 35)), none⟩, ⟨8, (some 37), (.mv (.t
  7)), (some (36, true))⟩, ⟨9, (some 38), (.fld 1 (.t 3)), (some (36, true))⟩, ⟨10, (some 39), (.load false 1 (.t 38)), (some (36, true))⟩, ⟨11, (some 40),
  (.mv (.t 9)), (some (36, true))⟩, ⟨12, (some 41), (.idx 7 (.t 39) (.t 40)), (some (36, true))⟩, ⟨13, (some 42), (.fld 0 (.t 41)), (some (36, true))⟩, ⟨14,
  (some 43), (.load false 1 (.t 42)), (some (36, true))⟩, ⟨15, (some 44), (.bin .add (.t 43) (.c (.int .i64 1))), (some (36, true))⟩, ⟨16, (some 45), (.idx 1
  (.t 37) (.t 44)), (some (36, true))⟩, ⟨17, (some 46), (.load false 1 (.t 45)), (some (36, true))⟩, ⟨18, (some 47), (.mv (.t 7)), (some (36, true))⟩, ⟨19,
  (some 48), (.fld 1 (.t 3)), (some (36, true))⟩, ⟨20, (some 49), (.load false 1 (.t 48)), (some (36, true))⟩, ⟨21, (some 50), (.mv (.t 9)), (some (36,
  true))⟩, ⟨22, (some 51), (.idx 7 (.t 49) (.t 50)), (some (36, true))⟩, ⟨23, (some 52), (.fld 1 (.t 51)), (some (36, true))⟩, ⟨24, (some 53), (.load false 1
  (.t 52)), (some (36, true))⟩, ⟨25, (some 54), (.bin .add (.t 53) (.c (.int .i64 1))), (some (36, true))⟩, ⟨26, (some 55), (.idx 1 (.t 47) (.t 54)), (some
  (36, true))⟩, ⟨27, (some 56), (.load false 1 (.t 55)), (some (36, true))⟩, ⟨28, (some 57), (.binb true (.t 46) (.t 56)), (some (36, true))⟩, ⟨29, (some 58),
  (.pick (.t 36) (.t 57) (.c (.bool false))), none⟩]) (.cond (.t 58) (.seq (.reg [] false [⟨0, (some 6), (.mv (.c (.int .i64 11))), none⟩]) .ret) .skip)))
  (.reg [] false [⟨0, (some 27), (.mv (.t 9)), none⟩, ⟨0, (some 28), (.bin .add (.t 27) (.c (.int .i64 1))), none⟩, ⟨0, (some 9), (.mv (.t 28)), none⟩]))))))
  (.seq (.seq (.reg [(3, true), (7, false)] false [⟨0, (some 59), (.load true 2 (.t 3)), none⟩, ⟨0, (some 60), (.mv (.t 7)), none⟩, ⟨0, (some 61), (.callf
  false (.c (.fn (.func 41) [] [])) [(.t 59), (.t 60)] []), none⟩, ⟨0, (some 62), (.mv (.t 2)), none⟩, ⟨0, (some 63), (.idxv false 4 1 (.t 61) (.t 62)),
  none⟩, ⟨0, (some 64), (.bin .eql (.t 63) (.c (.int .i64 0))), none⟩]) (.cond (.t 64) (.seq (.reg [] false [⟨0, (some 6), (.mv (.c (.int .i64 11))), none⟩])
  .ret) .skip)) (.seq (.reg [] false [⟨0, (some 6), (.mv (.c (.int .i64 0))), none⟩]) .ret)))))))⟩
theorem is27 : FnIs prog 27 x27.fn := ⟨fun vs w => call27 vs w, _, _, func27, rfl, rfl, by kernel_rfl, by kernel_rfl⟩
theorem ok27 : okX x27.body = true := by kernel_rfl
theorem st27 : sitesP x27 x27.body := (sitesP_of rfl)

/-- zafra/bulk.Refutes -/
def x28 : XFn := ⟨36, [(6, none)], false, false,
  (.seq (.reg [] false [⟨0, (some 3), (.box (.t 0)), none⟩, ⟨0, (some 6), (.mv (.c (.int .i64 0))), none⟩]) (.seq (.reg [(3, true), (1, false)] false [⟨0, (some
  10), (.load true 2 (.t 3)), none⟩, ⟨0, (some 11), (.mv (.t 1)), none⟩, ⟨0, (some 12), (.callf false (.c (.fn (.func 38) [] [])) [(.t 10), (.t 11)] []),
  none⟩, ⟨0, (some 9), (.mv (.t 12)), none⟩, ⟨0, (some 13), (.ext (.t 9) 0), none⟩, ⟨0, (some 14), (.ext (.t 9) 1), none⟩, ⟨0, (some 7), (.alloc [.nilfn]),
  none⟩, ⟨0, none, (.store 1 (.t 7) (.t 13) []), none⟩, ⟨0, (some 8), (.mv (.t 14)), none⟩]) (.seq (.block 0 (.seq (.reg [] false [⟨0, (some 16), (.mv (.t
  8)), none⟩, ⟨0, (some 17), (.bin .neq (.t 16) (.c (.int .i64 0))), none⟩, ⟨0, (some 15), (.mv (.t 17)), none⟩]) (.cond (.t 15) (.seq (.reg [] false [⟨0,
  (some 18), (.mv (.t 8)), none⟩, ⟨0, (some 6), (.mv (.t 18)), none⟩]) .ret) (.seq (.reg [] false [⟨0, (some 20), (.mv (.t 2)), none⟩, ⟨0, (some 21), (.callf
  false (.c (.fn (.func 42) [] [])) [(.c (.int .i64 0)), (.t 20), (.c (.int .i64 3))] []), none⟩, ⟨0, (some 22), (.not (.t 21)), none⟩, ⟨0, (some 19), (.mv
  (.t 22)), none⟩]) (.cond (.t 19) (.seq (.reg [] false [⟨0, (some 6), (.mv (.c (.int .i64 18))), none⟩]) .ret) (.seq (.reg [(3, true), (7, true)] false [⟨0,
  (some 24), (.load true 2 (.t 3)), none⟩, ⟨0, (some 25), (.load false 1 (.t 7)), none⟩, ⟨0, (some 26), (.callf false (.c (.fn (.func 39) [] [])) [(.t 24),
  (.c (.int .i64 (-1))), (.t 25)] []), none⟩, ⟨0, (some 27), (.mv (.t 2)), none⟩, ⟨0, (some 28), (.idxv false 4 1 (.t 26) (.t 27)), none⟩, ⟨0, (some 29),
  (.bin .eql (.t 28) (.c (.int .i64 0))), none⟩, ⟨0, (some 30), (.mv (.t 29)), none⟩, ⟨0, (some 31), (.fld 1 (.t 3)), (some (30, false))⟩, ⟨0, (some 32),
  (.load false 1 (.t 31)), (some (30, false))⟩, ⟨0, (some 33), (.mkf (.func 53) [] [(.t 7)]), (some (30, false))⟩, ⟨0, (some 34), (.callf false (.c (.fn
  (.func 52) [] [])) [(.t 32), (.t 33)] []), (some (30, false))⟩, ⟨0, (some 35), (.pick (.t 30) (.c (.bool true)) (.t 34)), none⟩, ⟨0, (some 23), (.mv (.t
  35)), none⟩]) (.cond (.t 23) (.seq (.reg [] false [⟨0, (some 6), (.mv (.c (.int .i64 11))), none⟩]) .ret) .skip))))))) (.seq (.reg [] false [⟨0, (some 6),
  (.mv (.c (.int .i64 0))), none⟩]) .ret))))⟩
theorem is28 : FnIs prog 28 x28.fn := ⟨fun vs w => call28 vs w, _, _, func28, rfl, rfl, by kernel_rfl, by kernel_rfl⟩
theorem ok28 : okX x28.body = true := by kernel_rfl
theorem st28 : sitesP x28 x28.body := (sitesP_of rfl)

/-- (zafra/zafralaw01.Mill).made -/
def x29 : XFn := ⟨180, [(2, (some (true, 2))), (3, none)], false, true,
  (.seq (.reg [] false [⟨0, (some 1), (.box (.t 0)), none⟩, ⟨0, (some 2), (.alloc [(.int .i64 0), .nilsl]), none⟩, ⟨0, (some 3), (.mv (.c .nilsl)), none⟩])
  (.seq (.reg [] false [⟨0, (some 16), (.fld 0 (.t 1)), none⟩, ⟨0, (some 17), (.load false 1 (.t 16)), none⟩, ⟨0, (some 18), (.conv .i64 (.t 17)), none⟩, ⟨0,
  (some 19), (.bin .rem (.t 18) (.c (.int .i64 4))), none⟩, ⟨0, (some 20), (.bin .add (.c (.int .i64 1)) (.t 19)), none⟩, ⟨0, (some 4), (.mv (.t 20)), none⟩])
  (.seq (.reg [] false [⟨0, (some 21), (.mv (.t 4)), none⟩, ⟨0, (some 22), (.build [(.int .i64 0), .nilsl] [(0, (1, (.t 21)))]), none⟩, ⟨0, (some 5), (.alloc
  [(.int .i64 0), .nilsl]), none⟩, ⟨0, none, (.store 2 (.t 5) (.t 22) []), none⟩]) (.seq (.reg [] false [⟨0, (some 6), (.mv (.c .nilsl)), none⟩]) (.seq (.reg
  [] false [⟨0, (some 7), (.alloc [(.int .i64 0), (.int .i64 0), (.int .i64 0), (.int .i64 0), (.int .i64 0), (.int .i64 0), (.int .i64 0), (.int .i64 0),
  (.int .i64 0), (.int .i64 0), (.int .i64 0), (.int .i64 0), (.int .i64 0), (.int .i64 0), (.int .i64 0), (.int .i64 0)]), none⟩]) (.seq (.reg [] false [⟨0,
  (some 23), (.mkf (.func 54) [] [(.t 1)]), none⟩, ⟨0, (some 8), (.mv (.t 23)), none⟩]) (.seq (.seq (.reg [] false [⟨0, (some 9), (.mv (.c (.int .i64 0))),
  none⟩]) (.block 0 (.loop [1, 2, 4, 5, 6, 7, 8, 9] (.seq (.seq (.reg [] false [⟨0, (some 24), (.mv (.t 9)), none⟩, ⟨0, (some 25), (.fld 1 (.t 1)), none⟩, ⟨0,
  (some 26), (.load false 1 (.t 25)), none⟩, ⟨0, (some 27), (.len false (.t 26)), none⟩, ⟨0, (some 28), (.bin .lss (.t 24) (.t 27)), none⟩, ⟨0, (some 29),
  (.mv (.t 28)), none⟩, ⟨0, (some 30), (.mv (.t 9)), (some (29, true))⟩, ⟨0, (some 31), (.bin .lss (.t 30) (.c (.int .i64 6))), (some (29, true))⟩, ⟨0, (some
  32), (.pick (.t 29) (.t 31) (.c (.bool false))), none⟩]) (.cond (.t 32) .skip (.exit 0))) (.seq (.block 1 (.seq (.reg [] true [⟨0, (some 35), (.fld 1 (.t
  1)), none⟩, ⟨1, (some 36), (.load false 1 (.t 35)), none⟩, ⟨2, (some 37), (.mv (.t 9)), none⟩, ⟨3, (some 38), (.idx 2 (.t 36) (.t 37)), none⟩, ⟨4, (some
  39), (.idxa 2 1 (.t 38) (.c (.int .i64 0))), none⟩, ⟨5, (some 40), (.load false 1 (.t 39)), none⟩, ⟨6, (some 41), (.conv .i64 (.t 40)), none⟩, ⟨7, (some
  42), (.mv (.t 4)), none⟩, ⟨8, (some 43), (.bin .add (.t 42) (.c (.int .i64 1))), none⟩, ⟨9, (some 44), (.bin .rem (.t 41) (.t 43)), none⟩, ⟨10, (some 45),
  (.bin .sub (.t 44) (.c (.int .i64 1))), none⟩, ⟨11, (some 46), (.fld 1 (.t 1)), none⟩, ⟨12, (some 47), (.load false 1 (.t 46)), none⟩, ⟨13, (some 48), (.mv
  (.t 9)), none⟩, ⟨14, (some 49), (.idx 2 (.t 47) (.t 48)), none⟩, ⟨15, (some 50), (.idxa 2 1 (.t 49) (.c (.int .i64 1))), none⟩, ⟨16, (some 51), (.load false
  1 (.t 50)), none⟩, ⟨17, (some 52), (.conv .i64 (.t 51)), none⟩, ⟨18, (some 53), (.mv (.t 4)), none⟩, ⟨19, (some 54), (.bin .add (.t 53) (.c (.int .i64 1))),
  none⟩, ⟨20, (some 55), (.bin .rem (.t 52) (.t 54)), none⟩, ⟨21, (some 56), (.bin .sub (.t 55) (.c (.int .i64 1))), none⟩, ⟨22, (some 57), (.fld 3 (.t 1)),
  none⟩, ⟨23, (some 58), (.load false 1 (.t 57)), none⟩, ⟨24, (some 59), (.mv (.t 9)), none⟩, ⟨25, (some 60), (.bin .shr (.t 58) (.t 59)), none⟩, ⟨26, (some
  61), (.bin .and (.t 60) (.c (.int .u16 1))), none⟩, ⟨27, (some 62), (.bin .eql (.t 61) (.c (.int .u16 1))), none⟩, ⟨28, (some 63), (.build [(.int .i64 0),
  (.int .i64 0), (.bool false), (.int .i64 0), (.int .i64 0), (.int .i64 0), (.int .i64 0)] [(0, (1, (.t 45))), (1, (1, (.t 56))), (2, (1, (.t 62)))]), none⟩,
  ⟨29, (some 10), (.alloc [(.int .i64 0), (.int .i64 0), (.bool false), (.int .i64 0), (.int .i64 0), (.int .i64 0), (.int .i64 0)]), none⟩, ⟨30, none,
  (.store 7 (.t 10) (.t 63) []), none⟩]) (.seq (.seq (.reg [] false [⟨0, (some 64), (.fld 0 (.t 10)), none⟩, ⟨0, (some 65), (.load false 1 (.t 64)), none⟩,
  ⟨0, (some 66), (.fld 1 (.t 10)), none⟩, ⟨0, (some 67), (.load false 1 (.t 66)), none⟩, ⟨0, (some 68), (.bin .eql (.t 65) (.t 67)), none⟩]) (.cond (.t 68)
  (.reg [] false [⟨0, (some 69), (.fld 0 (.t 10)), none⟩, ⟨0, (some 70), (.load false 1 (.t 69)), none⟩, ⟨0, (some 71), (.bin .add (.t 70) (.c (.int .i64
  2))), none⟩, ⟨0, (some 72), (.mv (.t 4)), none⟩, ⟨0, (some 73), (.bin .add (.t 72) (.c (.int .i64 1))), none⟩, ⟨0, (some 74), (.bin .rem (.t 71) (.t 73)),
  none⟩, ⟨0, (some 75), (.bin .sub (.t 74) (.c (.int .i64 1))), none⟩, ⟨0, (some 76), (.fld 1 (.t 10)), none⟩, ⟨0, none, (.store 1 (.t 76) (.t 75) []),
  none⟩]) .skip)) (.seq (.reg [] false [⟨0, (some 11), (.alloc [(.int .i64 0), (.int .i64 0), (.int .i64 0), (.int .i64 0)]), none⟩]) (.seq (.seq (.reg []
  false [⟨0, (some 77), (.mv (.c (.int .i64 0))), none⟩]) (.block 2 (.loop [1, 2, 4, 5, 6, 7, 8, 9, 10, 11, 77] (.seq (.reg [] false [⟨0, (some 78), (.bin
  .lss (.t 77) (.c (.int .i64 4))), none⟩]) (.seq (.cond (.t 78) .skip (.exit 2)) (.seq (.block 3 (.seq (.reg [] false [⟨0, (some 79), (.mv (.t 77)), none⟩,
  ⟨0, (some 12), (.mv (.t 79)), none⟩]) (.seq (.reg [] false [⟨0, (some 80), (.mv (.t 12)), none⟩, ⟨0, (some 81), (.mv (.t 8)), none⟩, ⟨0, (some 82), (.mv (.t
  9)), none⟩, ⟨0, (some 83), (.mv (.t 12)), none⟩, ⟨0, (some 84), (.callf false (.t 81) [(.t 82), (.t 83)] []), none⟩, ⟨0, (some 85), (.idxa 4 1 (.t 11) (.t
  80)), none⟩, ⟨0, none, (.store 1 (.t 85) (.t 84) []), none⟩]) (.seq (.seq (.reg [] false [⟨0, (some 86), (.fld 1 (.t 10)), none⟩, ⟨0, (some 87), (.load
  false 1 (.t 86)), none⟩, ⟨0, (some 88), (.bin .geq (.t 87) (.c (.int .i64 0))), none⟩]) (.cond (.t 88) (.reg [] true [⟨0, (some 89), (.fld 1 (.t 10)),
  none⟩, ⟨1, (some 90), (.load false 1 (.t 89)), none⟩, ⟨2, (some 91), (.mv (.t 12)), none⟩, ⟨3, (some 92), (.idxa 4 4 (.t 7) (.t 90)), none⟩, ⟨4, (some 93),
  (.idxa 4 1 (.t 92) (.t 91)), none⟩, ⟨5, (some 94), (.load false 1 (.t 93)), none⟩, ⟨6, (some 95), (.mv (.t 12)), none⟩, ⟨7, (some 96), (.idxa 4 1 (.t 11)
  (.t 95)), none⟩, ⟨8, (some 97), (.load false 1 (.t 96)), none⟩, ⟨9, (some 98), (.bin .add (.t 94) (.t 97)), none⟩, ⟨10, (some 99), (.idxa 4 4 (.t 7) (.t
  90)), none⟩, ⟨11, (some 100), (.idxa 4 1 (.t 99) (.t 91)), none⟩, ⟨12, none, (.store 1 (.t 100) (.t 98) []), none⟩]) .skip)) (.seq (.reg [] false [⟨0, (some
  101), (.fld 0 (.t 10)), none⟩, ⟨0, (some 102), (.load false 1 (.t 101)), none⟩, ⟨0, (some 103), (.bin .geq (.t 102) (.c (.int .i64 0))), none⟩]) (.cond (.t
  103) (.reg [] true [⟨0, (some 104), (.fld 0 (.t 10)), none⟩, ⟨1, (some 105), (.load false 1 (.t 104)), none⟩, ⟨2, (some 106), (.mv (.t 12)), none⟩, ⟨3,
  (some 107), (.idxa 4 4 (.t 7) (.t 105)), none⟩, ⟨4, (some 108), (.idxa 4 1 (.t 107) (.t 106)), none⟩, ⟨5, (some 109), (.load false 1 (.t 108)), none⟩, ⟨6,
  (some 110), (.mv (.t 12)), none⟩, ⟨7, (some 111), (.idxa 4 1 (.t 11) (.t 110)), none⟩, ⟨8, (some 112), (.load false 1 (.t 111)), none⟩, ⟨9, (some 113),
  (.bin .sub (.t 109) (.t 112)), none⟩, ⟨10, (some 114), (.idxa 4 4 (.t 7) (.t 105)), none⟩, ⟨11, (some 115), (.idxa 4 1 (.t 114) (.t 106)), none⟩, ⟨12, none,
  (.store 1 (.t 115) (.t 113) []), none⟩]) .skip)))))) (.reg [] false [⟨0, (some 116), (.bin .add (.t 77) (.c (.int .i64 1))), none⟩, ⟨0, (some 77), (.mv (.t
  116)), none⟩]))))))) (.seq (.seq (.reg [] false [⟨0, (some 117), (.fld 2 (.t 10)), none⟩, ⟨0, (some 118), (.load false 1 (.t 117)), none⟩]) (.cond (.t 118)
  (.reg [] false [⟨0, (some 119), (.load true 4 (.t 11)), none⟩, ⟨0, (some 120), (.fld 3 (.t 10)), none⟩, ⟨0, none, (.store 4 (.t 120) (.t 119) []), none⟩])
  .skip)) (.reg [(10, true), (11, true)] true [⟨0, (some 121), (.fld 1 (.t 5)), none⟩, ⟨1, (some 122), (.load false 1 (.t 121)), none⟩, ⟨2, (some 123), (.load
  true 7 (.t 10)), none⟩, ⟨3, (some 124), (.bslice 7 1 [(.int .i64 0), (.int .i64 0), (.bool false), (.int .i64 0), (.int .i64 0), (.int .i64 0), (.int .i64
  0)] [(0, (7, (.t 123)))]), none⟩, ⟨4, (some 125), (.app 7 56 (.t 122) (.t 124)), none⟩, ⟨5, (some 126), (.mv (.t 6)), none⟩, ⟨6, (some 127), (.load true 4
  (.t 11)), none⟩, ⟨7, (some 128), (.bslice 4 1 [(.int .i64 0), (.int .i64 0), (.int .i64 0), (.int .i64 0)] [(0, (4, (.t 127)))]), none⟩, ⟨8, (some 129),
  (.app 4 32 (.t 126) (.t 128)), none⟩, ⟨9, (some 130), (.fld 1 (.t 5)), none⟩, ⟨10, none, (.store 1 (.t 130) (.t 125) []), none⟩, ⟨11, (some 6), (.mv (.t
  129)), none⟩]))))))) (.reg [] false [⟨0, (some 33), (.mv (.t 9)), none⟩, ⟨0, (some 34), (.bin .add (.t 33) (.c (.int .i64 1))), none⟩, ⟨0, (some 9), (.mv
  (.t 34)), none⟩])))))) (.seq (.seq (.reg [] false [⟨0, (some 13), (.mv (.c (.int .i64 0))), none⟩]) (.block 4 (.loop [1, 2, 4, 5, 6, 7, 13] (.seq (.seq
  (.reg [] false [⟨0, (some 131), (.mv (.t 13)), none⟩, ⟨0, (some 132), (.mv (.t 4)), none⟩, ⟨0, (some 133), (.bin .lss (.t 131) (.t 132)), none⟩]) (.cond (.t
  133) .skip (.exit 4))) (.seq (.block 5 (.seq (.reg [] false [⟨0, (some 136), (.mv (.t 13)), none⟩, ⟨0, (some 137), (.fld 3 (.t 1)), none⟩, ⟨0, (some 138),
  (.load false 1 (.t 137)), none⟩, ⟨0, (some 139), (.mv (.t 13)), none⟩, ⟨0, (some 140), (.bin .add (.c (.int .i64 6)) (.t 139)), none⟩, ⟨0, (some 141), (.bin
  .shr (.t 138) (.t 140)), none⟩, ⟨0, (some 142), (.bin .and (.t 141) (.c (.int .u16 1))), none⟩, ⟨0, (some 143), (.bin .eql (.t 142) (.c (.int .u16 1))),
  none⟩, ⟨0, (some 144), (.build [(.int .i64 0), (.int .i64 0), (.bool false), (.int .i64 0), (.int .i64 0), (.int .i64 0), (.int .i64 0)] [(0, (1, (.t
  136))), (1, (1, (.c (.int .i64 (-1))))), (2, (1, (.t 143)))]), none⟩, ⟨0, (some 14), (.alloc [(.int .i64 0), (.int .i64 0), (.bool false), (.int .i64 0),
  (.int .i64 0), (.int .i64 0), (.int .i64 0)]), none⟩, ⟨0, none, (.store 7 (.t 14) (.t 144) []), none⟩]) (.seq (.seq (.reg [] false [⟨0, (some 145), (.mv (.c
  (.int .i64 0))), none⟩]) (.block 6 (.loop [1, 2, 4, 5, 6, 7, 13, 14, 145] (.seq (.reg [] false [⟨0, (some 146), (.bin .lss (.t 145) (.c (.int .i64 4))),
  none⟩]) (.seq (.cond (.t 146) .skip (.exit 6)) (.seq (.block 7 (.seq (.reg [] false [⟨0, (some 147), (.mv (.t 145)), none⟩, ⟨0, (some 15), (.mv (.t 147)),
  none⟩]) (.reg [] false [⟨0, (some 148), (.fld 2 (.t 14)), none⟩, ⟨0, (some 149), (.load false 1 (.t 148)), none⟩, ⟨0, (some 150), (.mv (.t 149)), none⟩, ⟨0,
  (some 151), (.mv (.t 13)), (some (150, true))⟩, ⟨0, (some 152), (.mv (.t 15)), (some (150, true))⟩, ⟨0, (some 153), (.idxa 4 4 (.t 7) (.t 151)), (some (150,
  true))⟩, ⟨0, (some 154), (.idxa 4 1 (.t 153) (.t 152)), (some (150, true))⟩, ⟨0, (some 155), (.load false 1 (.t 154)), (some (150, true))⟩, ⟨0, (some 156),
  (.bin .geq (.t 155) (.c (.int .i64 0))), (some (150, true))⟩, ⟨0, (some 157), (.pick (.t 150) (.t 156) (.c (.bool false))), none⟩, ⟨0, (some 158), (.fld 2
  (.t 14)), none⟩, ⟨0, none, (.store 1 (.t 158) (.t 157) []), none⟩]))) (.reg [] false [⟨0, (some 159), (.bin .add (.t 145) (.c (.int .i64 1))), none⟩, ⟨0,
  (some 145), (.mv (.t 159)), none⟩]))))))) (.seq (.seq (.reg [] false [⟨0, (some 160), (.fld 2 (.t 14)), none⟩, ⟨0, (some 161), (.load false 1 (.t 160)),
  none⟩]) (.cond (.t 161) (.reg [] false [⟨0, (some 162), (.mv (.t 13)), none⟩, ⟨0, (some 163), (.idxa 4 4 (.t 7) (.t 162)), none⟩, ⟨0, (some 164), (.load
  true 4 (.t 163)), none⟩, ⟨0, (some 165), (.fld 3 (.t 14)), none⟩, ⟨0, none, (.store 4 (.t 165) (.t 164) []), none⟩]) .skip)) (.reg [(14, true)] true [⟨0,
  (some 166), (.fld 1 (.t 5)), none⟩, ⟨1, (some 167), (.load false 1 (.t 166)), none⟩, ⟨2, (some 168), (.load true 7 (.t 14)), none⟩, ⟨3, (some 169), (.bslice
  7 1 [(.int .i64 0), (.int .i64 0), (.bool false), (.int .i64 0), (.int .i64 0), (.int .i64 0), (.int .i64 0)] [(0, (7, (.t 168)))]), none⟩, ⟨4, (some 170),
  (.app 7 56 (.t 167) (.t 169)), none⟩, ⟨5, (some 171), (.mv (.t 6)), none⟩, ⟨6, (some 172), (.mv (.t 13)), none⟩, ⟨7, (some 173), (.idxa 4 4 (.t 7) (.t
  172)), none⟩, ⟨8, (some 174), (.load true 4 (.t 173)), none⟩, ⟨9, (some 175), (.bslice 4 1 [(.int .i64 0), (.int .i64 0), (.int .i64 0), (.int .i64 0)] [(0,
  (4, (.t 174)))]), none⟩, ⟨10, (some 176), (.app 4 32 (.t 171) (.t 175)), none⟩, ⟨11, (some 177), (.fld 1 (.t 5)), none⟩, ⟨12, none, (.store 1 (.t 177) (.t
  170) []), none⟩, ⟨13, (some 6), (.mv (.t 176)), none⟩]))))) (.reg [] false [⟨0, (some 134), (.mv (.t 13)), none⟩, ⟨0, (some 135), (.bin .add (.t 134) (.c
  (.int .i64 1))), none⟩, ⟨0, (some 13), (.mv (.t 135)), none⟩])))))) (.seq (.reg [] false [⟨0, (some 178), (.load true 2 (.t 5)), none⟩, ⟨0, (some 179), (.mv
  (.t 6)), none⟩, ⟨0, none, (.store 2 (.t 2) (.t 178) []), none⟩, ⟨0, (some 3), (.mv (.t 179)), none⟩]) .ret)))))))))⟩
theorem is29 : FnIs prog 29 x29.fn := ⟨fun vs w => call29 vs w, _, _, func29, rfl, rfl, by kernel_rfl, by kernel_rfl⟩
theorem ok29 : okX x29.body = true := by kernel_rfl
theorem st29 : sitesP x29 x29.body := (sitesP_of rfl)

/-- zafra/zafralaw01.joined -/
def x30 : XFn := ⟨75, [(8, none)], false, false,
  (.seq (.reg [] false [⟨0, (some 4), (.box (.t 0)), none⟩, ⟨0, (some 8), (.mv (.c (.bool false))), none⟩]) (.seq (.reg [] false [⟨0, (some 13), (.fld 0 (.t
  4)), none⟩, ⟨0, (some 14), (.load false 1 (.t 13)), none⟩, ⟨0, (some 15), (.bin .add (.t 14) (.c (.int .i64 1))), none⟩, ⟨0, (some 16), (.mksl 1 1 [(.bool
  false)] (.t 15) (.t 15)), none⟩, ⟨0, (some 9), (.mv (.t 16)), none⟩]) (.seq (.reg [] false [⟨0, (some 17), (.mv (.t 9)), none⟩, ⟨0, (some 18), (.mv (.t 1)),
  none⟩, ⟨0, (some 19), (.bin .add (.t 18) (.c (.int .i64 1))), none⟩, ⟨0, (some 20), (.idx 1 (.t 17) (.t 19)), none⟩, ⟨0, none, (.store 1 (.t 20) (.c (.bool
  true)) []), none⟩]) (.seq (.seq (.reg [] false [⟨0, (some 10), (.mv (.c (.int .i64 0))), none⟩]) (.block 0 (.loop [2, 3, 4, 9, 10] (.seq (.seq (.reg []
  false [⟨0, (some 21), (.mv (.t 10)), none⟩, ⟨0, (some 22), (.fld 0 (.t 4)), none⟩, ⟨0, (some 23), (.load false 1 (.t 22)), none⟩, ⟨0, (some 24), (.bin .leq
  (.t 21) (.t 23)), none⟩]) (.cond (.t 24) .skip (.exit 0))) (.seq (.block 1 (.seq (.reg [] false [⟨0, (some 27), (.fld 1 (.t 4)), none⟩, ⟨0, (some 28),
  (.load false 1 (.t 27)), none⟩, ⟨0, (some 29), (.len false (.t 28)), none⟩, ⟨0, (some 30), (.mv (.c (.int .i64 0))), none⟩]) (.block 2 (.loop [2, 3, 4, 9,
  10, 28, 29, 30] (.seq (.reg [] false [⟨0, (some 31), (.bin .lss (.t 30) (.t 29)), none⟩]) (.seq (.cond (.t 31) .skip (.exit 2)) (.seq (.block 3 (.seq (.reg
  [] false [⟨0, (some 32), (.mv (.t 30)), none⟩, ⟨0, (some 33), (.idx 7 (.t 28) (.t 30)), none⟩, ⟨0, (some 34), (.load true 7 (.t 33)), none⟩, ⟨0, (some 12),
  (.alloc [(.int .i64 0), (.int .i64 0), (.bool false), (.int .i64 0), (.int .i64 0), (.int .i64 0), (.int .i64 0)]), none⟩, ⟨0, (some 11), (.mv (.t 32)),
  none⟩, ⟨0, none, (.store 7 (.t 12) (.t 34) []), none⟩]) (.seq (.reg [] false [⟨0, (some 35), (.fld 2 (.t 12)), none⟩, ⟨0, (some 36), (.load false 1 (.t
  35)), none⟩, ⟨0, (some 37), (.not (.t 36)), none⟩, ⟨0, (some 38), (.mv (.t 37)), none⟩, ⟨0, (some 39), (.mv (.t 11)), (some (38, true))⟩, ⟨0, (some 40),
  (.mv (.t 3)), (some (38, true))⟩, ⟨0, (some 41), (.bin .neq (.t 39) (.t 40)), (some (38, true))⟩, ⟨0, (some 42), (.pick (.t 38) (.t 41) (.c (.bool false))),
  none⟩, ⟨0, (some 43), (.mv (.t 42)), none⟩, ⟨0, (some 44), (.mv (.t 9)), (some (43, true))⟩, ⟨0, (some 45), (.fld 0 (.t 12)), (some (43, true))⟩, ⟨0, (some
  46), (.load false 1 (.t 45)), (some (43, true))⟩, ⟨0, (some 47), (.bin .add (.t 46) (.c (.int .i64 1))), (some (43, true))⟩, ⟨0, (some 48), (.idx 1 (.t 44)
  (.t 47)), (some (43, true))⟩, ⟨0, (some 49), (.load false 1 (.t 48)), (some (43, true))⟩, ⟨0, (some 50), (.mv (.t 49)), (some (43, true))⟩, ⟨0, (some 51),
  (.mv (.t 9)), (some (50, false))⟩, ⟨0, (some 52), (.fld 1 (.t 12)), (some (50, false))⟩, ⟨0, (some 53), (.load false 1 (.t 52)), (some (50, false))⟩, ⟨0,
  (some 54), (.bin .add (.t 53) (.c (.int .i64 1))), (some (50, false))⟩, ⟨0, (some 55), (.idx 1 (.t 51) (.t 54)), (some (50, false))⟩, ⟨0, (some 56), (.load
  false 1 (.t 55)), (some (50, false))⟩, ⟨0, (some 57), (.pick (.t 50) (.c (.bool true)) (.t 56)), (some (43, true))⟩, ⟨0, (some 58), (.pick (.t 43) (.t 57)
  (.c (.bool false))), none⟩]) (.cond (.t 58) (.reg [] true [⟨0, (some 59), (.mv (.t 9)), none⟩, ⟨1, (some 60), (.fld 0 (.t 12)), none⟩, ⟨2, (some 61), (.load
  false 1 (.t 60)), none⟩, ⟨3, (some 62), (.bin .add (.t 61) (.c (.int .i64 1))), none⟩, ⟨4, (some 63), (.mv (.t 9)), none⟩, ⟨5, (some 64), (.fld 1 (.t 12)),
  none⟩, ⟨6, (some 65), (.load false 1 (.t 64)), none⟩, ⟨7, (some 66), (.bin .add (.t 65) (.c (.int .i64 1))), none⟩, ⟨8, (some 67), (.idx 1 (.t 59) (.t 62)),
  none⟩, ⟨9, none, (.store 1 (.t 67) (.c (.bool true)) [6]), none⟩, ⟨10, (some 68), (.idx 1 (.t 63) (.t 66)), none⟩, ⟨11, none, (.store 1 (.t 68) (.c (.bool
  true)) []), none⟩]) .skip)))) (.reg [] false [⟨0, (some 69), (.bin .add (.t 30) (.c (.int .i64 1))), none⟩, ⟨0, (some 30), (.mv (.t 69)), none⟩]))))))))
  (.reg [] false [⟨0, (some 25), (.mv (.t 10)), none⟩, ⟨0, (some 26), (.bin .add (.t 25) (.c (.int .i64 1))), none⟩, ⟨0, (some 10), (.mv (.t 26)),
  none⟩])))))) (.seq (.reg [] false [⟨0, (some 70), (.mv (.t 9)), none⟩, ⟨0, (some 71), (.mv (.t 2)), none⟩, ⟨0, (some 72), (.bin .add (.t 71) (.c (.int .i64
  1))), none⟩, ⟨0, (some 73), (.idx 1 (.t 70) (.t 72)), none⟩, ⟨0, (some 74), (.load false 1 (.t 73)), none⟩, ⟨0, (some 8), (.mv (.t 74)), none⟩]) .ret)))))⟩
theorem is30 : FnIs prog 30 x30.fn := ⟨fun vs w => call30 vs w, _, _, func30, rfl, rfl, by kernel_rfl, by kernel_rfl⟩
theorem ok30 : okX x30.body = true := by kernel_rfl
theorem st30 : sitesP x30 x30.body := (sitesP_of rfl)

/-- zafra/zafralaw01.BulkOrder$1 -/
def x31 : XFn := ⟨15, [(4, none)], false, false,
  (.seq (.reg [] false [⟨0, (some 4), (.mv (.c (.int .i64 0))), none⟩]) (.seq (.seq (.reg [] false [⟨0, (some 5), (.mv (.t 0)), none⟩, ⟨0, (some 6), (.bin .lss
  (.t 5) (.c (.int .i64 0))), none⟩]) (.cond (.t 6) (.seq (.reg [] false [⟨0, (some 7), (.mv (.t 0)), none⟩, ⟨0, (some 4), (.mv (.t 7)), none⟩]) .ret) .skip))
  (.seq (.reg [] false [⟨0, (some 8), (.mv (.t 0)), none⟩, ⟨0, (some 9), (.load false 1 (.t 1)), none⟩, ⟨0, (some 10), (.conv .i64 (.t 9)), none⟩, ⟨0, (some
  11), (.bin .add (.t 8) (.t 10)), none⟩, ⟨0, (some 12), (.fld 0 (.t 2)), none⟩, ⟨0, (some 13), (.load false 1 (.t 12)), none⟩, ⟨0, (some 14), (.bin .rem (.t
  11) (.t 13)), none⟩, ⟨0, (some 4), (.mv (.t 14)), none⟩]) .ret)))⟩
theorem is31 : FnIs prog 31 x31.fn := ⟨fun vs w => call31 vs w, _, _, func31, rfl, rfl, by kernel_rfl, by kernel_rfl⟩
theorem ok31 : okX x31.body = true := by kernel_rfl
theorem st31 : sitesP x31 x31.body := (sitesP_of rfl)

/-- zafra/zafralaw01.M -/
def x32 : XFn := ⟨14, [(0, (some (true, 2)))], false, true,
  (.seq (.reg [] false [⟨0, (some 0), (.alloc [(.int .i64 0), .nilsl]), none⟩]) (.seq (.reg [] false [⟨0, (some 1), (.build [(.int .i64 0), (.int .i64 0), (.int
  .i64 0), (.int .i64 0)] [(0, (1, (.c (.int .i64 100)))), (1, (1, (.c (.int .i64 600)))), (2, (1, (.c (.int .i64 130)))), (3, (1, (.c (.int .i64 20))))]),
  none⟩, ⟨0, (some 2), (.build [(.int .i64 0), (.int .i64 0), (.bool false), (.int .i64 0), (.int .i64 0), (.int .i64 0), (.int .i64 0)] [(0, (1, (.c (.int
  .i64 (-1))))), (1, (1, (.c (.int .i64 0)))), (2, (1, (.c (.bool true)))), (3, (4, (.t 1)))]), none⟩, ⟨0, (some 3), (.build [(.int .i64 0), (.int .i64 0),
  (.bool false), (.int .i64 0), (.int .i64 0), (.int .i64 0), (.int .i64 0)] [(0, (1, (.c (.int .i64 0)))), (1, (1, (.c (.int .i64 1))))]), none⟩, ⟨0, (some
  4), (.build [(.int .i64 0), (.int .i64 0), (.int .i64 0), (.int .i64 0)] [(0, (1, (.c (.int .i64 5)))), (1, (1, (.c (.int .i64 150)))), (2, (1, (.c (.int
  .i64 125)))), (3, (1, (.c (.int .i64 8))))]), none⟩, ⟨0, (some 5), (.build [(.int .i64 0), (.int .i64 0), (.bool false), (.int .i64 0), (.int .i64 0), (.int
  .i64 0), (.int .i64 0)] [(0, (1, (.c (.int .i64 0)))), (1, (1, (.c (.int .i64 (-1))))), (2, (1, (.c (.bool true)))), (3, (4, (.t 4)))]), none⟩, ⟨0, (some
  6), (.build [(.int .i64 0), (.int .i64 0), (.int .i64 0), (.int .i64 0)] [(0, (1, (.c (.int .i64 90)))), (1, (1, (.c (.int .i64 40)))), (2, (1, (.c (.int
  .i64 0)))), (3, (1, (.c (.int .i64 6))))]), none⟩, ⟨0, (some 7), (.build [(.int .i64 0), (.int .i64 0), (.bool false), (.int .i64 0), (.int .i64 0), (.int
  .i64 0), (.int .i64 0)] [(0, (1, (.c (.int .i64 1)))), (1, (1, (.c (.int .i64 2)))), (2, (1, (.c (.bool true)))), (3, (4, (.t 6)))]), none⟩, ⟨0, (some 8),
  (.build [(.int .i64 0), (.int .i64 0), (.bool false), (.int .i64 0), (.int .i64 0), (.int .i64 0), (.int .i64 0)] [(0, (1, (.c (.int .i64 1)))), (1, (1, (.c
  (.int .i64 (-1)))))]), none⟩, ⟨0, (some 9), (.build [(.int .i64 0), (.int .i64 0), (.bool false), (.int .i64 0), (.int .i64 0), (.int .i64 0), (.int .i64
  0)] [(0, (1, (.c (.int .i64 2)))), (1, (1, (.c (.int .i64 (-1)))))]), none⟩, ⟨0, (some 10), (.build [(.int .i64 0), (.int .i64 0), (.int .i64 0), (.int .i64
  0)] [(0, (1, (.c (.int .i64 80)))), (1, (1, (.c (.int .i64 1)))), (2, (1, (.c (.int .i64 0)))), (3, (1, (.c (.int .i64 1))))]), none⟩, ⟨0, (some 11),
  (.build [(.int .i64 0), (.int .i64 0), (.bool false), (.int .i64 0), (.int .i64 0), (.int .i64 0), (.int .i64 0)] [(0, (1, (.c (.int .i64 2)))), (1, (1, (.c
  (.int .i64 (-1))))), (2, (1, (.c (.bool true)))), (3, (4, (.t 10)))]), none⟩, ⟨0, (some 12), (.bslice 7 7 [(.int .i64 0), (.int .i64 0), (.bool false),
  (.int .i64 0), (.int .i64 0), (.int .i64 0), (.int .i64 0)] [(0, (7, (.t 2))), (7, (7, (.t 3))), (14, (7, (.t 5))), (21, (7, (.t 7))), (28, (7, (.t 8))),
  (35, (7, (.t 9))), (42, (7, (.t 11)))]), none⟩, ⟨0, (some 13), (.build [(.int .i64 0), .nilsl] [(0, (1, (.c (.int .i64 3)))), (1, (1, (.t 12)))]), none⟩,
  ⟨0, none, (.store 2 (.t 0) (.t 13) []), none⟩]) .ret))⟩
theorem is32 : FnIs prog 32 x32.fn := ⟨fun vs w => call32 vs w, _, _, func32, rfl, rfl, by kernel_rfl, by kernel_rfl⟩
theorem ok32 : okX x32.body = true := by kernel_rfl
theorem st32 : sitesP x32 x32.body := (sitesP_of rfl)

/-- zafra/bulk.Fill -/
def x33 : XFn := ⟨138, [(6, none), (7, none)], false, false,
  (.seq (.reg [] false [⟨0, (some 3), (.box (.t 0)), none⟩, ⟨0, (some 5), (.box (.t 2)), none⟩, ⟨0, (some 6), (.mv (.c .nilsl)), none⟩, ⟨0, (some 7), (.mv (.c
  (.int .i64 0))), none⟩]) (.seq (.reg [(3, true)] false [⟨0, (some 18), (.load true 2 (.t 3)), none⟩, ⟨0, (some 19), (.callf false (.c (.fn (.func 23) []
  [])) [(.t 18)] []), none⟩, ⟨0, (some 17), (.mv (.t 19)), none⟩, ⟨0, (some 20), (.ext (.t 17) 0), none⟩, ⟨0, (some 21), (.ext (.t 17) 1), none⟩, ⟨0, (some
  8), (.mv (.t 20)), none⟩, ⟨0, (some 9), (.mv (.t 21)), none⟩]) (.seq (.block 0 (.seq (.reg [] false [⟨0, (some 23), (.mv (.t 9)), none⟩, ⟨0, (some 24),
  (.bin .neq (.t 23) (.c (.int .i64 0))), none⟩, ⟨0, (some 22), (.mv (.t 24)), none⟩]) (.cond (.t 22) (.seq (.reg [] false [⟨0, (some 25), (.mv (.t 9)),
  none⟩, ⟨0, (some 6), (.mv (.c .nilsl)), none⟩, ⟨0, (some 7), (.mv (.t 25)), none⟩]) .ret) (.seq (.reg [] false [⟨0, (some 27), (.mv (.t 1)), none⟩, ⟨0,
  (some 28), (.mv (.t 8)), none⟩, ⟨0, (some 29), (.len false (.t 28)), none⟩, ⟨0, (some 30), (.bin .sub (.t 29) (.c (.int .i64 1))), none⟩, ⟨0, (some 31),
  (.callf false (.c (.fn (.func 42) [] [])) [(.c (.int .i64 0)), (.t 27), (.t 30)] []), none⟩, ⟨0, (some 32), (.not (.t 31)), none⟩, ⟨0, (some 26), (.mv (.t
  32)), none⟩]) (.cond (.t 26) (.seq (.reg [] false [⟨0, (some 6), (.mv (.c .nilsl)), none⟩, ⟨0, (some 7), (.mv (.c (.int .i64 5))), none⟩]) .ret) (.seq (.reg
  [(5, true)] true [⟨0, (some 34), (.load true 4 (.t 5)), none⟩, ⟨1, (some 35), (.callf false (.c (.fn (.func 55) [] [])) [(.t 34), (.c (.int .i64
  (-1000000000))), (.c (.int .i64 1000000000))] []), none⟩, ⟨2, (some 36), (.not (.t 35)), none⟩, ⟨3, (some 37), (.mv (.t 36)), none⟩, ⟨4, (some 38), (.mv (.t
  8)), (some (37, false))⟩, ⟨5, (some 39), (.mv (.t 1)), (some (37, false))⟩, ⟨6, (some 40), (.idx 5 (.t 38) (.t 39)), (some (37, false))⟩, ⟨7, (some 41),
  (.fld 0 (.t 40)), (some (37, false))⟩, ⟨8, (some 42), (.load false 1 (.t 41)), (some (37, false))⟩, ⟨9, (some 43), (.bin .neq (.t 42) (.c (.int .i64 3))),
  (some (37, false))⟩, ⟨10, (some 44), (.mv (.t 43)), (some (37, false))⟩, ⟨11, (some 45), (.mv (.t 8)), (some (44, true))⟩, ⟨12, (some 46), (.mv (.t 1)),
  (some (44, true))⟩, ⟨13, (some 47), (.idx 5 (.t 45) (.t 46)), (some (44, true))⟩, ⟨14, (some 48), (.fld 1 (.t 47)), (some (44, true))⟩, ⟨15, (some 49),
  (.load true 4 (.t 48)), (some (44, true))⟩, ⟨16, (some 50), (.load true 4 (.t 5)), (some (44, true))⟩, ⟨17, (some 51), (.eqag true [0, 0, 0, 0] (.t 49) (.t
  50)), (some (44, true))⟩, ⟨18, (some 52), (.pick (.t 44) (.t 51) (.c (.bool false))), (some (37, false))⟩, ⟨19, (some 53), (.pick (.t 37) (.c (.bool true))
  (.t 52)), none⟩, ⟨20, (some 33), (.mv (.t 53)), none⟩]) (.cond (.t 33) (.seq (.reg [] false [⟨0, (some 6), (.mv (.c .nilsl)), none⟩, ⟨0, (some 7), (.mv (.c
  (.int .i64 22))), none⟩]) .ret) .skip))))))) (.seq (.reg [] false [⟨0, (some 54), (.mv (.t 8)), none⟩, ⟨0, (some 55), (.len false (.t 54)), none⟩, ⟨0, (some
  56), (.mksl 4 32 [(.int .i64 0), (.int .i64 0), (.int .i64 0), (.int .i64 0)] (.t 55) (.t 55)), none⟩, ⟨0, (some 10), (.alloc [.nilsl]), none⟩, ⟨0, none,
  (.store 1 (.t 10) (.t 56) []), none⟩]) (.seq (.reg [] false [⟨0, (some 57), (.load true 2 (.t 3)), none⟩, ⟨0, (some 11), (.alloc [(.int .i64 0), .nilsl]),
  none⟩, ⟨0, none, (.store 2 (.t 11) (.t 57) []), none⟩]) (.seq (.reg [] false [⟨0, (some 58), (.fld 1 (.t 3)), none⟩, ⟨0, (some 59), (.load false 1 (.t 58)),
  none⟩, ⟨0, (some 60), (.callf false (.c (.fn (.func 56) [] [])) [(.t 59)] []), none⟩, ⟨0, (some 61), (.fld 1 (.t 11)), none⟩, ⟨0, none, (.store 1 (.t 61)
  (.t 60) []), none⟩]) (.seq (.reg [] true [⟨0, (some 62), (.fld 1 (.t 11)), none⟩, ⟨1, (some 63), (.load false 1 (.t 62)), none⟩, ⟨2, (some 64), (.mv (.t
  1)), none⟩, ⟨3, (some 65), (.fld 1 (.t 11)), none⟩, ⟨4, (some 66), (.load false 1 (.t 65)), none⟩, ⟨5, (some 67), (.mv (.t 1)), none⟩, ⟨6, (some 68), (.load
  true 4 (.t 5)), none⟩, ⟨7, (some 69), (.idx 7 (.t 63) (.t 64)), none⟩, ⟨8, (some 70), (.fld 2 (.t 69)), none⟩, ⟨9, none, (.store 1 (.t 70) (.c (.bool true))
  [4, 6]), none⟩, ⟨10, (some 71), (.idx 7 (.t 66) (.t 67)), none⟩, ⟨11, (some 72), (.fld 3 (.t 71)), none⟩, ⟨12, none, (.store 4 (.t 72) (.t 68) []), none⟩])
  (.seq (.reg [] false [⟨0, (some 73), .mkmap, none⟩, ⟨0, (some 12), (.mv (.t 73)), none⟩]) (.seq (.seq (.reg [] false [⟨0, (some 74), (.fld 1 (.t 11)),
  none⟩, ⟨0, (some 75), (.load false 1 (.t 74)), none⟩, ⟨0, (some 76), (.len false (.t 75)), none⟩, ⟨0, (some 77), (.mv (.c (.int .i64 0))), none⟩]) (.block 1
  (.loop [6, 7, 10, 11, 12, 76, 77] (.seq (.reg [] false [⟨0, (some 78), (.bin .lss (.t 77) (.t 76)), none⟩]) (.seq (.cond (.t 78) .skip (.exit 1)) (.seq
  (.block 2 (.seq (.reg [] false [⟨0, (some 79), (.mv (.t 77)), none⟩, ⟨0, (some 13), (.mv (.t 79)), none⟩]) (.seq (.reg [] false [⟨0, (some 80), (.fld 1 (.t
  11)), none⟩, ⟨0, (some 81), (.load false 1 (.t 80)), none⟩, ⟨0, (some 82), (.mv (.t 13)), none⟩, ⟨0, (some 83), (.idx 7 (.t 81) (.t 82)), none⟩, ⟨0, (some
  14), (.mv (.t 83)), none⟩]) (.seq (.reg [] false [⟨0, (some 84), (.mv (.t 14)), none⟩, ⟨0, (some 85), (.nilck (.t 84)), none⟩, ⟨0, (some 86), (.fld 2 (.t
  85)), none⟩, ⟨0, (some 87), (.load false 1 (.t 86)), none⟩]) (.cond (.t 87) (.reg [] true [⟨0, (some 88), (.load false 1 (.t 10)), none⟩, ⟨1, (some 89),
  (.mv (.t 13)), none⟩, ⟨2, (some 90), (.mv (.t 14)), none⟩, ⟨3, (some 91), (.nilck (.t 90)), none⟩, ⟨4, (some 92), (.fld 3 (.t 91)), none⟩, ⟨5, (some 93),
  (.load true 4 (.t 92)), none⟩, ⟨6, (some 94), (.idx 4 (.t 88) (.t 89)), none⟩, ⟨7, none, (.store 4 (.t 94) (.t 93) []), none⟩]) (.seq (.reg [(12, false),
  (14, true)] true [⟨0, (some 95), (.mv (.t 12)), none⟩, ⟨1, (some 96), (.mv (.t 14)), none⟩, ⟨2, (some 97), (.nilck (.t 96)), none⟩, ⟨3, (some 98), (.fld 0
  (.t 97)), none⟩, ⟨4, (some 99), (.load false 1 (.t 98)), none⟩, ⟨6, (some 101), (.mv (.t 12)), none⟩, ⟨7, (some 102), (.mv (.t 14)), none⟩, ⟨8, (some 103),
  (.nilck (.t 102)), none⟩, ⟨9, (some 104), (.fld 1 (.t 103)), none⟩, ⟨10, (some 105), (.load false 1 (.t 104)), none⟩, ⟨5, (some 100), (.callf false (.c (.fn
  (.func 57) [] [])) [(.t 95), (.t 99)] [10]), none⟩, ⟨11, (some 106), (.callf false (.c (.fn (.func 57) [] [])) [(.t 101), (.t 105)] []), none⟩, ⟨12, (some
  107), (.bin .eql (.t 100) (.t 106)), none⟩]) (.cond (.t 107) (.reg [] false [⟨0, (some 108), (.mv (.t 14)), none⟩, ⟨0, (some 109), (.mv (.t 14)), none⟩, ⟨0,
  (some 110), (.build [(.int .i64 0), (.int .i64 0), (.int .i64 0), (.int .i64 0)] []), none⟩, ⟨0, (some 111), (.nilck (.t 108)), none⟩, ⟨0, (some 112), (.fld
  2 (.t 111)), none⟩, ⟨0, none, (.store 1 (.t 112) (.c (.bool true)) []), none⟩, ⟨0, (some 113), (.nilck (.t 109)), none⟩, ⟨0, (some 114), (.fld 3 (.t 113)),
  none⟩, ⟨0, none, (.store 4 (.t 114) (.t 110) []), none⟩]) (.reg [(12, false), (14, true)] true [⟨0, (some 115), (.mv (.t 12)), none⟩, ⟨1, (some 116), (.mv
  (.t 14)), none⟩, ⟨2, (some 117), (.nilck (.t 116)), none⟩, ⟨3, (some 118), (.fld 0 (.t 117)), none⟩, ⟨4, (some 119), (.load false 1 (.t 118)), none⟩, ⟨5,
  (some 120), (.mv (.t 14)), none⟩, ⟨6, (some 121), (.nilck (.t 120)), none⟩, ⟨7, (some 122), (.fld 1 (.t 121)), none⟩, ⟨8, (some 123), (.load false 1 (.t
  122)), none⟩, ⟨9, (some 124), (.callf false (.c (.fn (.func 58) [] [])) [(.t 115), (.t 119), (.t 123)] []), none⟩])))))))) (.reg [] false [⟨0, (some 125),
  (.bin .add (.t 77) (.c (.int .i64 1))), none⟩, ⟨0, (some 77), (.mv (.t 125)), none⟩]))))))) (.seq (.reg [] false [⟨0, (some 15), (.alloc [.nilfn]), none⟩])
  (.seq (.reg [(11, true)] false [⟨0, (some 126), (.mkf (.func 59) [] [(.t 11), (.t 15), (.t 10)]), none⟩, ⟨0, none, (.store 1 (.t 15) (.t 126) []), none⟩])
  (.seq (.reg [] false [⟨0, (some 127), (.load false 1 (.t 15)), none⟩, ⟨0, (some 128), (.callf false (.t 127) [(.c (.int .i64 (-1))), (.c (.int .i64 (-1)))]
  []), none⟩]) (.seq (.seq (.reg [(11, true)] false [⟨0, (some 129), (.load true 2 (.t 11)), none⟩, ⟨0, (some 130), (.callf false (.c (.fn (.func 36) [] []))
  [(.t 129)] []), none⟩]) (.block 3 (.rng 0 [15] (.t 130) [131] (.reg [] false [⟨0, (some 16), (.mv (.t 131)), none⟩]) (.block 4 (.reg [] true [⟨0, (some
  132), (.load false 1 (.t 15)), none⟩, ⟨1, (some 133), (.mv (.t 16)), none⟩, ⟨2, (some 134), (.idx 1 (.t 133) (.c (.int .i64 0))), none⟩, ⟨3, (some 135),
  (.load false 1 (.t 134)), none⟩, ⟨4, (some 136), (.callf false (.t 132) [(.t 135), (.c (.int .i64 (-1)))] []), none⟩]))))) (.seq (.reg [] false [⟨0, (some
  137), (.load false 1 (.t 10)), none⟩, ⟨0, (some 6), (.mv (.t 137)), none⟩, ⟨0, (some 7), (.mv (.c (.int .i64 0))), none⟩]) .ret))))))))))))))⟩
theorem is33 : FnIs prog 33 x33.fn := ⟨fun vs w => call33 vs w, _, _, func33, rfl, rfl, by kernel_rfl, by kernel_rfl⟩
theorem ok33 : okX x33.body = true := by kernel_rfl
theorem st33 : sitesP x33 x33.body := ⟨(sitesP_of rfl), ⟨(sitesP_of rfl), ⟨(sitesP_of rfl), ⟨(sitesP_of rfl), ⟨(sitesP_of rfl), ⟨(sitesP_of rfl), ⟨(sitesP_of rfl), ⟨(sitesP_of rfl), ⟨(sitesP_of rfl), ⟨(sitesP_of rfl), ⟨(sitesP_of rfl), ⟨(sitesP_of rfl), ⟨⟨(sitesP_of rfl), ⟨by kernel_rfl, (sitesP_of rfl), (sitesP_of rfl)⟩⟩, (sitesP_of rfl)⟩⟩⟩⟩⟩⟩⟩⟩⟩⟩⟩⟩⟩

end Go.Proofs.Ytdbikamciedfdaa
