/- The functions of the program as they are read, with remarks, part 3. No statement of the seed is proved here. -/
import Derived.KernelRfl
import Derived.Test.YtdbikamciedfdaaXE
import Derived.Test.YtdbikamciedfdaaProg
set_option maxRecDepth 100000
namespace Go.Proofs.Ytdbikamciedfdaa
open Go Go.DL Go.Proofs.Try

/-- slices.ContainsFunc of  of int,int -/
def x74 : XFn := ⟨9, [(4, none)], false, false,
  (.seq (.reg [] false [⟨0, (some 4), (.mv (.c (.bool false))), none⟩]) (.seq (.reg [(0, false), (1, false)] false [⟨0, (some 5), (.mv (.t 0)), none⟩, ⟨0, (some
  6), (.mv (.t 1)), none⟩, ⟨0, (some 7), (.callf false (.c (.fn (.func 80) [] [])) [(.t 5), (.t 6)] []), none⟩, ⟨0, (some 8), (.bin .geq (.t 7) (.c (.int .i64
  0))), none⟩, ⟨0, (some 4), (.mv (.t 8)), none⟩]) .ret))⟩
theorem is74 : FnIs prog 74 x74.fn := ⟨fun vs w => call74 vs w, _, _, func74, rfl, rfl, by kernel_rfl, by kernel_rfl⟩
theorem ok74 : okX x74.body = true := by kernel_rfl
theorem st74 : sitesP x74 x74.body := (sitesP_of rfl)

/-- (zafra/bulk.Masses).within$1 -/
def x75 : XFn := ⟨10, [(4, none)], false, false,
  (.seq (.reg [] false [⟨0, (some 4), (.mv (.c (.bool false))), none⟩]) (.seq (.reg [(1, true), (0, false), (2, true)] false [⟨0, (some 5), (.load false 1 (.t
  1)), none⟩, ⟨0, (some 6), (.mv (.t 0)), none⟩, ⟨0, (some 7), (.load false 1 (.t 2)), none⟩, ⟨0, (some 8), (.callf false (.c (.fn (.func 42) [] [])) [(.t 5),
  (.t 6), (.t 7)] []), none⟩, ⟨0, (some 9), (.not (.t 8)), none⟩, ⟨0, (some 4), (.mv (.t 9)), none⟩]) .ret))⟩
theorem is75 : FnIs prog 75 x75.fn := ⟨fun vs w => call75 vs w, _, _, func75, rfl, rfl, by kernel_rfl, by kernel_rfl⟩
theorem ok75 : okX x75.body = true := by kernel_rfl
theorem st75 : sitesP x75 x75.body := (sitesP_of rfl)

/-- slices.IndexFunc of  of zafra/bulk.Masses,zafra/bulk.Masses -/
def x76 : XFn := ⟨19, [(4, none)], false, false,
  (.seq (.reg [] false [⟨0, (some 4), (.mv (.c (.int .i64 0))), none⟩]) (.seq (.seq (.reg [] false [⟨0, (some 6), (.mv (.t 0)), none⟩, ⟨0, (some 7), (.len false
  (.t 6)), none⟩, ⟨0, (some 8), (.mv (.c (.int .i64 0))), none⟩]) (.block 0 (.loop [0, 1, 7, 8] (.seq (.reg [] false [⟨0, (some 9), (.bin .lss (.t 8) (.t 7)),
  none⟩]) (.seq (.cond (.t 9) .skip (.exit 0)) (.seq (.block 1 (.seq (.reg [] false [⟨0, (some 10), (.mv (.t 8)), none⟩, ⟨0, (some 5), (.mv (.t 10)), none⟩])
  (.seq (.reg [] false [⟨0, (some 11), (.mv (.t 1)), none⟩, ⟨0, (some 12), (.mv (.t 0)), none⟩, ⟨0, (some 13), (.mv (.t 5)), none⟩, ⟨0, (some 14), (.idx 4 (.t
  12) (.t 13)), none⟩, ⟨0, (some 15), (.load true 4 (.t 14)), none⟩, ⟨0, (some 16), (.callf false (.t 11) [(.t 15)] []), none⟩]) (.cond (.t 16) (.seq (.reg []
  false [⟨0, (some 17), (.mv (.t 5)), none⟩, ⟨0, (some 4), (.mv (.t 17)), none⟩]) .ret) .skip)))) (.reg [] false [⟨0, (some 18), (.bin .add (.t 8) (.c (.int
  .i64 1))), none⟩, ⟨0, (some 8), (.mv (.t 18)), none⟩]))))))) (.seq (.reg [] false [⟨0, (some 4), (.mv (.c (.int .i64 (-1)))), none⟩]) .ret)))⟩
theorem is76 : FnIs prog 76 x76.fn := ⟨fun vs w => call76 vs w, _, _, func76, rfl, rfl, by kernel_rfl, by kernel_rfl⟩
theorem ok76 : okX x76.body = true := by kernel_rfl
theorem st76 : sitesP x76 x76.body := (sitesP_of rfl)

/-- math/bits.Mul32 -/
def x77 : XFn := ⟨17, [(4, none), (5, none)], false, false,
  (.seq (.reg [] false [⟨0, (some 4), (.mv (.c (.int .u32 0))), none⟩, ⟨0, (some 5), (.mv (.c (.int .u32 0))), none⟩]) (.seq (.reg [] false [⟨0, (some 7), (.mv
  (.t 0)), none⟩, ⟨0, (some 8), (.conv .u64 (.t 7)), none⟩, ⟨0, (some 9), (.mv (.t 1)), none⟩, ⟨0, (some 10), (.conv .u64 (.t 9)), none⟩, ⟨0, (some 11), (.bin
  .mul (.t 8) (.t 10)), none⟩, ⟨0, (some 6), (.mv (.t 11)), none⟩]) (.seq (.reg [] false [⟨0, (some 12), (.mv (.t 6)), none⟩, ⟨0, (some 13), (.bin .shr (.t
  12) (.c (.int .u64 32))), none⟩, ⟨0, (some 14), (.conv .u32 (.t 13)), none⟩, ⟨0, (some 15), (.mv (.t 6)), none⟩, ⟨0, (some 16), (.conv .u32 (.t 15)), none⟩,
  ⟨0, (some 4), (.mv (.t 14)), none⟩, ⟨0, (some 5), (.mv (.t 16)), none⟩]) .ret)))⟩
theorem is77 : FnIs prog 77 x77.fn := ⟨fun vs w => call77 vs w, _, _, func77, rfl, rfl, by kernel_rfl, by kernel_rfl⟩
theorem ok77 : okX x77.body = true := by kernel_rfl
theorem st77 : sitesP x77 x77.body := (sitesP_of rfl)

/-- math/bits.Mul64 -/
def x78 : XFn := ⟨51, [(4, none), (5, none)], false, false,
  (.seq (.reg [] false [⟨0, (some 4), (.mv (.c (.int .u64 0))), none⟩, ⟨0, (some 5), (.mv (.c (.int .u64 0))), none⟩]) (.seq (.reg [] false [⟨0, (some 14), (.mv
  (.t 0)), none⟩, ⟨0, (some 15), (.bin .and (.t 14) (.c (.int .u64 4294967295))), none⟩, ⟨0, (some 6), (.mv (.t 15)), none⟩]) (.seq (.reg [] false [⟨0, (some
  16), (.mv (.t 0)), none⟩, ⟨0, (some 17), (.bin .shr (.t 16) (.c (.int .u64 32))), none⟩, ⟨0, (some 7), (.mv (.t 17)), none⟩]) (.seq (.reg [] false [⟨0,
  (some 18), (.mv (.t 1)), none⟩, ⟨0, (some 19), (.bin .and (.t 18) (.c (.int .u64 4294967295))), none⟩, ⟨0, (some 8), (.mv (.t 19)), none⟩]) (.seq (.reg []
  false [⟨0, (some 20), (.mv (.t 1)), none⟩, ⟨0, (some 21), (.bin .shr (.t 20) (.c (.int .u64 32))), none⟩, ⟨0, (some 9), (.mv (.t 21)), none⟩]) (.seq (.reg
  [] false [⟨0, (some 22), (.mv (.t 6)), none⟩, ⟨0, (some 23), (.mv (.t 8)), none⟩, ⟨0, (some 24), (.bin .mul (.t 22) (.t 23)), none⟩, ⟨0, (some 10), (.mv (.t
  24)), none⟩]) (.seq (.reg [] false [⟨0, (some 25), (.mv (.t 7)), none⟩, ⟨0, (some 26), (.mv (.t 8)), none⟩, ⟨0, (some 27), (.bin .mul (.t 25) (.t 26)),
  none⟩, ⟨0, (some 28), (.mv (.t 10)), none⟩, ⟨0, (some 29), (.bin .shr (.t 28) (.c (.int .u64 32))), none⟩, ⟨0, (some 30), (.bin .add (.t 27) (.t 29)),
  none⟩, ⟨0, (some 11), (.mv (.t 30)), none⟩]) (.seq (.reg [] false [⟨0, (some 31), (.mv (.t 11)), none⟩, ⟨0, (some 32), (.bin .and (.t 31) (.c (.int .u64
  4294967295))), none⟩, ⟨0, (some 12), (.mv (.t 32)), none⟩]) (.seq (.reg [] false [⟨0, (some 33), (.mv (.t 11)), none⟩, ⟨0, (some 34), (.bin .shr (.t 33) (.c
  (.int .u64 32))), none⟩, ⟨0, (some 13), (.mv (.t 34)), none⟩]) (.seq (.reg [] false [⟨0, (some 35), (.mv (.t 12)), none⟩, ⟨0, (some 36), (.mv (.t 6)),
  none⟩, ⟨0, (some 37), (.mv (.t 9)), none⟩, ⟨0, (some 38), (.bin .mul (.t 36) (.t 37)), none⟩, ⟨0, (some 39), (.bin .add (.t 35) (.t 38)), none⟩, ⟨0, (some
  12), (.mv (.t 39)), none⟩]) (.seq (.reg [] false [⟨0, (some 40), (.mv (.t 7)), none⟩, ⟨0, (some 41), (.mv (.t 9)), none⟩, ⟨0, (some 42), (.bin .mul (.t 40)
  (.t 41)), none⟩, ⟨0, (some 43), (.mv (.t 13)), none⟩, ⟨0, (some 44), (.bin .add (.t 42) (.t 43)), none⟩, ⟨0, (some 45), (.mv (.t 12)), none⟩, ⟨0, (some 46),
  (.bin .shr (.t 45) (.c (.int .u64 32))), none⟩, ⟨0, (some 47), (.bin .add (.t 44) (.t 46)), none⟩, ⟨0, (some 4), (.mv (.t 47)), none⟩]) (.seq (.reg [] false
  [⟨0, (some 48), (.mv (.t 0)), none⟩, ⟨0, (some 49), (.mv (.t 1)), none⟩, ⟨0, (some 50), (.bin .mul (.t 48) (.t 49)), none⟩, ⟨0, (some 5), (.mv (.t 50)),
  none⟩]) .ret))))))))))))⟩
theorem is78 : FnIs prog 78 x78.fn := ⟨fun vs w => call78 vs w, _, _, func78, rfl, rfl, by kernel_rfl, by kernel_rfl⟩
theorem ok78 : okX x78.body = true := by kernel_rfl
theorem st78 : sitesP x78 x78.body := (sitesP_of rfl)

/-- slices.Index of  of int,int -/
def x79 : XFn := ⟨19, [(4, none)], false, false,
  (.seq (.reg [] false [⟨0, (some 4), (.mv (.c (.int .i64 0))), none⟩]) (.seq (.seq (.reg [] false [⟨0, (some 6), (.mv (.t 0)), none⟩, ⟨0, (some 7), (.len false
  (.t 6)), none⟩, ⟨0, (some 8), (.mv (.c (.int .i64 0))), none⟩]) (.block 0 (.loop [0, 1, 7, 8] (.seq (.reg [] false [⟨0, (some 9), (.bin .lss (.t 8) (.t 7)),
  none⟩]) (.seq (.cond (.t 9) .skip (.exit 0)) (.seq (.block 1 (.seq (.reg [] false [⟨0, (some 10), (.mv (.t 8)), none⟩, ⟨0, (some 5), (.mv (.t 10)), none⟩])
  (.seq (.reg [] false [⟨0, (some 11), (.mv (.t 1)), none⟩, ⟨0, (some 12), (.mv (.t 0)), none⟩, ⟨0, (some 13), (.mv (.t 5)), none⟩, ⟨0, (some 14), (.idx 1 (.t
  12) (.t 13)), none⟩, ⟨0, (some 15), (.load false 1 (.t 14)), none⟩, ⟨0, (some 16), (.bin .eql (.t 11) (.t 15)), none⟩]) (.cond (.t 16) (.seq (.reg [] false
  [⟨0, (some 17), (.mv (.t 5)), none⟩, ⟨0, (some 4), (.mv (.t 17)), none⟩]) .ret) .skip)))) (.reg [] false [⟨0, (some 18), (.bin .add (.t 8) (.c (.int .i64
  1))), none⟩, ⟨0, (some 8), (.mv (.t 18)), none⟩]))))))) (.seq (.reg [] false [⟨0, (some 4), (.mv (.c (.int .i64 (-1)))), none⟩]) .ret)))⟩
theorem is79 : FnIs prog 79 x79.fn := ⟨fun vs w => call79 vs w, _, _, func79, rfl, rfl, by kernel_rfl, by kernel_rfl⟩
theorem ok79 : okX x79.body = true := by kernel_rfl
theorem st79 : sitesP x79 x79.body := (sitesP_of rfl)

/-- slices.IndexFunc of  of int,int -/
def x80 : XFn := ⟨19, [(4, none)], false, false,
  (.seq (.reg [] false [⟨0, (some 4), (.mv (.c (.int .i64 0))), none⟩]) (.seq (.seq (.reg [] false [⟨0, (some 6), (.mv (.t 0)), none⟩, ⟨0, (some 7), (.len false
  (.t 6)), none⟩, ⟨0, (some 8), (.mv (.c (.int .i64 0))), none⟩]) (.block 0 (.loop [0, 1, 7, 8] (.seq (.reg [] false [⟨0, (some 9), (.bin .lss (.t 8) (.t 7)),
  none⟩]) (.seq (.cond (.t 9) .skip (.exit 0)) (.seq (.block 1 (.seq (.reg [] false [⟨0, (some 10), (.mv (.t 8)), none⟩, ⟨0, (some 5), (.mv (.t 10)), none⟩])
  (.seq (.reg [] false [⟨0, (some 11), (.mv (.t 1)), none⟩, ⟨0, (some 12), (.mv (.t 0)), none⟩, ⟨0, (some 13), (.mv (.t 5)), none⟩, ⟨0, (some 14), (.idx 1 (.t
  12) (.t 13)), none⟩, ⟨0, (some 15), (.load false 1 (.t 14)), none⟩, ⟨0, (some 16), (.callf false (.t 11) [(.t 15)] []), none⟩]) (.cond (.t 16) (.seq (.reg
  [] false [⟨0, (some 17), (.mv (.t 5)), none⟩, ⟨0, (some 4), (.mv (.t 17)), none⟩]) .ret) .skip)))) (.reg [] false [⟨0, (some 18), (.bin .add (.t 8) (.c
  (.int .i64 1))), none⟩, ⟨0, (some 8), (.mv (.t 18)), none⟩]))))))) (.seq (.reg [] false [⟨0, (some 4), (.mv (.c (.int .i64 (-1)))), none⟩]) .ret)))⟩
theorem is80 : FnIs prog 80 x80.fn := ⟨fun vs w => call80 vs w, _, _, func80, rfl, rfl, by kernel_rfl, by kernel_rfl⟩
theorem ok80 : okX x80.body = true := by kernel_rfl
theorem st80 : sitesP x80 x80.body := (sitesP_of rfl)

end Go.Proofs.Ytdbikamciedfdaa
