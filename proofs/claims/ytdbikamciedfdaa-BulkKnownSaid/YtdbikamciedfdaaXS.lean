/- Small facts for the steps. No statement of the seed is proved here. -/
import Derived.Test.YtdbikamciedfdaaXR
namespace Go.DL
abbrev I (n : Int) : AV := .int .i64 n
theorem wrap_ok {n : Int} (h1 : -9223372036854775808 ≤ n) (h2 : n ≤ 9223372036854775807) : IntKind.i64.wrap n = n := by
  simp [IntKind.wrap, IntKind.bits, IntKind.signed]
  omega
theorem upd_eq (e : Env) (k j : Nat) (v : AV) : upd e k v j = if j = k then v else e j := rfl
end Go.DL
