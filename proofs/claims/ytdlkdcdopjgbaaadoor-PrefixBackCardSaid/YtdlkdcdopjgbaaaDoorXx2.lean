-- laid by ext.py (this session's) over the kit's print; the functions named EXT in it are proved by hand
import Derived.Test.YtdlkdcdopjgbaaaDoorXx0
namespace Go.Proofs.YtdlkdcdopjgbaaaDoor.X
open Go.RowKit Go.Proofs.YtdlkdcdopjgbaaaDoorW.PrintWords Go.Proofs.YtdlkdcdopjgbaaaDoorW.PrintLast Go.Proofs.YtdlkdcdopjgbaaaDoorW.PrintMore
attribute [local go_sem] max2_int min2_int max_two min_two max_three min_three max_four min_four   -- for this text's walks alone
set_option linter.unusedVariables false
set_option linter.unusedSimpArgs false

-- EXT vizard/prefix.Parse
/-! ### prefix_Parse: function 12 -/
def prefix_Parse.f (s : ByteArray) : Option (Int × Bool) := if s.data.toList.length ≤ 281474976710656 then some (parseS s.data.toList) else none
theorem prefix_Parse.calls (s : ByteArray) (r0 : Int) (r1 : Bool) (w : World) (hL : LaidD w) (h : prefix_Parse.f s = some (r0, r1)) :
    Calls Tryd.prog 12 #[.string s] w fun e w' => e = .returned (.tuple #[.int .u32 r0, .bool r1]) ∧ Below w.heap.size w w' := by
  unfold prefix_Parse.f at h
  split at h
  case isFalse => exact absurd h (by simp)
  case isTrue hc =>
  have h := Option.some.inj h
  have := parse_calls s.data.toList hc w hL
  rw [h] at this
  exact this

end Go.Proofs.YtdlkdcdopjgbaaaDoor.X
