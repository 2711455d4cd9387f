-- laid by ext.py (this session's) over the kit's print; the functions named EXT in it are proved by hand
import Derived.Test.YtdlkdcdopjgbaaaDoorXx0
import Derived.Test.YtdlkdcdopjgbaaaDoorRead
namespace Go.Proofs.YtdlkdcdopjgbaaaDoor.X
open Go.RowKit Go.Proofs.YtdlkdcdopjgbaaaDoorW.PrintWords Go.Proofs.YtdlkdcdopjgbaaaDoorW.PrintLast Go.Proofs.YtdlkdcdopjgbaaaDoorW.PrintMore
attribute [local go_sem] max2_int min2_int max_two min_two max_three min_three max_four min_four   -- for this text's walks alone
set_option linter.unusedVariables false
set_option linter.unusedSimpArgs false

-- EXT vizard/prefix.Read
/-! ### prefix_Read: function 14 -/
def prefix_Read.f (s : ByteArray) : Option (Int × Int × Bool) := if s.data.toList = [] then some (0, 0, false) else if s.data.toList.length ≤ 1000 then (match Go.Lib.atoiAll (cutS s.data.toList).2.1 with
  | .ok n => if (cutS s.data.toList).2.2 = true ∧ (parseS (cutS s.data.toList).1).2 = true ∧ Go.Lib.itoa n = (cutS s.data.toList).2.1 ∧ 0 ≤ (parseS (cutS s.data.toList).1).1 ∧ (parseS (cutS s.data.toList).1).1 < 4294967296 ∧ okP (parseS (cutS s.data.toList).1).1 n then some ((parseS (cutS s.data.toList).1).1, n, true) else none
  | _ => none) else none
theorem prefix_Read.calls (s : ByteArray) (r0 r1 : Int) (r2 : Bool) (w : World) (hL : LaidD w) (h : prefix_Read.f s = some (r0, r1, r2)) :
    Calls Tryd.prog 14 #[.string s] w fun e w' => e = .returned (.tuple #[.agg #[.int .u32 r0, .int .i64 r1], .bool r2]) ∧ Below w.heap.size w w' := by
  obtain ⟨l⟩ := s
  obtain ⟨l⟩ := l
  unfold prefix_Read.f at h
  simp only at h
  split at h
  · rename_i h0
    simp only [Option.some.injEq, Prod.mk.injEq] at h
    obtain ⟨rfl, rfl, rfl⟩ := h
    subst h0
    exact read_nil w hL
  · split at h
    · rename_i hl
      split at h
      · rename_i n ha
        split at h
        · rename_i hc
          obtain ⟨c1, c2, c3, c4, c5, c6⟩ := hc
          simp only [Option.some.injEq, Prod.mk.injEq] at h
          obtain ⟨rfl, rfl, rfl⟩ := h
          have hf : (cutS l).1.length ≤ l.length ∧ (cutS l).2.1.length ≤ l.length := by
            unfold cutS
            split
            · simp
            · simp; omega
          exact read_good l (cutS l).1 (cutS l).2.1 (by omega) (by omega) (by omega) _ _ (by rw [← c1]) (by rw [← c2]) ha c3 c4 c5 c6 w hL
        · cases h
      · cases h
    · cases h

end Go.Proofs.YtdlkdcdopjgbaaaDoor.X
