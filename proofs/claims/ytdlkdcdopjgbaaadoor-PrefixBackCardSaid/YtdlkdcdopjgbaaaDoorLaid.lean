/-
  What the listed package-level variables hold, as the walks want it, and that it stays so in later worlds.
-/
import Derived.Test.YtdlkdcdopjgbaaaDoorShelf
import Derived.Lib.TrailingZeros
set_option linter.unusedVariables false
set_option linter.unusedSimpArgs false
namespace Go.Proofs.YtdlkdcdopjgbaaaDoor.X
open Go.RowKit Go
structure LaidD (w : World) : Prop where
  pow : Lib.TabIs Tryd.prog w "internal/strconv.uint64pow10" .u64 Lib.pow10Tab
  tz : Lib.TabIs Tryd.prog w "math/bits.deBruijn32tab" .u8 (List.map (fun (n : Nat) => (n : Int)) Lib.deBruijn32tab)
  syn : ∃ tp p, w.var? Tryd.prog "strconv.ErrSyntax" = some #[.iface tp p]
  rng : ∃ tp p, w.var? Tryd.prog "strconv.ErrRange" = some #[.iface tp p]
theorem var_below {P : Program} {n : String} {w w' : World} {cs : Array Value} (h : w.var? P n = some cs) (hb : Below w.heap.size w w') : w'.var? P n = some cs := by
  unfold World.var? at *
  rw [Option.bind_eq_some_iff] at *
  obtain ⟨g, hg, h⟩ := h
  refine ⟨g, hg, ?_⟩
  cases ho : w.heap[g]? with
  | none => rw [ho] at h; cases h
  | some o =>
    have := hb.block g (Array.getElem?_eq_some_iff.1 ho).1
    rw [this]
    exact h
theorem LaidD.below {w w' : World} (h : LaidD w) (hb : Below w.heap.size w w') : LaidD w' :=
  ⟨var_below h.pow hb, var_below h.tz hb, h.syn.imp fun _ h => h.imp fun _ h => var_below h hb, h.rng.imp fun _ h => h.imp fun _ h => var_below h hb⟩
end Go.Proofs.YtdlkdcdopjgbaaaDoor.X
