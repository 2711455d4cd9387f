/-
  What the numbers of an argument's rule are.
-/
import Derived.Test.YtcpneggifmldoaaOpen
import Derived.Test.YtcpneggifmldoaaSem
namespace Go.Proofs.Ytcpneggifmldoaa.X
open Go.RowKit Go.Proofs.YtcpneggifmldoaaW.PrintWords Go.ChangeShapes Go.WideShapes Go.Deep
theorem adr_of {z : S40} (h : Wf40 z) : AdrR z := by
  have := h.2.1
  unfold AdrR
  simp only [Lit.wf, IntKind.min, IntKind.max, IntKind.signed, IntKind.bits, Bool.and_eq_true] at this
  simp at this
  omega
theorem u32_of {a : Int} (h : (Lit.int .u32 a).wf = true) : 0 ≤ a ∧ a < 4294967296 := by
  simp only [Lit.wf, IntKind.min, IntKind.max, IntKind.signed, IntKind.bits, Bool.and_eq_true] at h
  simp at h
  omega
section
variable {H : Type} {enc : TypeId × Value → H} {w : World} {base : Nat} {spare : Nat → Bool} {held : Bool}
/-- A rule that came in. -/
theorem open_rule {cs : Array Value} {d : DataW H} {ps : List MemPlace} (h : DataW.Trod enc Try.prog w base spare held 40 (.agg cs) d ps) : ∃ z : S40, cs = #[.bool z.f0, .int .i64 z.f1, .int .u32 z.f2.f0, .int .i64 z.f2.f1, .int .i64 z.f3, .int .i64 z.f4] ∧ Wf40 z := by
  obtain ⟨fuel, hf⟩ := h
  obtain ⟨z, e, hz⟩ := trod40 hf
  exact ⟨z, Array.toList_inj.1 (by simpa [Value.cells] using e), hz⟩
end
end Go.Proofs.Ytcpneggifmldoaa.X
