/-
  A prefix that came in as an argument, read as two numbers.
-/
import Derived.Test.YtdlkdcdopjgbaaaDoorXx0
import Derived.Deep.Slices
import Derived.SizedLaws
set_option linter.unusedVariables false
set_option linter.unusedSimpArgs false
namespace Go.Proofs.YtdlkdcdopjgbaaaDoor.X
open Go.RowKit Go.ChangeShapes Go.WideShapes Go.Deep
theorem cells24 : Tryd.prog.cellsOf 24 = 2 := by kernel_rfl
theorem cells22 : Tryd.prog.cellsOf 22 = 1 := by kernel_rfl
theorem cells3 : Tryd.prog.cellsOf 3 = 1 := by kernel_rfl
section
variable {H : Type} {enc : TypeId × Value → H} {w : World} {base : Nat} {spare : Nat → Bool} {held : Bool}
theorem trod24 {fuel : Nat} {cs : List Value} {x : DataW H × List MemPlace} (h : DataW.trod enc Tryd.prog w base spare held fuel 24 cs = some x) :
    ∃ z : S24, cs = [.int .u32 z.f0, .int .i64 z.f1] ∧ (Lit.int .u32 z.f0).wf = true ∧ (Lit.int .i64 z.f1).wf = true := by
  obtain ⟨xs, n, rfl, hx, hlen, hxl, hf⟩ := DataW.trod_struct Tryd.underlying24 h
  rw [cells24] at hlen
  rcases cs with _ | ⟨c0, _ | ⟨c1, _ | ⟨c2, r⟩⟩⟩ <;> simp at hlen
  rcases xs with _ | ⟨x0, _ | ⟨x1, _ | ⟨x2, r⟩⟩⟩ <;> simp at hxl
  have h0 : DataW.trod enc Tryd.prog w base spare held n 22 (([c0, c1].drop 0).take (Tryd.prog.cellsOf 22)) = [x0, x1][0]? := hf 0 _ rfl
  have h1 : DataW.trod enc Tryd.prog w base spare held n 3 (([c0, c1].drop 1).take (Tryd.prog.cellsOf 3)) = [x0, x1][1]? := hf 1 _ rfl
  rw [cells22] at h0
  rw [cells3] at h1
  simp only [List.drop_zero, List.take_succ_cons, List.take_zero, List.drop_succ_cons, List.getElem?_cons_zero, List.getElem?_cons_succ] at h0 h1
  obtain ⟨n0, e0, -, w0⟩ := DataW.trod_int Tryd.underlying22 h0
  obtain ⟨n1, e1, -, w1⟩ := DataW.trod_int Tryd.underlying3 h1
  simp only [List.cons.injEq, and_true] at e0 e1
  subst e0; subst e1
  exact ⟨⟨n0, n1⟩, rfl, w0, w1⟩
theorem open_pre {cs : Array Value} {d : DataW H} {ps : List MemPlace} (h : DataW.Trod enc Tryd.prog w base spare held 24 (.agg cs) d ps) : ∃ z : S24, cs = #[.int .u32 z.f0, .int .i64 z.f1] ∧ (Lit.int .u32 z.f0).wf = true ∧ (Lit.int .i64 z.f1).wf = true := by
  obtain ⟨fuel, hf⟩ := h
  obtain ⟨z, e, hz⟩ := trod24 hf
  exact ⟨z, Array.toList_inj.1 (by simpa [Value.cells] using e), hz⟩
end
end Go.Proofs.YtdlkdcdopjgbaaaDoor.X
