/-
  A statement that draws its order, inside a round of a range over a function: where no operation is a defer, it is walked as it is outside one.
-/
import Derived.Test.YtdlkdcdopjgbaaaDoorRange
import Derived.BigRegionIn
set_option linter.unusedVariables false
set_option linter.unusedSimpArgs false
namespace Go.Proofs.YtdlkdcdopjgbaaaDoor.X
open Go.RowKit Go.Shelf Go
theorem op_round {F : Fence} {n : Nat} {P : Program} {Q : Exit → Act → World → Prop} {o : Oper} {a : Act} {w : World} {K : Act → World → Prop} {l : Nat} (hro : F.round = none) (ho : ∀ c, o.op ≠ .defer c) (h : o.wpIn F n P a w K Q) : o.wpIn (F.inRound l) n P a w K Q := by
  unfold Oper.wpIn at *
  refine ⟨h.1, ?_⟩
  have h2 := h.2
  rw [hro, Oper.semAt_eq _ _ _ ho] at h2
  rw [Oper.semAt_eq _ _ _ ho]
  generalize (execOp a.eval o).run P w = r at *
  cases r with
  | ok x w' => cases x <;> exact h2
  | halt x w' => cases x <;> exact h2
theorem any_round {F : Fence} {n : Nat} {P : Program} {md : Region.Mode} {ops : Array Oper} {Q : Exit → Act → World → Prop} {l : Nat} (hro : F.round = none) (ho : ∀ (i : Nat) (o : Oper), ops[i]? = some o → ∀ c, o.op ≠ .defer c) :
    ∀ (fuel : Nat) (listed : Array Bool) (a : Act) (w : World), wpAnyIn F n P md ops Q fuel listed a w → wpAnyIn (F.inRound l) n P md ops Q fuel listed a w
  | 0, _, _, _, h => h
  | fuel + 1, listed, a, w, ⟨h1, h2⟩ => by
    refine ⟨h1, fun i hi => ?_⟩
    have h3 := wpOpIn_mono (fun a w h => any_round (l := l) hro ho fuel (listed.setIfInBounds i true) a w h) (h2 i hi)
    unfold wpOpIn at *
    cases ho' : ops[i]? with
    | none => rw [ho'] at h3; exact h3
    | some o =>
      rw [ho'] at h3
      dsimp only at h3 ⊢
      split
      · rename_i hw; rw [if_pos hw] at h3; exact op_round hro (ho i o ho') h3
      · rename_i hw; rw [if_neg hw] at h3; exact h3
end Go.Proofs.YtdlkdcdopjgbaaaDoor.X
